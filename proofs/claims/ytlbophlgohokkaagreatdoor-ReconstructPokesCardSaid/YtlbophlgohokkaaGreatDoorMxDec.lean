/-
  Digits to the base 10^9, as integers.
-/
import Derived.Test.YtlbophlgohokkaaGreatDoorMxWord
import Derived.Test.YtlbophlgohokkaaGreatDoorMxTab
import Derived.Test.YtlbophlgohokkaaGreatDoorProg
set_option linter.all false
namespace Go.Mx
open Go
variable {d:Int} {j k n:Nat} {l:List Int}
def vI:List Int->Int
 |[]=>0
 |d::l=>d+1000000000*vI l
def pI(k:Nat):Int:=1000000000^k
theorem rU(k:Nat):pI (k+1)=1000000000*pI k:=by unfold pI;rw[Int.pow_succ,Int.mul_comm]
theorem Ykc:pI 0=1:=rfl
theorem zU(k:Nat):0<pI k:=by unfold pI;exact Int.pow_pos (by decide)
theorem LR(i j:Nat):pI (i+j)=pI i*pI j:=by unfold pI;exact Int.pow_add ..
theorem Rh:∀(l m:List Int),vI (l++m)=vI l+pI l.length*vI m
 |[],m=>by simp[vI,pI]
 |d::l,m=>by
  simp only[yE,vI,Rh l m,bh,rU]
  grind
theorem zV(l:List Int)(d:Int):vI (l++[d])=vI l+pI l.length*d:=by simp[Rh,vI]
theorem Ri(n:Nat):vI (List.replicate n 0)=0:=by
 induction n with
 |zero=>rfl
 |succ n ih=>simp[List.replicate_succ,vI,ih]
theorem mM{α:Type}{l:List α}{d:α}(h:l[k]?=some d):k<l.length:=by
 apply qd;intro hc;rw[gJ hc]at h;cases h
theorem vX(h:l[k]?=some d):vI (l.take (k+1))=vI (l.take k)+pI k*d:=by
 have hk:=mM h
 rw[pV,h]
 simp only[Option.toList]
 rw[zV,fR,nA (by omega)]
theorem HT(l:List Int)(k:Nat)(hk:k<=l.length):vI l=vI (l.take k)+pI k*vI (l.drop k):=by
 have:=Rh (l.take k) (l.drop k)
 rw[yD,fR,nA hk]at this
 exact this
theorem zW:∀{l:List Int} {k:Nat} {c:Int},l[k]?=some c->∀(v:Int),vI (l.set k v)=vI l+pI k*(v-c)
 |[],k,c,h,v=>by simp at h
 |d::l,0,c,h,v=>by
  simp at h;subst h
  simp only[List.set_cons_zero,vI,Ykc];omega
 |d::l,k+1,c,h,v=>by
  have:=zW (l:=l) (k:=k) (c:=c) (by simpa using h) v
  simp only[List.set_cons_succ,vI,this,rU]
  grind
def Di(l:List Int):Prop:=∀d∈l,0<=d/\d<1000000000
theorem Di.get(h:Di l){k:Nat}{d:Int}(hd:l[k]?=some d):0<=d/\d<1000000000:=h d (du hd)
theorem Di.set(h:Di l){k:Nat}{v:Int}(h0:0<=v)(h1:v<1000000000):Di (l.set k v):=fun d hd=>by
 rcases A8 hd with hd|rfl
 ·exact h d hd
 ·exact⟨h0,h1⟩
theorem Di.app{m:List Int}(h:Di l)(h':Di m):Di (l++m):=fun d hd=>by
 rcases oF.1 hd with hd|hd
 ·exact h d hd
 ·exact h' d hd
theorem Di.one{v:Int}(h0:0<=v)(h1:v<1000000000):Di [v]:=fun d hd=>by simp at hd;subst hd;exact⟨h0,h1⟩
theorem Di.nil:Di []:=fun d hd=>by simp at hd
theorem Di.BC(n:Nat):Di (List.replicate n 0):=fun d hd=>by rw[FV]at hd;rw[hd.2];decide
theorem Di.take(h:Di l)(k:Nat):Di (l.take k):=fun d hd=>h d (rQ hd)
theorem Di.drop(h:Di l)(k:Nat):Di (l.drop k):=fun d hd=>h d (List.mem_of_mem_drop hd)
theorem rV:∀{l:List Int},Di l->0<=vI l
 |[],_=>Int.le_refl _
 |d::l,h=>by
  have h1:=h d jk
  have h2:=rV (l:=l) fun e he=>h e (iz _ he)
  simp only[vI];omega
theorem rW:∀{l:List Int},Di l->vI l<pI l.length
 |[],_=>by decide
 |d::l,h=>by
  have h1:=h d jk
  have h2:=rW (l:=l) fun e he=>h e (iz _ he)
  simp only[vI,bh,rU];omega
def zI(l:List Int)(j:Nat):Int:=l[j]?.getD 0
theorem Yi4(h:l[j]?=some d):zI l j=d:=by simp[zI,h]
theorem Rj(h:l.length<=j):zI l j=0:=by simp[zI,h]
theorem Rk{l:List Int}(h:Di l)(j:Nat):0<=zI l j/\zI l j<1000000000:=by
 unfold zI
 cases hj:l[j]? with
 |none=>simp
 |some d=>exact h.get hj
theorem Rl{l:List Int}{k:Nat}:vI (l.take (k+1))=vI (l.take k)+pI k*zI l k:=by
 unfold zI
 cases h:l[k]? with
 |some d=>exact vX h
 |none=>
  have hk:l.length<=k:=by
   apply vN;intro hc;rw[dk hc]at h;cases h
  rw[eF (by omega),eF hk];simp
theorem ke{α:Type}{l:List α}{d:α}(h:l[k]?=some d):l.drop k=d::l.drop (k+1):=by
 obtain⟨hk,hs⟩:=yB.1 h
 rw[<-hs];exact CV hk
def dI(l:List Int):List V:=l.map fun n=>.int .i64 n
theorem gk(l:List Int):(dI l).length=l.length:=by simp[dI]
theorem fU{n:Int}(h:l[j]?=some n):(dI l)[j]?=some (.int .i64 n):=by simp[dI,h]
attribute [simp] gk
theorem yU{v:Int}(h:k<l.length):ag (dI l) k [.int .i64 v]=dI (l.set k v):=by
 unfold ag dI
 apply m7
 intro j
 simp only[vO,jf,List.getElem?_set]
 rw[qw,List.getElem?_append,fR,oa]
 by_cases h1:j<k
 ·rw[aF (by omega),gV,aF h1,jf,au (by omega)]
 ·rw[au (by omega)]
  by_cases h2:j=k
  ·subst h2
   rw[show j-min j l.length=0 by omega,aF rfl,aF h];rfl
  ·rw[show j-min k l.length=(j-k-1)+1 by omega,au (by omega)]
   simp only[LJ,Bh,fG,jf]
   rw[show k+1+(j-k-1)=j by omega]
theorem Rm:cN [.int .i64 0] n=dI (List.replicate n 0):=by rw[WN];simp[dI]
def oM:List Int->List Int
 |[]=>[]
 |d::l=>match oM l with
  |[]=>if d=0 then [] else [d]
  |t=>d::t
theorem Rn:∀(l:List Int),oM (l++[0])=oM l
 |[]=>rfl
 |d::l=>by simp only[yE,oM,Rn l]
theorem WO{d:Int}(hd:d≠0):∀(l:List Int),oM (l++[d])=l++[d]
 |[]=>by simp[oM,hd]
 |e::l=>by
  simp only[yE,oM,WO hd l]
  cases l<;>rfl
theorem WQ:∀(l:List Int),(oM l).length<=l.length
 |[]=>aS _
 |d::l=>by
  have ih:=WQ l
  simp only[oM]
  split
  ·split<;>simp
  ·simp only[bh];omega
def ds(n:Nat):List Int:=if h:n=0 then [] else ((n%1000000000:Nat):Int)::ds (n/1000000000)
termination_by n
decreasing_by exact zJ (by omega) (by decide)
theorem qA:ds 0=[]:=by rw[ds];simp
theorem xg(h:n≠0):ds n=((n%1000000000:Nat):Int)::ds (n/1000000000):=by rw[ds];simp[h]
theorem fH:∀(n:Nat),vI (ds n)=n:=by
 intro n
 induction n using Nat.strongRecOn with
 |_ n ih=>
  by_cases h:n=0
  ·subst h;rw[qA];rfl
  ·rw[xg h]
   simp only[vI]
   rw[ih (n/1000000000) (zJ (by omega) (by decide))]
   omega
theorem fA(n:Nat):Di (ds n):=by
 induction n using Nat.strongRecOn with
 |_ n ih=>
  by_cases h:n=0
  ·subst h;rw[qA];exact Di.nil
  ·rw[xg h]
   intro d hd
   rcases kb.1 hd with rfl|hd
   ·omega
   ·exact ih (n/1000000000) (zJ (by omega) (by decide)) d hd
theorem Ro:∀{l:List Int},Di l->oM l=ds (vI l).toNat
 |[],_=>by simp[oM,vI,qA]
 |d::l,h=>by
  have hl:Di l:=fun e he=>h e (iz _ he)
  have ih:=Ro hl
  have hd:=h d jk
  have hn:=rV hl
  simp only[oM,vI,ih]
  by_cases h0:vI l=0
  ·rw[h0]
   simp only[Int.toNat_zero,qA,Int.mul_zero,Int.add_zero]
   by_cases oO:d=0
   ·simp[oO,qA]
   ·rw[xg (by omega),uU (by omega),wY (by omega),qA];simp[oO];omega
  ·have h3:(d+1000000000*vI l).toNat≠0:=by omega
   rw[xg h3]
   have h1:(d+1000000000*vI l).toNat/1000000000=(vI l).toNat:=by omega
   have h2:(((d+1000000000*vI l).toNat%1000000000:Nat):Int)=d:=by omega
   rw[h1,h2]
   split
   ·rename_i hc;rw[xg (by omega)]at hc;cases hc
   ·rfl
theorem Dt(h:Di l){n:Nat}(hn:vI l=n):oM l=ds n:=by rw[Ro h,hn];rfl
theorem Yl0(n:Nat):oM (ds n)=ds n:=Dt (fA n) (fH n)
theorem zX:ds n=[]↔n=0:=by
 constructor
 ·intro h
  by_cases h0:n=0
  ·exact h0
  ·rw[xg h0]at h;cases h
 ·intro h;rw[h,qA]
theorem Yl1(h:n≠0):∃d,(ds n)[(ds n).length-1]?=some d/\0<d:=by
 have bJ:ds n≠[]:=fun hc=>h (zX.1 hc)
 obtain⟨l,d,hd⟩:∃l d,ds n=l++[d]:=⟨(ds n).dropLast,(ds n).getLast bJ,(Q4 bJ).symm⟩
 refine⟨d,by rw[hd,fQ,vO];simp,?_⟩
 have h1:=fA n d (by rw[hd];exact List.mem_append_right _ jk)
 have:d≠0:=fun h0=>by
  have h2:=Yl0 n
  rw[hd,h0,Rn]at h2
  have:=WQ l
  rw[h2]at this;simp at this;omega
 omega
theorem Gd{n k:Nat}(h:n<1000000000^k):(ds n).length<=k:=by
 induction k generalizing n with
 |zero=>
  have:n=0:=by simpa using h
  rw[this,qA];simp
 |succ k ih=>
  by_cases h0:n=0
  ·rw[h0,qA];simp
  ·rw[xg h0]
   have:=ih (n:=n/1000000000) ((nC (by decide)).2 (by rw[<-fL];exact h))
   simp only[bh];omega
def Dn(h:T O)(N:Nat)(v:V)(n:Nat):Prop:=Sl h N v (dI (ds n))
theorem Dn.ae{h h':T O}{N N':Nat}{v:V}(s:Dn h N v n)(k:ab h N h' N'):Dn h' N' v n:=Sl.ae s k
variable {w:List Int}
theorem Rp{P u1 u2 U' v1 v2 V' t r:Int}(hP:0<P)(zY:0<=U')(eS:0<=u2)(xh:0<=u1)(l9:0<v1)(iH:0<=v2)(tX:0<=V')(zZ:V'<P)(h0:0<=t)(ht:t<=1000000000)(hinv:u1=t*v1+r)(hc:t*v2<=r*1000000000+u2):
  (t-1)*(V'+P*(v2+1000000000*v1))<=U'+P*(u2+1000000000*u1):=by
 by_cases mO:t=0
 ·subst mO
  have h1:0<=P*(v2+1000000000*v1):=tO (by omega) (by omega)
  have h2:0<=P*(u2+1000000000*u1):=tO (by omega) (by omega)
  omega
 ·have h1:(t-1)*V'<=1000000000*P:=by
   have:(t-1)*V'<=1000000000*V':=Bj (by omega) tX
   omega
  have h2:P*1<=P*v1:=oI (by omega) (by omega)
  have h3:P*(t*v2)<=P*(r*1000000000+u2):=oI hc (by omega)
  have h4:0<=P*v2:=tO (by omega) iH
  have h5:(t-1)*(V'+P*(v2+1000000000*v1))=(t-1)*V'+P*(t*v2)-P*v2+1000000000*(P*(t*v1))-1000000000*(P*v1):=by grind
  have h6:U'+P*(u2+1000000000*u1)=U'+P*(r*1000000000+u2)+1000000000*(P*(t*v1)):=by subst hinv;grind
  omega
theorem Ylc{P u1 u2 U' v1 v2 V' t r:Int}(hP:0<P)(zY:U'<P)(tX:0<=V')(h0:0<=t)(hinv:u1=t*v1+r)(hc:r*1000000000+u2<t*v2):
  U'+P*(u2+1000000000*u1)<t*(V'+P*(v2+1000000000*v1)):=by
 have h1:0<=t*V':=tO h0 tX
 have h3:P*(r*1000000000+u2+1)<=P*(t*v2):=oI (by omega) (by omega)
 have h5:t*(V'+P*(v2+1000000000*v1))=t*V'+P*(t*v2)+1000000000*(P*(t*v1)):=by grind
 have h6:U'+P*(u2+1000000000*u1)=U'+P*(r*1000000000+u2+1)-P+1000000000*(P*(t*v1)):=by subst hinv;grind
 omega
theorem Ya9{x:Int}(h1:1<=x)(h2:x<1000000000):500000000<=x*(1000000000/(x+1)):=by
 have hd:(x+1)*(1000000000/(x+1))+1000000000%(x+1)=1000000000:=Bn ..
 have hr:1000000000%(x+1)<x+1:=Bo _ (by omega)
 have ef:0<=1000000000%(x+1):=Bm _ (by omega)
 generalize 1000000000/(x+1)=d at*
 generalize 1000000000%(x+1)=r at*
 have e:(x+1)*d=x*d+d:=by grind
 apply Bl
 intro hc
 by_cases hx:x<=500000000
 ·have h3:500000000-x+1<=d:=by omega
  have h4:x*(500000000-x+1)<=x*d:=oI h3 (by omega)
  have h5:0<=(x-1)*(500000000-x):=tO (by omega) (by omega)
  have h6:(x-1)*(500000000-x)=x*(500000000-x+1)-500000000:=by grind
  omega
 ·have h3:1<=d:=by
   apply Bl;intro h
   have:d<=0:=by omega
   have:(x+1)*d<=0:=Int.mul_nonpos_of_nonneg_of_nonpos (by omega) this
   omega
  have h4:x*1<=x*d:=oI h3 (by omega)
  omega
theorem Rq{m:Nat}(h:∀t,m<=t->t<w.length->w[t]?=some 0):vI w=vI (w.take m):=by
 by_cases hm:m<=w.length
 ·have h1:=HT w m hm
  have h2:w.drop m=List.replicate (w.length-m) 0:=by
   apply m7
   intro t
   rw[fG,List.getElem?_replicate]
   by_cases ht:t<w.length-m
   ·rw[aF ht];exact h _ (by omega) (by omega)
   ·rw[au ht];exact gJ (by omega)
  rw[h2,Ri]at h1
  omega
 ·rw[eF (by omega)]
theorem Yi7{k:Nat}{a c d:Int}(ha:w[k]?=some a)(hc:w[k+1]?=some c)(hd:w[k+2]?=some d)(hz:∀t,k+3<=t->t<w.length->w[t]?=some 0):
  vI w=vI (w.take k)+pI k*(a+1000000000*(d*1000000000+c)):=by
 rw[Rq hz,show k+3=(k+2)+1 by omega,vX hd,vX hc,vX ha,rU (k+1),rU k]
 grind
theorem Yi8{k:Nat}{a c:Int}(ha:w[k]?=some a)(hc:w[k+1]?=some c)(hl:w.length=k+2):
  vI w=vI (w.take k)+pI k*(a+1000000000*c):=by
 have h1:vI w=vI (w.take (k+1+1)):=by rw[eF (by omega)]
 rw[h1,vX hc,vX ha,rU k]
 grind
theorem Yei{n:Nat}{t:Int}(hd:Di (w.take n))(ht:w[n]?=some t)(hz:∀j,n<j->j<w.length->w[j]?=some 0)(h1:vI w<pI n):(0<=vI w->t=0)/\(vI w<0->t<0):=by
 have hl:=mM ht
 have h2:vI w=vI (w.take n)+pI n*t:=by
  rw[Rq (m:=n+1) (fun j h1 h2=>hz j (by omega) h2),vX ht]
 have h3:=rV hd
 have h4:=rW hd
 rw[fR,nA (by omega)]at h4
 have h5:=zU n
 constructor
 ·intro h
  have h6:¬t<= -1:=fun hc=>by
   have:=oI hc (rf h5)
   omega
  have h7:¬1<=t:=fun hc=>by
   have:=oI hc (rf h5)
   omega
  omega
 ·intro h
  apply FW
  intro hc
  have:=tO (rf h5) hc
  omega
variable {N k:Nat} {s:a_}
theorem Yr2:(N=N+1)=False:=eq_false (by omega)
theorem Yrt:(N+1=N)=False:=eq_false (by omega)
theorem Ysk:(N+1<N)=False:=eq_false (by omega)
theorem Yr1:(N=N+1+1)=False:=eq_false (by omega)
theorem Yrs:(N+1+1=N)=False:=eq_false (by omega)
theorem Ysj:(N+1+1<N)=False:=eq_false (by omega)
theorem Yr0:(N=N+1+1+1)=False:=eq_false (by omega)
theorem Yrr:(N+1+1+1=N)=False:=eq_false (by omega)
theorem Ysi:(N+1+1+1<N)=False:=eq_false (by omega)
theorem Yrz:(N=N+1+1+1+1)=False:=eq_false (by omega)
theorem Yrq:(N+1+1+1+1=N)=False:=eq_false (by omega)
theorem Ysh:(N+1+1+1+1<N)=False:=eq_false (by omega)
theorem Yry:(N=N+1+1+1+1+1)=False:=eq_false (by omega)
theorem Yrp:(N+1+1+1+1+1=N)=False:=eq_false (by omega)
theorem Ysg:(N+1+1+1+1+1<N)=False:=eq_false (by omega)
theorem Yrx:(N=N+1+1+1+1+1+1)=False:=eq_false (by omega)
theorem Yro:(N+1+1+1+1+1+1=N)=False:=eq_false (by omega)
theorem Ysf:(N+1+1+1+1+1+1<N)=False:=eq_false (by omega)
theorem Yrw:(N=N+1+1+1+1+1+1+1)=False:=eq_false (by omega)
theorem Yrn:(N+1+1+1+1+1+1+1=N)=False:=eq_false (by omega)
theorem Yse:(N+1+1+1+1+1+1+1<N)=False:=eq_false (by omega)
theorem Yrv:(N=N+1+1+1+1+1+1+1+1)=False:=eq_false (by omega)
theorem Yrm:(N+1+1+1+1+1+1+1+1=N)=False:=eq_false (by omega)
theorem Ysd:(N+1+1+1+1+1+1+1+1<N)=False:=eq_false (by omega)
theorem Yru:(N=N+1+1+1+1+1+1+1+1+1)=False:=eq_false (by omega)
theorem Yrl:(N+1+1+1+1+1+1+1+1+1=N)=False:=eq_false (by omega)
theorem Ysc:(N+1+1+1+1+1+1+1+1+1<N)=False:=eq_false (by omega)
theorem Yqa:(N=N+1+1+1+1+1+1+1+1+1+1)=False:=eq_false (by omega)
theorem Yp4:(N+1+1+1+1+1+1+1+1+1+1=N)=False:=eq_false (by omega)
theorem Yqm:(N+1+1+1+1+1+1+1+1+1+1<N)=False:=eq_false (by omega)
theorem Yp9:(N=N+1+1+1+1+1+1+1+1+1+1+1)=False:=eq_false (by omega)
theorem Yp3:(N+1+1+1+1+1+1+1+1+1+1+1=N)=False:=eq_false (by omega)
theorem Yql:(N+1+1+1+1+1+1+1+1+1+1+1<N)=False:=eq_false (by omega)
theorem Yp8:(N=N+1+1+1+1+1+1+1+1+1+1+1+1)=False:=eq_false (by omega)
theorem Yp2:(N+1+1+1+1+1+1+1+1+1+1+1+1=N)=False:=eq_false (by omega)
theorem Yqk:(N+1+1+1+1+1+1+1+1+1+1+1+1<N)=False:=eq_false (by omega)
theorem Yp7:(N=N+1+1+1+1+1+1+1+1+1+1+1+1+1)=False:=eq_false (by omega)
theorem Yp1:(N+1+1+1+1+1+1+1+1+1+1+1+1+1=N)=False:=eq_false (by omega)
theorem Yqj:(N+1+1+1+1+1+1+1+1+1+1+1+1+1<N)=False:=eq_false (by omega)
theorem Yp6:(N=N+1+1+1+1+1+1+1+1+1+1+1+1+1+1)=False:=eq_false (by omega)
theorem Yp0:(N+1+1+1+1+1+1+1+1+1+1+1+1+1+1=N)=False:=eq_false (by omega)
theorem Yqi:(N+1+1+1+1+1+1+1+1+1+1+1+1+1+1<N)=False:=eq_false (by omega)
theorem Yp5:(N=N+1+1+1+1+1+1+1+1+1+1+1+1+1+1+1)=False:=eq_false (by omega)
theorem Ypz:(N+1+1+1+1+1+1+1+1+1+1+1+1+1+1+1=N)=False:=eq_false (by omega)
theorem Yqh:(N+1+1+1+1+1+1+1+1+1+1+1+1+1+1+1<N)=False:=eq_false (by omega)
attribute [simp] Yr2 Yrt Ysk Yr1 Yrs Ysj Yr0 Yrr Ysi Yrz Yrq Ysh Yry Yrp Ysg Yrx Yro Ysf Yrw Yrn Yse Yrv Yrm Ysd Yru Yrl Ysc Yqa Yp4 Yqm Yp9 Yp3 Yql Yp8 Yp2 Yqk Yp7 Yp1 Yqj Yp6 Yp0 Yqi Yp5 Ypz Yqh
theorem Ysb:(N<N+1)=True:=eq_true (by omega)
theorem Ysa:(N<N+1+1)=True:=eq_true (by omega)
theorem Yr9:(N<N+1+1+1)=True:=eq_true (by omega)
theorem Yr8:(N<N+1+1+1+1)=True:=eq_true (by omega)
theorem Yr7:(N<N+1+1+1+1+1)=True:=eq_true (by omega)
theorem Yr6:(N<N+1+1+1+1+1+1)=True:=eq_true (by omega)
theorem Yr5:(N<N+1+1+1+1+1+1+1)=True:=eq_true (by omega)
theorem Yr4:(N<N+1+1+1+1+1+1+1+1)=True:=eq_true (by omega)
theorem Yr3:(N<N+1+1+1+1+1+1+1+1+1)=True:=eq_true (by omega)
theorem Yqg:(N<N+1+1+1+1+1+1+1+1+1+1)=True:=eq_true (by omega)
theorem Yqf:(N<N+1+1+1+1+1+1+1+1+1+1+1)=True:=eq_true (by omega)
theorem Yqe:(N<N+1+1+1+1+1+1+1+1+1+1+1+1)=True:=eq_true (by omega)
theorem Yqd:(N<N+1+1+1+1+1+1+1+1+1+1+1+1+1)=True:=eq_true (by omega)
theorem Yqc:(N<N+1+1+1+1+1+1+1+1+1+1+1+1+1+1)=True:=eq_true (by omega)
theorem Yqb:(N<N+1+1+1+1+1+1+1+1+1+1+1+1+1+1+1)=True:=eq_true (by omega)
attribute [simp] Ysb Ysa Yr9 Yr8 Yr7 Yr6 Yr5 Yr4 Yr3 Yqg Yqf Yqe Yqd Yqc Yqb
theorem Call.eq{C:Cx}{g:V}{args:List V}{st av:St}{u:V}(h:Call C g args st (fun v s=>v=u/\s=av)):C.call g args st=some (u,av):=by
 obtain⟨v,s,e,rfl,rfl⟩:=h.ex
 exact e
theorem Fn.pure{C:Cx}{f:Nat}{args:List V}{h:T O}{u:V}{P:V->T O->Nat->Prop}(e:∀w,C.call (.func f [] []) args ⟨h,N,w⟩=some (u,⟨h,N,w⟩))(p:P u h N):Fn C f args h N P:=fun w=>⟨⟨u,⟨h,N,w⟩,e w,rfl,ab.refl,p⟩⟩
theorem Zp5{C:Cx}{K:List Kf}{Q:Rs->Prop}{fr:Fr}{st:St}{i j:Nat}(h:¬j=i):bF C (.block i::K) (some (.ex (.exit j) fr st)) Q↔bF C K (some (.ex (.exit j) fr st)) Q:=Zp6 (by
 cases hb:Nat.beq j i with
 |false=>rfl
 |true=>exact absurd (LG hb) h)
attribute [simp] Zp5
def cn:List Int->Int
 |[]=>0
 |e::l=>if e=0 then cn l else e
theorem bV{α:Type}{l:List α}(h:k<l.length):∃d,l[k]?=some d:=⟨_,dk h⟩
theorem Rr(c:UInt8):jh c=decide (48<=cB c/\cB c<=57):=by
 unfold jh cB;rw[decide_eq_decide];omega
def l_(k:Nat):List V:=(List.range 256).map fun i=>.bool (decide (48<=i/\i<48+k))
theorem xj(k:Nat):(l_ k).length=256:=by simp[l_]
theorem Ge{i:Nat}(hi:i<256):(l_ k)[i]?=some (.bool (decide (48<=i/\i<48+k))):=by simp[l_,hi]
theorem WR(k:Nat):(l_ k).all V.one=true:=by simp[l_,V.one]
theorem Yhn(hk:k<10):ag (l_ k) (48+k) [.bool true]=l_ (k+1):=by
 apply m7
 intro j
 unfold ag
 rw[qw,List.getElem?_append,fR,xj,nA (by omega)]
 by_cases h1:j<48+k
 ·rw[aF h1,gV,aF h1,Ge (by omega),Ge (by omega)]
  congr 3;rw[eq_iff_iff];omega
 ·rw[au h1]
  by_cases h2:j=48+k
  ·subst h2
   rw[Ge (by omega)]
   simp
  ·rw[show j-(48+k)=(j-(48+k)-1)+1 by omega]
   simp only[LJ,Bh,fG,vO]
   rw[show 48+k+1+(j-(48+k)-1)=j by omega]
   by_cases h3:j<256
   ·rw[Ge h3,Ge h3];congr 3;rw[eq_iff_iff];omega
   ·rw[gJ (by rw[xj];omega),gJ (by rw[xj];omega)]
theorem Ydv(k:Nat):(l_ k).take 256=l_ k:=eF (by rw[xj];omega)
theorem Yhm(j k:Nat):ag (l_ j) 0 (l_ k)=l_ k:=by
 unfold ag;rw[xj,wU (by rw[xj];omega)];simp
attribute [simp] xj WR Ydv Yhm
def ct(s:a_):Bool:=s.all jh
def Rt:a_:=[48,49,50,51,52,53,54,55,56,57]
theorem Ygz(hk:k<10):∃c,Rt[k]?=some c/\cB c=48+k:=by
 have:k=0\/k=1\/k=2\/k=3\/k=4\/k=5\/k=6\/k=7\/k=8\/k=9:=by omega
 rcases this with rfl|rfl|rfl|rfl|rfl|rfl|rfl|rfl|rfl|rfl<;>exact⟨_,rfl,rfl⟩
theorem yV{n:Int}(h1:0<=n)(h2:n<256):bn .u8 n=n:=by
 rw[xa]
 simp[IntKind.wrap,IntKind.bits,IntKind.signed]
 omega
theorem HU{n:Int}(h1: -9223372036854775808<=n)(h2:n<9223372036854775808):IntKind.wrap .i64 n=n:=by
 simp[IntKind.wrap,IntKind.bits,IntKind.signed]
 omega
theorem HV(l:a_)(c:UInt8):aB (l++[c])=10*aB l+(c.toNat-48):=by simp[aB]
theorem Ru{c:UInt8}(h:s[k]?=some c):aB (s.take (k+1))=10*aB (s.take k)+(c.toNat-48):=by
 rw[pV,h]
 simp only[Option.toList,HV]
theorem HW(h:ct s=true){k:Nat}{c:UInt8}(hc:s[k]?=some c):48<=cB c/\cB c<=57:=by
 unfold ct at h
 rw[m8]at h
 have:=h c (du hc)
 rw[Rr]at this
 simpa using this
theorem LS{s:a_}(h:ct s=true):∀k,k<=s.length->aB (s.take k)<10^k
 |0,_=>by simp[aB]
 |k+1,hk=>by
  obtain⟨c,hc⟩:=bV (l:=s) (k:=k) (by omega)
  have h1:=LS h k (by omega)
  have h2:=HW h hc
  unfold cB at h2
  rw[Ru hc,fL]
  omega
theorem yW(h:ct s=true):aB s<10^s.length:=by
 have:=LS h s.length (aS _)
 rwa [vK]at this
theorem LU{a b:Nat}(h:a<=b):10^a<=10^b:=qx (by decide) h
theorem Yho(h:k<9223372036854775808):oJ .and .i64 (k:Int) 1=some (.int .i64 ((k%2:Nat):Int)):=by
 show some (V.int .i64 (IntKind.wrap .i64 (BitVec.ofInt 64 (k:Int)&&& BitVec.ofInt 64 1).toNat))=_
 have e:(BitVec.ofInt 64 1).toNat=2^1-1:=by decide
 rw[BitVec.toNat_and,LV k (by omega),e,Nat.and_two_pow_sub_one_eq_mod,HU (by omega) (by omega)]
theorem Yeu:vR .shr .i64 (k:Int) 1=some (.int .i64 ((k/2:Nat):Int)):=by
 unfold vR
 have e:min (1:Int).toNat (IntKind.bits .i64)=1:=by decide
 rw[au (by decide),e]
 simp only[aj,V.int.injEq,true_and]
 rw[Int.fdiv_eq_ediv_of_nonneg _ (by decide)]
 rfl
variable {N i:Nat} {h:T O} {k v:V}
theorem ab.new{h1:T O}{n n1:Nat}(k:ab h n h1 n1)(o:O):ab h n (h1.set n1 o) (n1+1):=(k.set k.le).up (uW _)
abbrev jU(C:Cx)(f:V)(args:List V)(h:T O)(n:Nat)(P:V->T O->Nat->Prop):Prop:=∀w,Call C f args ⟨h,n,w⟩ (aA P h n w)
theorem BD{C:Cx}{f args h n w P K Q}(hf:jU C f args h n P)(k:∀v h' n',ab h n h' n'->P v h' n'->bF C K (some (.val v ⟨h',n',w⟩)) Q):bF C K (qe (C.call f args ⟨h,n,w⟩)) Q:=
 yX (hf w) fun v av=>by
  obtain⟨h',n',w'⟩:=av
  rintro⟨rfl,hk,hp⟩
  exact k v h' n' hk hp
theorem jU.pure{C:Cx}{f:V}{args:List V}{u:V}{P:V->T O->Nat->Prop}(e:∀w,C.call f args ⟨h,N,w⟩=some (u,⟨h,N,w⟩))(p:P u h N):jU C f args h N P:=fun w=>⟨⟨u,⟨h,N,w⟩,e w,rfl,ab.refl,p⟩⟩
def mP(p:Nat->Bool)(k:Nat):Nat->Int
 |0=> -1
 |m+1=>if p k=true then (k:Int) else mP p (k+1) m
theorem Rv{p:Nat->Bool}:∀{m k:Nat},(0<=mP p k m↔∃j,k<=j/\j<k+m/\p j=true)
 |0,k=>by simp[mP];intro j h1 h2;omega
 |m+1,k=>by
  simp only[mP]
  by_cases h:p k=true
  ·rw[aF h];exact⟨fun _=>⟨k,aS _,by omega,h⟩,fun _=>by omega⟩
  ·rw[au h,Rv (m:=m) (k:=k+1)]
   constructor
   ·rintro⟨j,h1,h2,h3⟩;exact⟨j,by omega,by omega,h3⟩
   ·rintro⟨j,h1,h2,h3⟩
    refine⟨j,?_,by omega,h3⟩
    have:j≠k:=fun hj=>h (hj▸h3)
    omega
def BE(v:V):Prop:=v=.aa\/v=.empty\/∃i o n c z,v=.slice i o n c z
theorem Sl.form{l:List V}(s:Sl h N v l):BE v:=by
 rcases s with⟨_,h|h⟩|⟨i,o,cp,c,e,rw,h,_⟩
 ·exact .inl h
 ·exact .inr (.inl h)
 ·exact .inr (.inr ⟨_,_,_,_,_,h⟩)
theorem BE.one(h:BE v):V.one v=true:=by
 rcases h with rfl|rfl|⟨_,_,_,_,_,rfl⟩<;>rfl
theorem BE.cells(h:BE v):V.cells v=[v]:=by
 rcases h with rfl|rfl|⟨_,_,_,_,_,rfl⟩<;>rfl
def strs(l:List a_):List V:=l.map .str
theorem yY(l:List a_):(strs l).length=l.length:=by simp[strs]
theorem Du{l:List a_}{j:Nat}{n:a_}(h:l[j]?=some n):(strs l)[j]?=some (.str n):=by simp[strs,h]
attribute [simp] yY
def Gf(s:oP)(jr:V):List V:=[.str s.name,.str s.op,.str s.xl,jr,.int .i64 s.cost]
def Gr(h:T O)(N:Nat)(v:V)(g:List oP):Prop:=∃l:List (List V),Sn 5 h N v l/\l.length=g.length/\∀(j:Nat) (s:oP),g[j]?=some s->∃jr,l[j]?=some (Gf s jr)/\Sl h N jr (strs s.gY)
theorem Gr.ae{h':T O}{N':Nat}{g:List oP}(s:Gr h N v g)(k:ab h N h' N'):Gr h' N' v g:=by
 obtain⟨l,h1,h2,h3⟩:=s
 refine⟨l,h1.ae k,h2,fun j s hs=>?_⟩
 obtain⟨jr,h4,h5⟩:=h3 j s hs
 exact⟨jr,h4,h5.ae k⟩
theorem Gr.len{g:List oP}(s:Gr h N v g):ki v=some g.length:=by
 obtain⟨l,h1,h2,h3⟩:=s
 rw[h1.len,h2]
theorem Gr.at{g:List oP}(s:Gr h N v g){j:Nat}{x:oP}(hj:g[j]?=some x):∃i o c e rw jr,vc v=some (i,o)/\i<N/\h.get i=some (.cells c e rw)/\aJ c (o+j*5) 5=some (Gf x jr)/\Sl h N jr (strs x.gY):=by
 obtain⟨l,h1,h2,h3⟩:=s
 obtain⟨jr,h4,h5⟩:=h3 j x hj
 obtain⟨i,o,c,e,rw,q1,q2,q3,q4⟩:=h1.at h4
 exact⟨i,o,c,e,rw,jr,q1,q2,q3,q4,h5⟩
theorem Gr.slice{g:List oP}{w:List Nat}(s:Gr h N v g){lo hi:Nat}(h1:lo<=hi)(h2:hi<=g.length)(x y:Option V)(hx:x=some (.int .i64 lo)\/x=none/\lo=0)(hy:y=some (.int .i64 hi)\/y=none/\hi=g.length):
  ∃v',m_ ⟨h,N,w⟩ 5 (some v) (some x) (some y) (some none)=some (v',⟨h,N,w⟩)/\Gr h N v' ((g.take hi).drop lo):=by
 obtain⟨l,g1,g2,g3⟩:=s
 obtain⟨v',e1,e2⟩:=Zz6 (z:=5) (w:=w) (by decide) g1 h1 (by omega) x y hx (by rw[g2];exact hy)
 refine⟨v',e1,(l.take hi).drop lo,e2,by simp[g2],fun j s hs=>?_⟩
 have hj:lo+j<hi:=by
  apply qd;intro hc
  rw[fG,gV,au (by omega)]at hs;cases hs
 rw[fG,gV,aF hj]at hs
 obtain⟨jr,q1,q2⟩:=g3 _ s hs
 exact⟨jr,by rw[fG,gV,aF hj];exact q1,q2⟩
theorem Ypu{a b c d e:V}:aJ [a,b,c,d,e] 0 5=some [a,b,c,d,e]:=rfl
theorem Ypv{a b:V}:aJ [a,b] 0 2=some [a,b]:=rfl
attribute [simp] Ypu Ypv
theorem Gr.form{g:List oP}(s:Gr h N v g):BE v:=by
 obtain⟨l,h1,_⟩:=s
 rcases h1 with⟨_,h|h⟩|⟨i,o,cp,c,e,rw,h,_⟩
 ·exact .inl h
 ·exact .inr (.inl h)
 ·exact .inr (.inr ⟨_,_,_,_,_,h⟩)
def Rw(st:St)(zero:V)(ok:Bool):Option (Option (Nat×V))->Option (V×St)
 |some (some (_,v))=>some (if ok then .aZ [v,.bool true] else v,st)
 |some none=>some (if ok then .aZ [zero,.bool false] else zero,st)
 |none=>none
def HX(st:St)(kd:gU)(zero:V)(ok:Bool)(k:V):Option O->Option (V×St)
 |some (.map es)=>Rw st zero ok (dV kd k es 0)
 |_=>none
def LW(st:St)(kd:gU)(zero:V)(ok:Bool):Option V->Option V->Option (V×St)
 |some (.map i),some k=>if kd.fits k=true then HX st kd zero ok k (st.h.get i) else none
 |some .bH,some k=>if kd.fits k=true then Rw st zero ok (some none) else none
 |_,_=>none
theorem Ztr{kd:gU}{zero:V}{m k:Src}{ok:Bool}{call:cm}{r:T V}{st:St}:Dj kd zero m k ok call r st=LW st kd zero ok (m.ev r) (k.ev r):=by
 unfold Dj LW
 rcases m.ev r with _|m
 ·rfl
 ·rcases k.ev r with _|k
  ·cases m<;>rfl
  ·cases m<;>simp only[]<;>(try (by_cases hf:kd.fits k=true<;>simp[hf]))<;>try rfl
   ·rename_i i
    rcases st.h.get i with _|o
    ·rfl
    ·cases o<;>simp only[HX]
     rename_i es
     rcases dV kd k es 0 with _|_|⟨_,_⟩<;>rfl
theorem Yb0{st:St}{zero:V}{ok:Bool}{s:a_}:LW st .str zero ok (some (.map i)) (some (.str s))=HX st .str zero ok (.str s) (st.h.get i):=rfl
theorem WS{st:St}{kd:gU}{zero:V}{ok:Bool}{es:List (V×V)}:HX st kd zero ok k (some (.map es))=Rw st zero ok (dV kd k es 0):=rfl
attribute [simp] Ztr Yb0 WS F5
def HY(st:St)(i:Nat)(k v:V)(es:List (V×V)):Option (Option (Nat×V))->Option (V×St)
 |some (some (j,_))=>some (.aZ [],st.write i (.map (es.set j (k,v))))
 |some none=>some (.aZ [],st.write i (.map (es++[(k,v)])))
 |none=>none
def Gg(st:St)(kd:gU)(i:Nat)(k v:V):Option O->Option (V×St)
 |some (.map es)=>HY st i k v es (dV kd k es 0)
 |_=>none
def tY(st:St)(kd:gU):Option V->Option V->Option V->Option (V×St)
 |some (.map i),some k,some v=>if kd.fits k=true then Gg st kd i k v (st.h.get i) else none
 |_,_,_=>none
theorem Ztq{kd:gU}{m k v:Src}{call:cm}{r:T V}{st:St}:By kd m k v call r st=tY st kd (m.ev r) (k.ev r) (v.ev r):=by
 unfold By tY
 rcases m.ev r with _|m
 ·rfl
 ·rcases k.ev r with _|k
  ·cases m<;>rfl
  ·rcases v.ev r with _|v
   ·cases m<;>rfl
   ·cases m with
    |map i=>
     simp only[]
     by_cases hf:kd.fits k=true
     ·simp only[hf,if_true]
      rcases st.h.get i with _|o
      ·rfl
      ·cases o<;>simp only[Gg]
       rename_i es
       rcases dV kd k es 0 with _|_|⟨_,_⟩<;>rfl
     ·simp[hf]
    |_=>rfl
theorem Ybf{st:St}{s:a_}:tY st .str (some (.map i)) (some (.str s)) (some v)=Gg st .str i (.str s) v (st.h.get i):=rfl
theorem Ztz{st:St}{kd:gU}{es:List (V×V)}:Gg st kd i k v (some (.map es))=HY st i k v es (dV kd k es 0):=rfl
theorem Zxq{st:St}{es:List (V×V)}:HY st i k v es (some none)=some (.aZ [],st.write i (.map (es++[(k,v)]))):=rfl
attribute [simp] Ztq Ybf Ztz Zxq
theorem ab.then{h h1 h2:T O}{n n1 n2:Nat}(a:ab h n h1 n1)(b:ab h1 n h2 n2):ab h n h2 n2:=⟨b.le,fun i hi=>(b.get i hi).trans (a.get i hi)⟩
def na(l:List Int):List (List V):=l.map fun x=>[.int .i64 x]
theorem z_(l:List Int):(na l).length=l.length:=by simp[na]
theorem Rx:∀(l:List Int),(na l).flatten=dI l
 |[]=>rfl
 |x::l=>by
  have:=Rx l
  simp only[na,kg,List.flatten_cons,dI]at this ⊢
  rw[this];rfl
theorem BF(l:List Int)(x:Int):na (l++[x])=na l++[[.int .i64 x]]:=by simp[na]
theorem Own.sl{e:TypeId}{N0:Nat}{h:T O}{N:Nat}{v:V}{l:List Int}(s:Own 1 e N0 h N v (na l)):Sl h N v (dI l):=by
 have:=s.sn
 have e1:na l=(dI l).map fun x=>[x]:=by simp[na,dI]
 rw[e1]at this
 exact Sn.one.1 this
structure Yrb (g:List oP):Prop where
 le:g.length<=16
 name:∀(j:Nat) (s:oP),g[j]?=some s->j<=pos (g.take j) s.name
 jr:∀(j:Nat) (s:oP),g[j]?=some s->∀n∈s.gY,pos (g.take j) n<j
 cost:∀s∈g,1<=s.cost/\s.cost<=1000
variable {N:Nat} {h:T O} {l:List V} {u v:V}
def Cp(h:T O)(N:Nat)(v:V)(l:List V):Prop:=∃j c,v=.slice j 0 l.length c 1/\j<N/\h.get j=some (.cells l 9 true)/\∀k,c=some k->l.length<=k
theorem Cp.ae{h':T O}{N':Nat}(s:Cp h N v l)(k:ab h N h' N'):Cp h' N' v l:=by
 obtain⟨j,c,h1,h2,h3,h4⟩:=s
 exact⟨j,c,h1,eY h2 k.le,(k.get j h2).trans h3,h4⟩
theorem Cp.sl(s:Cp h N v l):Sl h N v l:=by
 obtain⟨j,c,h1,h2,h3,h4⟩:=s
 rw[h1];exact Sl.row h2 h3 rfl h4
theorem Yni{w:List Nat}(s:Sl h N v l):eC ⟨h,N,w⟩ 1 v=some (l.length,l):=by
 rcases s with⟨rfl,rfl|rfl⟩|⟨i,o,cp,c,e,rw,rfl,h2,h3,h4,h5,h6⟩
 ·rfl
 ·rfl
 ·simp only[eC,if_true,St.row,h3,vQ]
  have:aJ c o l.length=some l:=by
   unfold aJ
   rw[aF h5]
   congr 1
   apply m7
   intro j
   rw[gV]
   by_cases hj:j<l.length
   ·rw[aF hj,fG];exact h4 j hj
   ·rw[au hj,gJ (by omega)]
  rw[this]
def BG(h:T O)(N0 N:Nat)(u:V)(g:List oP)(k:Nat):Prop:=∃l:List (List V),Own 5 126 N0 h N u l/\l.length=k/\∀(j:Nat) (s:oP),j<k->g[j]?=some s->∃jr,l[j]?=some (Gf s jr)/\Cp h N jr (strs s.gY)
theorem BG.ae{h':T O}{N0 N':Nat}{g:List oP}{k:Nat}(s:BG h N0 N u g k)(kk:ab h N h' N'):BG h' N0 N' u g k:=by
 obtain⟨l,h1,h2,h3⟩:=s
 refine⟨l,h1.ae kk,h2,fun j s hj hs=>?_⟩
 obtain⟨jr,h4,h5⟩:=h3 j s hj hs
 exact⟨jr,h4,h5.ae kk⟩
theorem BG.gr{N0:Nat}{g:List oP}(s:BG h N0 N u g g.length):Gr h N u g:=by
 obtain⟨l,h1,h2,h3⟩:=s
 refine⟨l,h1.sn,h2,fun j s hs=>?_⟩
 obtain⟨jr,h4,h5⟩:=h3 j s (mM hs) hs
 exact⟨jr,h4,h5.sl⟩
theorem BG.step{N0:Nat}{x jr:V}{g:List oP}{k:Nat}{s:oP}{w:List Nat}(p:BG h N0 N u g k)(hN:N0<=N)(hs:g[k]?=some s)(hi:Cp h N jr (strs s.gY))(hu:eC ⟨h,N,w⟩ 5 x=some (1,Gf s jr))(hk:k<1000):
  ∃v' h' w',jQ ⟨h,N,w⟩ 5 80 126 u x=some (v',⟨h',N+1,w'⟩)/\ad N0 w'=ad N0 w/\ab h N0 h' (N+1)/\BG h' N0 (N+1) v' g (k+1):=by
 obtain⟨l,h1,h2,h3⟩:=p
 obtain⟨v',h',w',e1,e2,e3,e4,e5⟩:=pU (x:=Gf s jr) (u:=x) (bytes:=80) (w:=w) h1 hN (by decide) rfl hu (by omega)
 have qf:∀{i:V} {m:List V},Cp h N i m->Cp h' (N+1) i m:=by
  rintro i m ⟨j,c,q1,q2,q3,q4⟩
  refine⟨j,c,q1,by omega,?_,q4⟩
  rcases e4 j with e|e|⟨o,n,c',q,e⟩
  ·rw[e];exact q3
  ·omega
  ·obtain⟨_,⟨_,hn⟩|⟨i',hv,_,_,ar⟩⟩:=h1
   ·rw[e]at hn;cases hn
   ·rw[e]at hv
    simp only[V.slice.injEq]at hv
    rw[<-hv.1,q3]at ar
    simp at ar
 refine⟨v',h',w',e1,e2,e3,l++[Gf s jr],e5,by simp[h2],fun j t hj ht=>?_⟩
 by_cases rl:j<k
 ·obtain⟨i,q1,q2⟩:=h3 j t rl ht
  exact⟨i,by rw[lX (by omega)];exact q1,qf q2⟩
 ·have:j=k:=by omega
  subst this
  obtain rfl:=p_ (hs.symm.trans ht)
  exact⟨jr,by rw[pX (by omega)];simp[h2],qf hi⟩
theorem Sl.setInt{h:T O}{N:Nat}{v:V}{l:List Int}{i:Nat}{c0 c1:List V}{e0 e1:TypeId}{w0 w1:Bool}(s:Sl h N v (dI l))(hr:h.get i=some (.cells c0 e0 w0))(hn:∀x∈c0,∀k n,x≠.int k n)(hc:c1.length=c0.length):Sl (h.set i (.cells c1 e1 w1)) N v (dI l):=by
 rcases s with s|⟨j,o,cp,c,e,rw,h1,h2,h3,h4,h5,h6⟩
 ·exact .inl s
 ·by_cases hj:j=i
  ·subst hj
   rw[hr]at h3
   simp only[aj,O.cells.injEq]at h3
   obtain⟨rfl,rfl,rfl⟩:=h3
   cases l with
   |nil=>exact .inr ⟨j,o,cp,c1,e1,w1,h1,h2,by rw[T.ai];simp,fun k hk=>by simp[dI]at hk,by rw[hc];exact h5,h6⟩
   |cons d l=>
    have:=h4 0 (by simp[dI])
    simp only[dI,kg,yC]at this
    exact absurd rfl (hn _ (du this) .i64 d)
  ·exact .inr ⟨j,o,cp,c,e,rw,h1,h2,by rw[T.ai,au hj];exact h3,h4,h5,h6⟩
open Go Go.Proofs
set_option maxRecDepth 1000000
noncomputable abbrev A.F(n:Nat):=vG Tryz.prog n
def mv(a b:Nat):df:=⟨some a,.aY (.tmp b),none⟩
def mc(a:Nat)(n:Int):df:=⟨some a,.aY (.const (.int .i64 n)),none⟩
def ia(a z x i:Nat):df:=⟨some a,.aN z (.tmp x) (.tmp i),none⟩
def ld(a x:Nat):df:=⟨some a,.load none (.tmp x),none⟩
def xt(a x i:Nat):df:=⟨some a,.extract (.tmp x) i,none⟩
def bi(a:Nat)(o:BinOp)(x y:Nat):df:=⟨some a,.bin o (.node []) false (.tmp x) (.tmp y),none⟩
def bc(a:Nat)(o:BinOp)(x:Nat)(n:Int):df:=⟨some a,.bin o (.node []) false (.tmp x) (.const (.int .i64 n)),none⟩
def ln(a x:Nat):df:=⟨some a,.len 1 (.tmp x),none⟩
def so(a x:Nat):df:=⟨none,.store 1 (.tmp a) (.tmp x),none⟩
def c1(a f x:Nat):df:=⟨some a,.call (.const (.func f [] [])) [.tmp x],none⟩
def c2(a f x y:Nat):df:=⟨some a,.call (.const (.func f [] [])) [.tmp x,.tmp y],none⟩
def lN(a n x:Nat):df:=⟨some a,.load (some n) (.tmp x),none⟩
def fa(a o x:Nat):df:=⟨some a,.de o (.tmp x),none⟩
def pf(a x y:Nat):df:=⟨some a,.pick (.tmp x) (.tmp y) (.const (.bool false)),none⟩
def pt(a x y:Nat):df:=⟨some a,.pick (.tmp x) (.const (.bool true)) (.tmp y),none⟩
def ei(a x:Nat)(n:Int):df:=⟨some a,.bin .eql (.aI .int) true (.tmp x) (.const (.int .i64 n)),none⟩
def ni(a x:Nat)(n:Int):df:=⟨some a,.bin .neq (.aI .int) true (.tmp x) (.const (.int .i64 n)),none⟩
def mN(a:Nat):df:=⟨some a,.aY (.const .aa),none⟩
def bx(a e x:Nat):df:=⟨some a,.box e (.tmp x),none⟩
def mg(a x g:Nat):df:=⟨some a,.aY (.tmp x),some (g,true)⟩
def mh(a x g:Nat):df:=⟨some a,.aY (.tmp x),some (g,false)⟩
def sr(l:List df)(c:aq):aq:=.seq (.aM l) c
def cd(x:Nat)(a b:aq):aq:=.cond (.tmp x) a b
attribute [simp] yC Bh mv mc ia ld xt bi bc ln so c1 c2 lN fa pf pt ei ni mN bx mg mh sr cd
def A.HZ:O:=.cells (([1,10,100,1000,10000,100000,1000000,10000000,100000000,1000000000,10000000000,100000000000,1000000000000,10000000000000,100000000000000,1000000000000000,10000000000000000,100000000000000000,1000000000000000000,10000000000000000000]:List Int).map fun z=>.int .u64 z) 298 false
def A.TB:List (Nat×O):=[(3,A.HZ)]
noncomputable def A.C:Cx:=⟨Gh A.TB [⟨10,[],.bool true⟩],vG Tryz.prog⟩
theorem A.t:A.C.dc=vG Tryz.prog:=rfl
theorem A.x0{f:Nat}{a c args:List V}{st:St}(h:Nat.beq 10 f=false):A.C.x (.func f a c) args st=none:=by
 show Gh A.TB [⟨10,[],.bool true⟩] (.func f a c) args st=none
 unfold Gh
 split
 ·rename_i heq
  simp only[V.func.injEq]at heq
  obtain⟨rfl,rfl,rfl⟩:=heq
  simp only[Gi,h]
 ·rfl
theorem A.kk{n k:Nat}{res:List CP}{b:aq}(hc:vG Tryz.prog n=some ⟨k,res,b⟩)(hx:Nat.beq 10 n=false){K:List Kf}{Q:Rs->Prop}{f c args:List V}{st:St}(h:(f++args++c).length<=k):bF A.C K (qe (A.C.call (.func n f c) args st)) Q↔bF A.C (.fin res st::K) (eL (A.C.code none b ⟨vW .nil 0 (f++args++c),k,[]⟩ ⟨st.h,st.n,[]⟩)) Q:=Ye4 (A.x0 (f:=n) hx) (mf:=⟨k,res,b⟩) (by rw[A.t];exact hc) h
theorem A.known{h:T O}{N:Nat}{w:List Nat}(hp:h.get 3=some A.HZ):A.C.call (.func 10 [] []) [] ⟨h,N,w⟩=some (.bool true,⟨h,N,w⟩):=by
 have hq:Gj (h.get 3) A.HZ=true:=by rw[hp];decide+kernel
 have hi:BH ⟨h,N,w⟩ A.TB=true:=by
  show (match Gj (h.get 3) A.HZ with|true=>true|false=>false)=true
  rw[hq]
 have hx:A.C.x (.func 10 [] []) [] ⟨h,N,w⟩=some (.bool true,⟨h,N,w⟩):=by
  show (match BH ⟨h,N,w⟩ A.TB with|true=>some (V.bool true,(⟨h,N,w⟩:St))|false=>none)=_
  rw[hi]
 rw[Cx.oQ]
 unfold qB
 rw[hx]
end Go.Mx
