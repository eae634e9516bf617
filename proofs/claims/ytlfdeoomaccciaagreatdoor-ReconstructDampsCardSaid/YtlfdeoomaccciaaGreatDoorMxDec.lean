/-Digits to the base 10^9, as integers-/
import Derived.Test.YtlfdeoomaccciaaGreatDoorMxWord
import Derived.Test.YtlfdeoomaccciaaGreatDoorProg
set_option linter.all false
namespace Go.Mx
noncomputable section
open Go
variable {d:Int} {j k n:Nat} {l:List Int}
def vI:List Int->Int
 |[]=>0
 |d::l=>d+1000000000*vI l
def pI(k:Nat):Int:=1000000000^k
def vE(k:Nat):pI (k+1)=1000000000*pI k:=by unfold pI;rw[Int.pow_succ,Int.mul_comm]
def Ym9:pI 0=1:=rfl
def CE(k:Nat):0<pI k:=by unfold pI;exact Int.pow_pos (by decide)
def Qi(i j:Nat):pI (i+j)=pI i*pI j:=by unfold pI;exact Int.pow_add ..
def V9:∀(l m:List Int),vI (l++m)=vI l+pI l.length*vI m
 |[],m=>by simp[vI,pI]
 |d::l,m=>by
  simp only[Co,vI,V9 l m,bp,vE]
  grind
def CF(l:List Int)(d:Int):vI (l++[d])=vI l+pI l.length*d:=by simp[V9,vI]
def Wa(n:Nat):vI (List.replicate n 0)=0:=by
 induction n with
 |zero=>rfl
 |succ n ih=>simp[List.replicate_succ,vI,ih]
def f_{α:Type}{l:List α}{d:α}(h:l[k]?=some d):k<l.length:=by
 apply tn;intro hc;rw[fl hc]at h;cases h
def ze(h:l[k]?=some d):vI (l.take (k+1))=vI (l.take k)+pI k*d:=by
 have hk:=f_ h
 rw[uC,h]
 simp only[Option.toList]
 rw[CF,gG,pZ (by omega)]
def K8(l:List Int)(k:Nat)(hk:k<=l.length):vI l=vI (l.take k)+pI k*vI (l.drop k):=by
 have:=V9 (l.take k) (l.drop k)
 rw[Cl,gG,pZ hk]at this
 exact this
def CG:∀{l:List Int} {k:Nat} {c:Int},l[k]?=some c->∀(v:Int),vI (l.set k v)=vI l+pI k*(v-c)
 |[],k,c,h,v=>by simp at h
 |d::l,0,c,h,v=>by
  simp at h;subst h
  simp only[List.set_cons_zero,vI,Ym9];omega
 |d::l,k+1,c,h,v=>by
  have:=CG (l:=l) (k:=k) (c:=c) (by simpa using h) v
  simp only[List.set_cons_succ,vI,this,vE]
  grind
def Di(l:List Int):Prop:=∀d∈l,0<=d/\d<1000000000
def Di.get(h:Di l){k:Nat}{d:Int}(hd:l[k]?=some d):0<=d/\d<1000000000:=h d (bU hd)
def Di.set(h:Di l){k:Nat}{v:Int}(h0:0<=v)(h1:v<1000000000):Di (l.set k v):=fun d hd=>by
 rcases A7 hd with hd|rfl
 ·exact h d hd
 ·exact⟨h0,h1⟩
def Di.app{m:List Int}(h:Di l)(h':Di m):Di (l++m):=fun d hd=>by
 rcases kh.1 hd with hd|hd
 ·exact h d hd
 ·exact h' d hd
def Di.one{v:Int}(h0:0<=v)(h1:v<1000000000):Di [v]:=fun d hd=>by simp at hd;subst hd;exact⟨h0,h1⟩
def Di.nil:Di []:=fun d hd=>by simp at hd
def Di.Ej(n:Nat):Di (List.replicate n 0):=fun d hd=>by rw[Jh]at hd;rw[hd.2];decide
def Di.take(h:Di l)(k:Nat):Di (l.take k):=fun d hd=>h d (yL hd)
def Di.drop(h:Di l)(k:Nat):Di (l.drop k):=fun d hd=>h d (IL hd)
def vF:∀{l:List Int},Di l->0<=vI l
 |[],_=>Int.le_refl _
 |d::l,h=>by
  have h1:=h d nR
  have h2:=vF (l:=l) fun e he=>h e (nS _ he)
  simp only[vI];omega
def vG:∀{l:List Int},Di l->vI l<pI l.length
 |[],_=>by decide
 |d::l,h=>by
  have h1:=h d nR
  have h2:=vG (l:=l) fun e he=>h e (nS _ he)
  simp only[vI,bp,vE];omega
def zI(l:List Int)(j:Nat):Int:=l[j]?.getD 0
def Yls(h:l[j]?=some d):zI l j=d:=by simp[zI,h]
def Wb(h:l.length<=j):zI l j=0:=by simp[zI,h]
def Wc{l:List Int}(h:Di l)(j:Nat):0<=zI l j/\zI l j<1000000000:=by
 unfold zI
 cases hj:l[j]? with
 |none=>simp
 |some d=>exact h.get hj
def Wd{l:List Int}{k:Nat}:vI (l.take (k+1))=vI (l.take k)+pI k*zI l k:=by
 unfold zI
 cases h:l[k]? with
 |some d=>exact ze h
 |none=>
  have hk:l.length<=k:=by
   apply yY;intro hc;rw[c9 hc]at h;cases h
  rw[eZ (by omega),eZ hk];simp
def lH{α:Type}{l:List α}{d:α}(h:l[k]?=some d):l.drop k=d::l.drop (k+1):=by
 obtain⟨hk,hs⟩:=zH.1 h
 rw[<-hs];exact Gh hk
def dI(l:List Int):List V:=l.map fun n=>.int .i64 n
def ib(l:List Int):(dI l).length=l.length:=by simp[dI]
def ic{n:Int}(h:l[j]?=some n):(dI l)[j]?=some (.int .i64 n):=by simp[dI,h]
attribute [simp] ib
def Bz{v:Int}(h:k<l.length):ad (dI l) k [.int .i64 v]=dI (l.set k v):=by
 unfold ad dI
 apply oe
 intro j
 simp only[zW,fV,List.getElem?_set]
 rw[tv,List.getElem?_append,gG,je]
 by_cases h1:j<k
 ·rw[ay (by omega),iM,ay h1,fV,ak (by omega)]
 ·rw[ak (by omega)]
  by_cases h2:j=k
  ·subst h2
   rw[show j-min j l.length=0 by omega,ay rfl,ay h];rfl
  ·rw[show j-min k l.length=(j-k-1)+1 by omega,ak (by omega)]
   simp only[P9,DZ,fg,fV]
   rw[show k+1+(j-k-1)=j by omega]
def We:dp [.int .i64 0] n=dI (List.replicate n 0):=by rw[VN];simp[dI]
def rf:List Int->List Int
 |[]=>[]
 |d::l=>match rf l with
  |[]=>if d=0 then [] else [d]
  |t=>d::t
def Wf:∀(l:List Int),rf (l++[0])=rf l
 |[]=>rfl
 |d::l=>by simp only[Co,rf,Wf l]
def Zpe{d:Int}(hd:d≠0):∀(l:List Int),rf (l++[d])=l++[d]
 |[]=>by simp[rf,hd]
 |e::l=>by
  simp only[Co,rf,Zpe hd l]
  cases l<;>rfl
def Zsc:∀(l:List Int),(rf l).length<=l.length
 |[]=>aQ _
 |d::l=>by
  have ih:=Zsc l
  simp only[rf]
  split
  ·split<;>simp
  ·simp only[bp];omega
def ds(n:Nat):List Int:=if h:n=0 then [] else ((n%1000000000:Nat):Int)::ds (n/1000000000)
termination_by n
decreasing_by exact Cr (by omega) (by decide)
def tB:ds 0=[]:=by rw[ds];simp
def Ae(h:n≠0):ds n=((n%1000000000:Nat):Int)::ds (n/1000000000):=by rw[ds];simp[h]
def gm:∀(n:Nat),vI (ds n)=n:=by
 intro n
 induction n using Nat.strongRecOn with
 |_ n ih=>
  by_cases h:n=0
  ·subst h;rw[tB];rfl
  ·rw[Ae h]
   simp only[vI]
   rw[ih (n/1000000000) (Cr (by omega) (by decide))]
   omega
def fY(n:Nat):Di (ds n):=by
 induction n using Nat.strongRecOn with
 |_ n ih=>
  by_cases h:n=0
  ·subst h;rw[tB];exact Di.nil
  ·rw[Ae h]
   intro d hd
   rcases kv.1 hd with rfl|hd
   ·omega
   ·exact ih (n/1000000000) (Cr (by omega) (by decide)) d hd
def Wg:∀{l:List Int},Di l->rf l=ds (vI l).toNat
 |[],_=>by simp[rf,vI,tB]
 |d::l,h=>by
  have hl:Di l:=fun e he=>h e (nS _ he)
  have ih:=Wg hl
  have hd:=h d nR
  have hn:=vF hl
  simp only[rf,vI,ih]
  by_cases h0:vI l=0
  ·rw[h0]
   simp only[Int.toNat_zero,tB,Int.mul_zero,Int.add_zero]
   by_cases nT:d=0
   ·simp[nT,tB]
   ·rw[Ae (by omega),yk (by omega),zU (by omega),tB];simp[nT];omega
  ·have h3:(d+1000000000*vI l).toNat≠0:=by omega
   rw[Ae h3]
   have h1:(d+1000000000*vI l).toNat/1000000000=(vI l).toNat:=by omega
   have h2:(((d+1000000000*vI l).toNat%1000000000:Nat):Int)=d:=by omega
   rw[h1,h2]
   split
   ·rename_i hc;rw[Ae (by omega)]at hc;cases hc
   ·rfl
def GM(h:Di l){n:Nat}(hn:vI l=n):rf l=ds n:=by rw[Wg h,hn];rfl
def Yow(n:Nat):rf (ds n)=ds n:=GM (fY n) (gm n)
def CH:ds n=[]↔n=0:=by
 constructor
 ·intro h
  by_cases h0:n=0
  ·exact h0
  ·rw[Ae h0]at h;cases h
 ·intro h;rw[h,tB]
def Yox(h:n≠0):∃d,(ds n)[(ds n).length-1]?=some d/\0<d:=by
 have aW:ds n≠[]:=fun hc=>h (CH.1 hc)
 obtain⟨l,d,hd⟩:∃l d,ds n=l++[d]:=⟨(ds n).dropLast,(ds n).getLast aW,(VY aW).symm⟩
 refine⟨d,by rw[hd,i_,zW];simp,?_⟩
 have h1:=fY n d (by rw[hd];exact List.mem_append_right _ nR)
 have:d≠0:=fun h0=>by
  have h2:=Yow n
  rw[hd,h0,Wf]at h2
  have:=Zsc l
  rw[h2]at this;simp at this;omega
 omega
def Jv{n k:Nat}(h:n<1000000000^k):(ds n).length<=k:=by
 induction k generalizing n with
 |zero=>
  have:n=0:=by simpa using h
  rw[this,tB];simp
 |succ k ih=>
  by_cases h0:n=0
  ·rw[h0,tB];simp
  ·rw[Ae h0]
   have:=ih (n:=n/1000000000) ((qc (by decide)).2 (by rw[<-fZ];exact h))
   simp only[bp];omega
def Dn(h:T O)(N:Nat)(v:V)(n:Nat):Prop:=Sl h N v (dI (ds n))
def Dn.ae{h h':T O}{N N':Nat}{v:V}(s:Dn h N v n)(k:ab h N h' N'):Dn h' N' v n:=Sl.ae s k
variable {w:List Int}
def Wh{P u1 u2 U' v1 v2 V' t r:Int}(hP:0<P)(CI:0<=U')(fm:0<=u2)(yo:0<=u1)(oC:0<v1)(jL:0<=v2)(xo:0<=V')(CJ:V'<P)(h0:0<=t)(ht:t<=1000000000)(hinv:u1=t*v1+r)(hc:t*v2<=r*1000000000+u2):
  (t-1)*(V'+P*(v2+1000000000*v1))<=U'+P*(u2+1000000000*u1):=by
 by_cases pq:t=0
 ·subst pq
  have h1:0<=P*(v2+1000000000*v1):=xh (by omega) (by omega)
  have h2:0<=P*(u2+1000000000*u1):=xh (by omega) (by omega)
  omega
 ·have h1:(t-1)*V'<=1000000000*P:=by
   have:(t-1)*V'<=1000000000*V':=D4 (by omega) xo
   omega
  have h2:P*1<=P*v1:=q9 (by omega) (by omega)
  have h3:P*(t*v2)<=P*(r*1000000000+u2):=q9 hc (by omega)
  have h4:0<=P*v2:=xh (by omega) jL
  have h5:(t-1)*(V'+P*(v2+1000000000*v1))=(t-1)*V'+P*(t*v2)-P*v2+1000000000*(P*(t*v1))-1000000000*(P*v1):=by grind
  have h6:U'+P*(u2+1000000000*u1)=U'+P*(r*1000000000+u2)+1000000000*(P*(t*v1)):=by subst hinv;grind
  omega
def Yoc{P u1 u2 U' v1 v2 V' t r:Int}(hP:0<P)(CI:U'<P)(xo:0<=V')(h0:0<=t)(hinv:u1=t*v1+r)(hc:r*1000000000+u2<t*v2):
  U'+P*(u2+1000000000*u1)<t*(V'+P*(v2+1000000000*v1)):=by
 have h1:0<=t*V':=xh h0 xo
 have h3:P*(r*1000000000+u2+1)<=P*(t*v2):=q9 (by omega) (by omega)
 have h5:t*(V'+P*(v2+1000000000*v1))=t*V'+P*(t*v2)+1000000000*(P*(t*v1)):=by grind
 have h6:U'+P*(u2+1000000000*u1)=U'+P*(r*1000000000+u2+1)-P+1000000000*(P*(t*v1)):=by subst hinv;grind
 omega
def Yc4{x:Int}(h1:1<=x)(h2:x<1000000000):500000000<=x*(1000000000/(x+1)):=by
 have hd:(x+1)*(1000000000/(x+1))+1000000000%(x+1)=1000000000:=D8 ..
 have hr:1000000000%(x+1)<x+1:=D9 _ (by omega)
 have ef:0<=1000000000%(x+1):=D6 _ (by omega)
 generalize 1000000000/(x+1)=d at*
 generalize 1000000000%(x+1)=r at*
 have e:(x+1)*d=x*d+d:=by grind
 apply Ea
 intro hc
 by_cases hx:x<=500000000
 ·have h3:500000000-x+1<=d:=by omega
  have h4:x*(500000000-x+1)<=x*d:=q9 h3 (by omega)
  have h5:0<=(x-1)*(500000000-x):=xh (by omega) (by omega)
  have h6:(x-1)*(500000000-x)=x*(500000000-x+1)-500000000:=by grind
  omega
 ·have h3:1<=d:=by
   apply Ea;intro h
   have:d<=0:=by omega
   have:(x+1)*d<=0:=Int.mul_nonpos_of_nonneg_of_nonpos (by omega) this
   omega
  have h4:x*1<=x*d:=q9 h3 (by omega)
  omega
def Wj{m:Nat}(h:∀t,m<=t->t<w.length->w[t]?=some 0):vI w=vI (w.take m):=by
 by_cases hm:m<=w.length
 ·have h1:=K8 w m hm
  have h2:w.drop m=List.replicate (w.length-m) 0:=by
   apply oe
   intro t
   rw[fg,List.getElem?_replicate]
   by_cases ht:t<w.length-m
   ·rw[ay ht];exact h _ (by omega) (by omega)
   ·rw[ak ht];exact fl (by omega)
  rw[h2,Wa]at h1
  omega
 ·rw[eZ (by omega)]
def Yly{k:Nat}{a c d:Int}(ha:w[k]?=some a)(hc:w[k+1]?=some c)(hd:w[k+2]?=some d)(hz:∀t,k+3<=t->t<w.length->w[t]?=some 0):
  vI w=vI (w.take k)+pI k*(a+1000000000*(d*1000000000+c)):=by
 rw[Wj hz,show k+3=(k+2)+1 by omega,ze hd,ze hc,ze ha,vE (k+1),vE k]
 grind
def Ylz{k:Nat}{a c:Int}(ha:w[k]?=some a)(hc:w[k+1]?=some c)(hl:w.length=k+2):
  vI w=vI (w.take k)+pI k*(a+1000000000*c):=by
 have h1:vI w=vI (w.take (k+1+1)):=by rw[eZ (by omega)]
 rw[h1,ze hc,ze ha,vE k]
 grind
def Ygj{n:Nat}{t:Int}(hd:Di (w.take n))(ht:w[n]?=some t)(hz:∀j,n<j->j<w.length->w[j]?=some 0)(h1:vI w<pI n):(0<=vI w->t=0)/\(vI w<0->t<0):=by
 have hl:=f_ ht
 have h2:vI w=vI (w.take n)+pI n*t:=by
  rw[Wj (m:=n+1) (fun j h1 h2=>hz j (by omega) h2),ze ht]
 have h3:=vF hd
 have h4:=vG hd
 rw[gG,pZ (by omega)]at h4
 have h5:=CE n
 constructor
 ·intro h
  have h6:¬t<= -1:=fun hc=>by
   have:=q9 hc (uE h5)
   omega
  have h7:¬1<=t:=fun hc=>by
   have:=q9 hc (uE h5)
   omega
  omega
 ·intro h
  apply Je
  intro hc
  have:=xh (uE h5) hc
  omega
variable {N k:Nat} {s:aM}
def Yvs:(N=N+1)=False:=eq_false (by omega)
def Yvj:(N+1=N)=False:=eq_false (by omega)
def Ywa:(N+1<N)=False:=eq_false (by omega)
def Yvr:(N=N+1+1)=False:=eq_false (by omega)
def Yvi:(N+1+1=N)=False:=eq_false (by omega)
def Yv9:(N+1+1<N)=False:=eq_false (by omega)
def Yvq:(N=N+1+1+1)=False:=eq_false (by omega)
def Yvh:(N+1+1+1=N)=False:=eq_false (by omega)
def Yv8:(N+1+1+1<N)=False:=eq_false (by omega)
def Yvp:(N=N+1+1+1+1)=False:=eq_false (by omega)
def Yvg:(N+1+1+1+1=N)=False:=eq_false (by omega)
def Yv7:(N+1+1+1+1<N)=False:=eq_false (by omega)
def Yvo:(N=N+1+1+1+1+1)=False:=eq_false (by omega)
def Yvf:(N+1+1+1+1+1=N)=False:=eq_false (by omega)
def Yv6:(N+1+1+1+1+1<N)=False:=eq_false (by omega)
def Yvn:(N=N+1+1+1+1+1+1)=False:=eq_false (by omega)
def Yve:(N+1+1+1+1+1+1=N)=False:=eq_false (by omega)
def Yv5:(N+1+1+1+1+1+1<N)=False:=eq_false (by omega)
def Yvm:(N=N+1+1+1+1+1+1+1)=False:=eq_false (by omega)
def Yvd:(N+1+1+1+1+1+1+1=N)=False:=eq_false (by omega)
def Yv4:(N+1+1+1+1+1+1+1<N)=False:=eq_false (by omega)
def Yvl:(N=N+1+1+1+1+1+1+1+1)=False:=eq_false (by omega)
def Yvc:(N+1+1+1+1+1+1+1+1=N)=False:=eq_false (by omega)
def Yv3:(N+1+1+1+1+1+1+1+1<N)=False:=eq_false (by omega)
def Yvk:(N=N+1+1+1+1+1+1+1+1+1)=False:=eq_false (by omega)
def Yvb:(N+1+1+1+1+1+1+1+1+1=N)=False:=eq_false (by omega)
def Yv2:(N+1+1+1+1+1+1+1+1+1<N)=False:=eq_false (by omega)
def Ytw:(N=N+1+1+1+1+1+1+1+1+1+1)=False:=eq_false (by omega)
def Ytq:(N+1+1+1+1+1+1+1+1+1+1=N)=False:=eq_false (by omega)
def Yt8:(N+1+1+1+1+1+1+1+1+1+1<N)=False:=eq_false (by omega)
def Ytv:(N=N+1+1+1+1+1+1+1+1+1+1+1)=False:=eq_false (by omega)
def Ytp:(N+1+1+1+1+1+1+1+1+1+1+1=N)=False:=eq_false (by omega)
def Yt7:(N+1+1+1+1+1+1+1+1+1+1+1<N)=False:=eq_false (by omega)
def Ytu:(N=N+1+1+1+1+1+1+1+1+1+1+1+1)=False:=eq_false (by omega)
def Yto:(N+1+1+1+1+1+1+1+1+1+1+1+1=N)=False:=eq_false (by omega)
def Yt6:(N+1+1+1+1+1+1+1+1+1+1+1+1<N)=False:=eq_false (by omega)
def Ytt:(N=N+1+1+1+1+1+1+1+1+1+1+1+1+1)=False:=eq_false (by omega)
def Ytn:(N+1+1+1+1+1+1+1+1+1+1+1+1+1=N)=False:=eq_false (by omega)
def Yt5:(N+1+1+1+1+1+1+1+1+1+1+1+1+1<N)=False:=eq_false (by omega)
def Yts:(N=N+1+1+1+1+1+1+1+1+1+1+1+1+1+1)=False:=eq_false (by omega)
def Ytm:(N+1+1+1+1+1+1+1+1+1+1+1+1+1+1=N)=False:=eq_false (by omega)
def Yt4:(N+1+1+1+1+1+1+1+1+1+1+1+1+1+1<N)=False:=eq_false (by omega)
def Ytr:(N=N+1+1+1+1+1+1+1+1+1+1+1+1+1+1+1)=False:=eq_false (by omega)
def Ytl:(N+1+1+1+1+1+1+1+1+1+1+1+1+1+1+1=N)=False:=eq_false (by omega)
def Yt3:(N+1+1+1+1+1+1+1+1+1+1+1+1+1+1+1<N)=False:=eq_false (by omega)
attribute [simp] Yvs Yvj Ywa Yvr Yvi Yv9 Yvq Yvh Yv8 Yvp Yvg Yv7 Yvo Yvf Yv6 Yvn Yve Yv5 Yvm Yvd Yv4 Yvl Yvc Yv3 Yvk Yvb Yv2 Ytw Ytq Yt8 Ytv Ytp Yt7 Ytu Yto Yt6 Ytt Ytn Yt5 Yts Ytm Yt4 Ytr Ytl Yt3
def Yv1:(N<N+1)=True:=eq_true (by omega)
def Yv0:(N<N+1+1)=True:=eq_true (by omega)
def Yvz:(N<N+1+1+1)=True:=eq_true (by omega)
def Yvy:(N<N+1+1+1+1)=True:=eq_true (by omega)
def Yvx:(N<N+1+1+1+1+1)=True:=eq_true (by omega)
def Yvw:(N<N+1+1+1+1+1+1)=True:=eq_true (by omega)
def Yvv:(N<N+1+1+1+1+1+1+1)=True:=eq_true (by omega)
def Yvu:(N<N+1+1+1+1+1+1+1+1)=True:=eq_true (by omega)
def Yvt:(N<N+1+1+1+1+1+1+1+1+1)=True:=eq_true (by omega)
def Yt2:(N<N+1+1+1+1+1+1+1+1+1+1)=True:=eq_true (by omega)
def Yt1:(N<N+1+1+1+1+1+1+1+1+1+1+1)=True:=eq_true (by omega)
def Yt0:(N<N+1+1+1+1+1+1+1+1+1+1+1+1)=True:=eq_true (by omega)
def Ytz:(N<N+1+1+1+1+1+1+1+1+1+1+1+1+1)=True:=eq_true (by omega)
def Yty:(N<N+1+1+1+1+1+1+1+1+1+1+1+1+1+1)=True:=eq_true (by omega)
def Ytx:(N<N+1+1+1+1+1+1+1+1+1+1+1+1+1+1+1)=True:=eq_true (by omega)
attribute [simp] Yv1 Yv0 Yvz Yvy Yvx Yvw Yvv Yvu Yvt Yt2 Yt1 Yt0 Ytz Yty Ytx
def Call.eq{C:Cx}{g:V}{args:List V}{st az:St}{u:V}(h:Call C g args st (fun v s=>v=u/\s=az)):C.call g args st=some (u,az):=by
 obtain⟨v,s,e,rfl,rfl⟩:=h.ex
 exact e
def Zre{C:Cx}{K:List Kf}{Q:Rs->Prop}{fr:Fr}{st:St}{i j:Nat}(h:¬j=i):bA C (.block i::K) (some (.ex (.exit j) fr st)) Q↔bA C K (some (.ex (.exit j) fr st)) Q:=Zrf (by
 cases hb:Nat.beq j i with
 |false=>rfl
 |true=>exact absurd (P6 hb) h)
attribute [simp] Zre
def cH:List Int->Int
 |[]=>0
 |e::l=>if e=0 then cH l else e
def bh{α:Type}{l:List α}(h:k<l.length):∃d,l[k]?=some d:=⟨_,c9 h⟩
def Wk(c:UInt8):ko c=decide (48<=cI c/\cI c<=57):=by
 unfold ko cI;rw[decide_eq_decide];omega
def oD(k:Nat):List V:=(List.range 256).map fun i=>.bool (decide (48<=i/\i<48+k))
def Af(k:Nat):(oD k).length=256:=by simp[oD]
def Jw{i:Nat}(hi:i<256):(oD k)[i]?=some (.bool (decide (48<=i/\i<48+k))):=by simp[oD,hi]
def Zyg(k:Nat):(oD k).all V.one=true:=by simp[oD,V.one]
def Yj4(hk:k<10):ad (oD k) (48+k) [.bool true]=oD (k+1):=by
 apply oe
 intro j
 unfold ad
 rw[tv,List.getElem?_append,gG,Af,pZ (by omega)]
 by_cases h1:j<48+k
 ·rw[ay h1,iM,ay h1,Jw (by omega),Jw (by omega)]
  congr 3;rw[eq_iff_iff];omega
 ·rw[ak h1]
  by_cases h2:j=48+k
  ·subst h2
   rw[Jw (by omega)]
   simp
  ·rw[show j-(48+k)=(j-(48+k)-1)+1 by omega]
   simp only[P9,DZ,fg,zW]
   rw[show 48+k+1+(j-(48+k)-1)=j by omega]
   by_cases h3:j<256
   ·rw[Jw h3,Jw h3];congr 3;rw[eq_iff_iff];omega
   ·rw[fl (by rw[Af];omega),fl (by rw[Af];omega)]
def Yfq(k:Nat):(oD k).take 256=oD k:=eZ (by rw[Af];omega)
def Yj3(j k:Nat):ad (oD j) 0 (oD k)=oD k:=by
 unfold ad;rw[Af,zV (by rw[Af];omega)];simp
attribute [simp] Af Zyg Yfq Yj3
def cE(s:aM):Bool:=s.all ko
def Wl:aM:=[48,49,50,51,52,53,54,55,56,57]
def Yjc(hk:k<10):∃c,Wl[k]?=some c/\cI c=48+k:=by
 have:k=0\/k=1\/k=2\/k=3\/k=4\/k=5\/k=6\/k=7\/k=8\/k=9:=by omega
 rcases this with rfl|rfl|rfl|rfl|rfl|rfl|rfl|rfl|rfl|rfl<;>exact⟨_,rfl,rfl⟩
def BA{n:Int}(h1:0<=n)(h2:n<256):bl .u8 n=n:=by
 rw[zZ]
 simp[IntKind.wrap,IntKind.bits,IntKind.signed]
 omega
def K9{n:Int}(h1: -9223372036854775808<=n)(h2:n<9223372036854775808):IntKind.wrap .i64 n=n:=by
 simp[IntKind.wrap,IntKind.bits,IntKind.signed]
 omega
def La(l:aM)(c:UInt8):aG (l++[c])=10*aG l+(c.toNat-48):=by simp[aG]
def Wm{c:UInt8}(h:s[k]?=some c):aG (s.take (k+1))=10*aG (s.take k)+(c.toNat-48):=by
 rw[uC,h]
 simp only[Option.toList,La]
def Lb(h:cE s=true){k:Nat}{c:UInt8}(hc:s[k]?=some c):48<=cI c/\cI c<=57:=by
 unfold cE at h
 rw[l7]at h
 have:=h c (bU hc)
 rw[Wk]at this
 simpa using this
def Qj{s:aM}(h:cE s=true):∀k,k<=s.length->aG (s.take k)<10^k
 |0,_=>by simp[aG]
 |k+1,hk=>by
  obtain⟨c,hc⟩:=bh (l:=s) (k:=k) (by omega)
  have h1:=Qj h k (by omega)
  have h2:=Lb h hc
  unfold cI at h2
  rw[Wm hc,fZ]
  omega
def BB(h:cE s=true):aG s<10^s.length:=by
 have:=Qj h s.length (aQ _)
 rwa [xg]at this
def Qk{a b:Nat}(h:a<=b):10^a<=10^b:=qz (by decide) h
def Yj5(h:k<9223372036854775808):ra .and .i64 (k:Int) 1=some (.int .i64 ((k%2:Nat):Int)):=by
 show some (V.int .i64 (IntKind.wrap .i64 (BitVec.ofInt 64 (k:Int)&&& BitVec.ofInt 64 1).toNat))=_
 have e:(BitVec.ofInt 64 1).toNat=2^1-1:=by decide
 rw[BitVec.toNat_and,Ql k (by omega),e,Nat.and_two_pow_sub_one_eq_mod,K9 (by omega) (by omega)]
def Ygv:y8 .shr .i64 (k:Int) 1=some (.int .i64 ((k/2:Nat):Int)):=by
 unfold y8
 have e:min (1:Int).toNat (IntKind.bits .i64)=1:=by decide
 rw[ak (by decide),e]
 simp only[aq,V.int.injEq,true_and]
 rw[Int.fdiv_eq_ediv_of_nonneg _ (by decide)]
 rfl
variable {N i:Nat} {h:T O} {k v:V}
def ab.new{h1:T O}{n n1:Nat}(k:ab h n h1 n1)(o:O):ab h n (h1.set n1 o) (n1+1):=(k.set k.le).up (vw _)
abbrev jg(C:Cx)(f:V)(args:List V)(h:T O)(n:Nat)(P:V->T O->Nat->Prop):Prop:=∀w,Call C f args ⟨h,n,w⟩ (aA P h n w)
def zz{C:Cx}{f args h n w P K Q}(hf:jg C f args h n P)(k:∀v h' n',ab h n h' n'->P v h' n'->bA C K (some (.val v ⟨h',n',w⟩)) Q):bA C K (tc (C.call f args ⟨h,n,w⟩)) Q:=
 Ag (hf w) fun v az=>by
  obtain⟨h',n',w'⟩:=az
  rintro⟨rfl,hk,hp⟩
  exact k v h' n' hk hp
def og(p:Nat->Bool)(k:Nat):Nat->Int
 |0=> -1
 |m+1=>if p k=true then (k:Int) else og p (k+1) m
def Ztq{p:Nat->Bool}:∀{m k:Nat},(0<=og p k m↔∃j,k<=j/\j<k+m/\p j=true)
 |0,k=>by simp[og];intro j h1 h2;omega
 |m+1,k=>by
  simp only[og]
  by_cases h:p k=true
  ·rw[ay h];exact⟨fun _=>⟨k,aQ _,by omega,h⟩,fun _=>by omega⟩
  ·rw[ak h,Ztq (m:=m) (k:=k+1)]
   constructor
   ·rintro⟨j,h1,h2,h3⟩;exact⟨j,by omega,by omega,h3⟩
   ·rintro⟨j,h1,h2,h3⟩
    refine⟨j,?_,by omega,h3⟩
    have:j≠k:=fun hj=>h (hj▸h3)
    omega
def GN(v:V):Prop:=v=.aa\/v=.empty\/∃i o n c z,v=.slice i o n c z
def Sl.form{l:List V}(s:Sl h N v l):GN v:=by
 rcases s with⟨_,h|h⟩|⟨i,o,cp,c,e,rw,h,_⟩
 ·exact .inl h
 ·exact .inr (.inl h)
 ·exact .inr (.inr ⟨_,_,_,_,_,h⟩)
def GN.one(h:GN v):V.one v=true:=by
 rcases h with rfl|rfl|⟨_,_,_,_,_,rfl⟩<;>rfl
def GN.cells(h:GN v):V.cells v=[v]:=by
 rcases h with rfl|rfl|⟨_,_,_,_,_,rfl⟩<;>rfl
def strs(l:List aM):List V:=l.map .str
def wP(l:List aM):(strs l).length=l.length:=by simp[strs]
def DH{l:List aM}{j:Nat}{n:aM}(h:l[j]?=some n):(strs l)[j]?=some (.str n):=by simp[strs,h]
attribute [simp] wP
def Wo(s:xp)(ri:V):List V:=[.str s.name,.str s.op,.str s.GO,ri,.int .i64 s.cost]
def Gr(h:T O)(N:Nat)(v:V)(g:List xp):Prop:=∃l:List (List V),Sn 5 h N v l/\l.length=g.length/\∀(j:Nat) (s:xp),g[j]?=some s->∃ri,l[j]?=some (Wo s ri)/\Sl h N ri (strs s.lh)
def Gr.ae{h':T O}{N':Nat}{g:List xp}(s:Gr h N v g)(k:ab h N h' N'):Gr h' N' v g:=by
 obtain⟨l,h1,h2,h3⟩:=s
 refine⟨l,h1.ae k,h2,fun j s hs=>?_⟩
 obtain⟨ri,h4,h5⟩:=h3 j s hs
 exact⟨ri,h4,h5.ae k⟩
def Gr.at{g:List xp}(s:Gr h N v g){j:Nat}{x:xp}(hj:g[j]?=some x):∃i o c e rw ri,w_ v=some (i,o)/\i<N/\h.get i=some (.cells c e rw)/\aD c (o+j*5) 5=some (Wo x ri)/\Sl h N ri (strs x.lh):=by
 obtain⟨l,h1,h2,h3⟩:=s
 obtain⟨ri,h4,h5⟩:=h3 j x hj
 obtain⟨i,o,c,e,rw,q1,q2,q3,q4⟩:=h1.at h4
 exact⟨i,o,c,e,rw,ri,q1,q2,q3,q4,h5⟩
def Gr.slice{g:List xp}{w:List Nat}(s:Gr h N v g){lo hi:Nat}(h1:lo<=hi)(h2:hi<=g.length)(x y:Option V)(hx:x=some (.int .i64 lo)\/x=none/\lo=0)(hy:y=some (.int .i64 hi)\/y=none/\hi=g.length):
  ∃v',mS ⟨h,N,w⟩ 5 (some v) (some x) (some y) (some none)=some (v',⟨h,N,w⟩)/\Gr h N v' ((g.take hi).drop lo):=by
 obtain⟨l,g1,g2,g3⟩:=s
 obtain⟨v',e1,e2⟩:=Zsg (z:=5) (w:=w) (by decide) g1 h1 (by omega) x y hx (by rw[g2];exact hy)
 refine⟨v',e1,(l.take hi).drop lo,e2,by simp[g2],fun j s hs=>?_⟩
 have hj:lo+j<hi:=by
  apply tn;intro hc
  rw[fg,iM,ak (by omega)]at hs;cases hs
 rw[fg,iM,ay hj]at hs
 obtain⟨ri,q1,q2⟩:=g3 _ s hs
 exact⟨ri,by rw[fg,iM,ay hj];exact q1,q2⟩
def Ytd{a b c d e:V}:aD [a,b,c,d,e] 0 5=some [a,b,c,d,e]:=rfl
def Yte{a b:V}:aD [a,b] 0 2=some [a,b]:=rfl
attribute [simp] Ytd Yte
def Wp(st:St)(zero:V)(ok:Bool):Option (Option (Nat×V))->Option (V×St)
 |some (some (_,v))=>some (if ok then .aV [v,.bool true] else v,st)
 |some none=>some (if ok then .aV [zero,.bool false] else zero,st)
 |none=>none
def Qm(st:St)(kd:kV)(zero:V)(ok:Bool)(k:V):Option O->Option (V×St)
 |some (.map es)=>Wp st zero ok (fb kd k es 0)
 |_=>none
def Wq(st:St)(kd:kV)(zero:V)(ok:Bool):Option V->Option V->Option (V×St)
 |some (.map i),some k=>if kd.fits k=true then Qm st kd zero ok k (st.h.get i) else none
 |some .bN,some k=>if kd.fits k=true then Wp st zero ok (some none) else none
 |_,_=>none
def Zu4{kd:kV}{zero:V}{m k:Src}{ok:Bool}{call:cD}{r:T V}{st:St}:GF kd zero m k ok call r st=Wq st kd zero ok (m.ev r) (k.ev r):=by
 unfold GF Wq
 rcases m.ev r with _|m
 ·rfl
 ·rcases k.ev r with _|k
  ·cases m<;>rfl
  ·cases m<;>simp only[]<;>(try (by_cases hf:kd.fits k=true<;>simp[hf]))<;>try rfl
   ·rename_i i
    rcases st.h.get i with _|o
    ·rfl
    ·cases o<;>simp only[Qm]
     rename_i es
     rcases fb kd k es 0 with _|_|⟨_,_⟩<;>rfl
def Ydq{st:St}{zero:V}{ok:Bool}{s:aM}:Wq st .str zero ok (some (.map i)) (some (.str s))=Qm st .str zero ok (.str s) (st.h.get i):=rfl
def Zvp{st:St}{kd:kV}{zero:V}{ok:Bool}{es:List (V×V)}:Qm st kd zero ok k (some (.map es))=Wp st zero ok (fb kd k es 0):=rfl
attribute [simp] Zu4 Ydq Zvp Jn
def Wr(st:St)(i:Nat)(k v:V)(es:List (V×V)):Option (Option (Nat×V))->Option (V×St)
 |some (some (j,_))=>some (.aV [],st.write i (.map (es.set j (k,v))))
 |some none=>some (.aV [],st.write i (.map (es++[(k,v)])))
 |none=>none
def Qn(st:St)(kd:kV)(i:Nat)(k v:V):Option O->Option (V×St)
 |some (.map es)=>Wr st i k v es (fb kd k es 0)
 |_=>none
def Ah(st:St)(kd:kV):Option V->Option V->Option V->Option (V×St)
 |some (.map i),some k,some v=>if kd.fits k=true then Qn st kd i k v (st.h.get i) else none
 |_,_,_=>none
def Zu3{kd:kV}{m k v:Src}{call:cD}{r:T V}{st:St}:Eh kd m k v call r st=Ah st kd (m.ev r) (k.ev r) (v.ev r):=by
 unfold Eh Ah
 rcases m.ev r with _|m
 ·rfl
 ·rcases k.ev r with _|k
  ·cases m<;>rfl
  ·rcases v.ev r with _|v
   ·cases m<;>rfl
   ·cases m with
    |map i=>
     simp only[]
     by_cases hf:kd.fits k=true
     ·simp only[hf,if_true]
      rcases st.h.get i with _|o
      ·rfl
      ·cases o<;>simp only[Qn]
       rename_i es
       rcases fb kd k es 0 with _|_|⟨_,_⟩<;>rfl
     ·simp[hf]
    |_=>rfl
def Yc8{st:St}{s:aM}:Ah st .str (some (.map i)) (some (.str s)) (some v)=Qn st .str i (.str s) v (st.h.get i):=rfl
def Zvd{st:St}{kd:kV}{es:List (V×V)}:Qn st kd i k v (some (.map es))=Wr st i k v es (fb kd k es 0):=rfl
def Zzg{st:St}{es:List (V×V)}:Wr st i k v es (some none)=some (.aV [],st.write i (.map (es++[(k,v)]))):=rfl
attribute [simp] Zu3 Yc8 Zvd Zzg
def ab.then{h h1 h2:T O}{n n1 n2:Nat}(a:ab h n h1 n1)(b:ab h1 n h2 n2):ab h n h2 n2:=⟨b.le,fun i hi=>(b.get i hi).trans (a.get i hi)⟩
def pH(l:List Int):List (List V):=l.map fun x=>[.int .i64 x]
def CK(l:List Int):(pH l).length=l.length:=by simp[pH]
def Ws:∀(l:List Int),(pH l).flatten=dI l
 |[]=>rfl
 |x::l=>by
  have:=Ws l
  simp only[pH,nZ,List.flatten_cons,dI]at this ⊢
  rw[this];rfl
def Ek(l:List Int)(x:Int):pH (l++[x])=pH l++[[.int .i64 x]]:=by simp[pH]
def Own.sl{e:TypeId}{N0:Nat}{h:T O}{N:Nat}{v:V}{l:List Int}(s:Own 1 e N0 h N v (pH l)):Sl h N v (dI l):=by
 have:=s.sn
 have e1:pH l=(dI l).map fun x=>[x]:=by simp[pH,dI]
 rw[e1]at this
 exact Sn.one.1 this
structure Yu2 (g:List xp):Prop where
 le:g.length<=16
 name:∀(j:Nat) (s:xp),g[j]?=some s->j<=pos (g.take j) s.name
 ri:∀(j:Nat) (s:xp),g[j]?=some s->∀n∈s.lh,pos (g.take j) n<j
 cost:∀s∈g,1<=s.cost/\s.cost<=1000
variable {N:Nat} {h:T O}
def Cp(h:T O)(N:Nat)(v:V)(l:List V):Prop:=∃j c,v=.slice j 0 l.length c 1/\j<N/\h.get j=some (.cells l 9 true)/\∀k,c=some k->l.length<=k
def Cp.ae{h':T O}{N':Nat}{v:V}{l:List V}(s:Cp h N v l)(k:ab h N h' N'):Cp h' N' v l:=by
 obtain⟨j,c,h1,h2,h3,h4⟩:=s
 exact⟨j,c,h1,eY h2 k.le,(k.get j h2).trans h3,h4⟩
def Yqt{w:List Nat}{v:V}{l:List V}(s:Sl h N v l):eA ⟨h,N,w⟩ 1 v=some (l.length,l):=by
 rcases s with⟨rfl,rfl|rfl⟩|⟨i,o,cp,c,e,rw,rfl,h2,h3,h4,h5,h6⟩
 ·rfl
 ·rfl
 ·simp only[eA,if_true,St.row,h3,yZ]
  have:aD c o l.length=some l:=by
   unfold aD
   rw[ay h5]
   congr 1
   apply oe
   intro j
   rw[iM]
   by_cases hj:j<l.length
   ·rw[ay hj,fg];exact h4 j hj
   ·rw[ak hj,fl (by omega)]
  rw[this]
def Wu(h:T O)(N0 N:Nat)(u:V)(g:List xp)(k:Nat):Prop:=∃l:List (List V),Own 5 126 N0 h N u l/\l.length=k/\∀(j:Nat) (s:xp),j<k->g[j]?=some s->∃ri,l[j]?=some (Wo s ri)/\Cp h N ri (strs s.lh)
def Wu.ae{h':T O}{N0 N':Nat}{u:V}{g:List xp}{k:Nat}(s:Wu h N0 N u g k)(kk:ab h N h' N'):Wu h' N0 N' u g k:=by
 obtain⟨l,h1,h2,h3⟩:=s
 refine⟨l,h1.ae kk,h2,fun j s hj hs=>?_⟩
 obtain⟨ri,h4,h5⟩:=h3 j s hj hs
 exact⟨ri,h4,h5.ae kk⟩
def Sl.setInt{h:T O}{N:Nat}{v:V}{l:List Int}{i:Nat}{c0 c1:List V}{e0 e1:TypeId}{w0 w1:Bool}(s:Sl h N v (dI l))(hr:h.get i=some (.cells c0 e0 w0))(hn:∀x∈c0,∀k n,x≠.int k n)(hc:c1.length=c0.length):Sl (h.set i (.cells c1 e1 w1)) N v (dI l):=by
 rcases s with s|⟨j,o,cp,c,e,rw,h1,h2,h3,h4,h5,h6⟩
 ·exact .inl s
 ·by_cases hj:j=i
  ·subst hj
   rw[hr]at h3
   simp only[aq,O.cells.injEq]at h3
   obtain⟨rfl,rfl,rfl⟩:=h3
   cases l with
   |nil=>exact .inr ⟨j,o,cp,c1,e1,w1,h1,h2,by rw[T.ag];simp,fun k hk=>by simp[dI]at hk,by rw[hc];exact h5,h6⟩
   |cons d l=>
    have:=h4 0 (by simp[dI])
    simp only[dI,nZ,Bm]at this
    exact absurd rfl (hn _ (bU this) .i64 d)
  ·exact .inr ⟨j,o,cp,c,e,rw,h1,h2,by rw[T.ag,ak hj];exact h3,h4,h5,h6⟩
open Go Go.Proofs
set_option maxRecDepth 1000000
abbrev A.F(n:Nat):=yB Tryz.prog n
def mv(a b:Nat):dq:=⟨some a,.km (.tmp b),none⟩
def mc(a:Nat)(n:Int):dq:=⟨some a,.km (.const (.int .i64 n)),none⟩
def ia(a z x i:Nat):dq:=⟨some a,.e_ z (.tmp x) (.tmp i),none⟩
def ld(a x:Nat):dq:=⟨some a,.load none (.tmp x),none⟩
def xt(a x i:Nat):dq:=⟨some a,.extract (.tmp x) i,none⟩
def bi(a:Nat)(o:BinOp)(x y:Nat):dq:=⟨some a,.bin o (.node []) false (.tmp x) (.tmp y),none⟩
def bc(a:Nat)(o:BinOp)(x:Nat)(n:Int):dq:=⟨some a,.bin o (.node []) false (.tmp x) (.const (.int .i64 n)),none⟩
def ln(a x:Nat):dq:=⟨some a,.len 1 (.tmp x),none⟩
def so(a x:Nat):dq:=⟨none,.store 1 (.tmp a) (.tmp x),none⟩
def c1(a f x:Nat):dq:=⟨some a,.call (.const (.func f [] [])) [.tmp x],none⟩
def c2(a f x y:Nat):dq:=⟨some a,.call (.const (.func f [] [])) [.tmp x,.tmp y],none⟩
def lN(a n x:Nat):dq:=⟨some a,.load (some n) (.tmp x),none⟩
def fa(a o x:Nat):dq:=⟨some a,.ja o (.tmp x),none⟩
def pf(a x y:Nat):dq:=⟨some a,.pick (.tmp x) (.tmp y) (.const (.bool false)),none⟩
def pt(a x y:Nat):dq:=⟨some a,.pick (.tmp x) (.const (.bool true)) (.tmp y),none⟩
def ei(a x:Nat)(n:Int):dq:=⟨some a,.bin .eql (.bX .int) true (.tmp x) (.const (.int .i64 n)),none⟩
def ni(a x:Nat)(n:Int):dq:=⟨some a,.bin .neq (.bX .int) true (.tmp x) (.const (.int .i64 n)),none⟩
def mN(a:Nat):dq:=⟨some a,.km (.const .aa),none⟩
def bx(a e x:Nat):dq:=⟨some a,.box e (.tmp x),none⟩
def mg(a x g:Nat):dq:=⟨some a,.km (.tmp x),some (g,true)⟩
def mh(a x g:Nat):dq:=⟨some a,.km (.tmp x),some (g,false)⟩
def sr(l:List dq)(c:bO):bO:=.seq (.dP l) c
def cd(x:Nat)(a b:bO):bO:=.cond (.tmp x) a b
def ge(a:Nat)(o:gk):dq:=⟨some a,o,none⟩
def gn(o:gk):dq:=⟨none,o,none⟩
def gy(a g:Nat)(o:gk):dq:=⟨some a,o,some (g,true)⟩
def gz(a g:Nat)(o:gk):dq:=⟨some a,o,some (g,false)⟩
abbrev tq(x:Nat):Src:=.tmp x
abbrev kq(n:Int):Src:=.const (.int .i64 n)
abbrev fq(f:Nat):Src:=.const (.func f [] [])
attribute [simp] Bm DZ mv mc ia ld xt bi bc ln so c1 c2 lN fa pf pt ei ni mN bx mg mh sr cd ge gn gy gz
def A.FY:O:=.cells (([1,10,100,1000,10000,100000,1000000,10000000,100000000,1000000000,10000000000,100000000000,1000000000000,10000000000000,100000000000000,1000000000000000,10000000000000000,100000000000000000,1000000000000000000,10000000000000000000]:List Int).map fun z=>.int .u64 z) 284 false
def A.TB:List (Nat×O):=[(5,A.FY)]
def A.C:Cx:=⟨Jx A.TB [⟨7,[],.bool true⟩],yB Tryz.prog⟩
def A.t:A.C.dE=yB Tryz.prog:=rfl
def A.x0{f:Nat}{a c args:List V}{st:St}(h:Nat.beq 7 f=false):A.C.x (.func f a c) args st=none:=by
 show Jx A.TB [⟨7,[],.bool true⟩] (.func f a c) args st=none
 unfold Jx
 split
 ·rename_i heq
  simp only[V.func.injEq]at heq
  obtain⟨rfl,rfl,rfl⟩:=heq
  simp only[Jy,h]
 ·rfl
def Yup(P:Program)(fn:Func):bO:=match fn.body with
 |some c=>iO P c
 |none=>.skip
def El:bO->List bO
 |.seq a b=>El a++El b
 |.cond _ a b=>El a++El b
 |.block _ a=>El a
 |.scope a=>El a
 |.loop a=>a::El a
 |_=>[]
def Em:List bO->bO->bO×List bO
 |ls,.seq a b=>match Em ls a with
  |(a,ls)=>match Em ls b with
   |(b,ls)=>(.seq a b,ls)
 |ls,.cond s a b=>match Em ls a with
  |(a,ls)=>match Em ls b with
   |(b,ls)=>(.cond s a b,ls)
 |ls,.block k a=>match Em ls a with
  |(a,ls)=>(.block k a,ls)
 |ls,.scope a=>match Em ls a with
  |(a,ls)=>(.scope a,ls)
 |l::ls,.loop _=>(.loop l,ls)
 |ls,c=>(c,ls)
@[simp] def A.q (f:Func) {b:bO} (_h:Yup Tryz.prog f=b:=by conv=>lhs;cbv):bO:=b
@[simp] def A.ql (w:bO) (i:Nat) (ls:List bO) {b:bO} (_h:(Em ls ((El w)[i]?.getD .skip)).1=b:=by conv=>lhs;cbv):bO:=b
@[simp] def A.qb (w:bO) (ls:List bO) {b:bO} (_h:(Em ls w).1=b:=by conv=>lhs;cbv):bO:=b
def A.kk{n k:Nat}{res:List DX}{b:bO}(hc:yB Tryz.prog n=some ⟨k,res,b⟩)(hx:Nat.beq 7 n=false){K:List Kf}{Q:Rs->Prop}{f c args:List V}{st:St}(h:(f++args++c).length<=k):bA A.C K (tc (A.C.call (.func n f c) args st)) Q↔bA A.C (.fin res st::K) (eJ (A.C.code none b ⟨zd .nil 0 (f++args++c),k,[]⟩ ⟨st.h,st.n,[]⟩)) Q:=Yg5 (A.x0 (f:=n) hx) (mf:=⟨k,res,b⟩) (by rw[A.t];exact hc) h
def A.known{h:T O}{N:Nat}{w:List Nat}(hp:h.get 5=some A.FY):A.C.call (.func 7 [] []) [] ⟨h,N,w⟩=some (.bool true,⟨h,N,w⟩):=by
 have hq:Jz (h.get 5) A.FY=true:=by rw[hp];decide+kernel
 have hi:En ⟨h,N,w⟩ A.TB=true:=by
  show (match Jz (h.get 5) A.FY with|true=>true|false=>false)=true
  rw[hq]
 have hx:A.C.x (.func 7 [] []) [] ⟨h,N,w⟩=some (.bool true,⟨h,N,w⟩):=by
  show (match En ⟨h,N,w⟩ A.TB with|true=>some (V.bool true,(⟨h,N,w⟩:St))|false=>none)=_
  rw[hi]
 rw[Cx.mK]
 unfold sX
 rw[hx]
end
end Go.Mx
