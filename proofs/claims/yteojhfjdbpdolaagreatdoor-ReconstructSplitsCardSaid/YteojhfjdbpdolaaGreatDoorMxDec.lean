/-Digits to the base 10^9, as integers-/
import Derived.Test.YteojhfjdbpdolaaGreatDoorMxWord
import Derived.Test.YteojhfjdbpdolaaGreatDoorProg
set_option linter.all false
namespace Go.Mx
noncomputable section
open Go
variable {d:Int} {j k n:Nat} {l:List Int}
def vI:List Int->Int
 |[]=>0
 |d::l=>d+1000000000*vI l
def pI(k:Nat):Int:=1000000000^k
def vz(k:Nat):pI (k+1)=1000000000*pI k:=by unfold pI;rw[Int.pow_succ,Int.mul_comm]
def You:pI 0=1:=rfl
def CF(k:Nat):0<pI k:=by unfold pI;exact Int.pow_pos (by decide)
def Qu(i j:Nat):pI (i+j)=pI i*pI j:=by unfold pI;exact Int.pow_add ..
def Wo:∀(l m:List Int),vI (l++m)=vI l+pI l.length*vI m
 |[],m=>by simp[vI,pI]
 |d::l,m=>by
  simp only[Co,vI,Wo l m,bo,vz]
  grind
def CG(l:List Int)(d:Int):vI (l++[d])=vI l+pI l.length*d:=by simp[Wo,vI]
def Wp(n:Nat):vI (List.replicate n 0)=0:=by
 induction n with
 |zero=>rfl
 |succ n ih=>simp[List.replicate_succ,vI,ih]
def iY{α:Type}{l:List α}{d:α}(h:l[k]?=some d):k<l.length:=by
 apply tg;intro hc;rw[eJ hc]at h;cases h
def zf(h:l[k]?=some d):vI (l.take (k+1))=vI (l.take k)+pI k*d:=by
 have hk:=iY h
 rw[uJ,h]
 simp only[Option.toList]
 rw[CG,gD,pV (by omega)]
def Lc(l:List Int)(k:Nat)(hk:k<=l.length):vI l=vI (l.take k)+pI k*vI (l.drop k):=by
 have:=Wo (l.take k) (l.drop k)
 rw[Cl,gD,pV hk]at this
 exact this
def CH:∀{l:List Int} {k:Nat} {c:Int},l[k]?=some c->∀(v:Int),vI (l.set k v)=vI l+pI k*(v-c)
 |[],k,c,h,v=>by simp at h
 |d::l,0,c,h,v=>by
  simp at h;subst h
  simp only[List.set_cons_zero,vI,You];omega
 |d::l,k+1,c,h,v=>by
  have:=CH (l:=l) (k:=k) (c:=c) (by simpa using h) v
  simp only[List.set_cons_succ,vI,this,vz]
  grind
def Di(l:List Int):Prop:=∀d∈l,0<=d/\d<1000000000
def Di.get(h:Di l){k:Nat}{d:Int}(hd:l[k]?=some d):0<=d/\d<1000000000:=h d (cG hd)
def Di.set(h:Di l){k:Nat}{v:Int}(h0:0<=v)(h1:v<1000000000):Di (l.set k v):=fun d hd=>by
 rcases F9 hd with hd|rfl
 ·exact h d hd
 ·exact⟨h0,h1⟩
def Di.app{m:List Int}(h:Di l)(h':Di m):Di (l++m):=fun d hd=>by
 rcases mE.1 hd with hd|hd
 ·exact h d hd
 ·exact h' d hd
def Di.one{v:Int}(h0:0<=v)(h1:v<1000000000):Di [v]:=fun d hd=>by simp at hd;subst hd;exact⟨h0,h1⟩
def Di.nil:Di []:=fun d hd=>by simp at hd
def Di.Ek(n:Nat):Di (List.replicate n 0):=fun d hd=>by rw[Ge]at hd;rw[hd.2];decide
def Di.take(h:Di l)(k:Nat):Di (l.take k):=fun d hd=>h d (wW hd)
def Di.drop(h:Di l)(k:Nat):Di (l.drop k):=fun d hd=>h d (IQ hd)
def vA:∀{l:List Int},Di l->0<=vI l
 |[],_=>Int.le_refl _
 |d::l,h=>by
  have h1:=h d ph
  have h2:=vA (l:=l) fun e he=>h e (oU _ he)
  simp only[vI];omega
def vC:∀{l:List Int},Di l->vI l<pI l.length
 |[],_=>by decide
 |d::l,h=>by
  have h1:=h d ph
  have h2:=vC (l:=l) fun e he=>h e (oU _ he)
  simp only[vI,bo,vz];omega
def zI(l:List Int)(j:Nat):Int:=l[j]?.getD 0
def Ync(h:l[j]?=some d):zI l j=d:=by simp[zI,h]
def Wq(h:l.length<=j):zI l j=0:=by simp[zI,h]
def Wr{l:List Int}(h:Di l)(j:Nat):0<=zI l j/\zI l j<1000000000:=by
 unfold zI
 cases hj:l[j]? with
 |none=>simp
 |some d=>exact h.get hj
def Ws{l:List Int}{k:Nat}:vI (l.take (k+1))=vI (l.take k)+pI k*zI l k:=by
 unfold zI
 cases h:l[k]? with
 |some d=>exact zf h
 |none=>
  have hk:l.length<=k:=by
   apply yX;intro hc;rw[cy hc]at h;cases h
  rw[fe (by omega),fe hk];simp
def my{α:Type}{l:List α}{d:α}(h:l[k]?=some d):l.drop k=d::l.drop (k+1):=by
 obtain⟨hk,hs⟩:=wP.1 h
 rw[<-hs];exact F8 hk
def dI(l:List Int):List V:=l.map fun n=>.int .i64 n
def fZ(l:List Int):(dI l).length=l.length:=by simp[dI]
def fS{n:Int}(h:l[j]?=some n):(dI l)[j]?=some (.int .i64 n):=by simp[dI,h]
attribute [simp] fZ
def zL{v:Int}(h:k<l.length):ad (dI l) k [.int .i64 v]=dI (l.set k v):=by
 unfold ad dI
 apply lA
 intro j
 simp only[zY,eY,List.getElem?_set]
 rw[td,List.getElem?_append,gD,dL]
 by_cases h1:j<k
 ·rw[av (by omega),iz,av h1,eY,ak (by omega)]
 ·rw[ak (by omega)]
  by_cases h2:j=k
  ·subst h2
   rw[show j-min j l.length=0 by omega,av rfl,av h];rfl
  ·rw[show j-min k l.length=(j-k-1)+1 by omega,ak (by omega)]
   simp only[Qn,D5,ff,eY]
   rw[show k+1+(j-k-1)=j by omega]
def Wu:cU [.int .i64 0] n=dI (List.replicate n 0):=by rw[PJ];simp[dI]
def rj:List Int->List Int
 |[]=>[]
 |d::l=>match rj l with
  |[]=>if d=0 then [] else [d]
  |t=>d::t
def Wv:∀(l:List Int),rj (l++[0])=rj l
 |[]=>rfl
 |d::l=>by simp only[Co,rj,Wv l]
def Zp9{d:Int}(hd:d≠0):∀(l:List Int),rj (l++[d])=l++[d]
 |[]=>by simp[rj,hd]
 |e::l=>by
  simp only[Co,rj,Zp9 hd l]
  cases l<;>rfl
def Zs1:∀(l:List Int),(rj l).length<=l.length
 |[]=>aM _
 |d::l=>by
  have ih:=Zs1 l
  simp only[rj]
  split
  ·split<;>simp
  ·simp only[bo];omega
def ds(n:Nat):List Int:=if h:n=0 then [] else ((n%1000000000:Nat):Int)::ds (n/1000000000)
termination_by n
decreasing_by exact Cr (by omega) (by decide)
def th:ds 0=[]:=by rw[ds];simp
def Ag(h:n≠0):ds n=((n%1000000000:Nat):Int)::ds (n/1000000000):=by rw[ds];simp[h]
def gk:∀(n:Nat),vI (ds n)=n:=by
 intro n
 induction n using Nat.strongRecOn with
 |_ n ih=>
  by_cases h:n=0
  ·subst h;rw[th];rfl
  ·rw[Ag h]
   simp only[vI]
   rw[ih (n/1000000000) (Cr (by omega) (by decide))]
   omega
def fV(n:Nat):Di (ds n):=by
 induction n using Nat.strongRecOn with
 |_ n ih=>
  by_cases h:n=0
  ·subst h;rw[th];exact Di.nil
  ·rw[Ag h]
   intro d hd
   rcases kW.1 hd with rfl|hd
   ·omega
   ·exact ih (n/1000000000) (Cr (by omega) (by decide)) d hd
def Ww:∀{l:List Int},Di l->rj l=ds (vI l).toNat
 |[],_=>by simp[rj,vI,th]
 |d::l,h=>by
  have hl:Di l:=fun e he=>h e (oU _ he)
  have ih:=Ww hl
  have hd:=h d ph
  have hn:=vA hl
  simp only[rj,vI,ih]
  by_cases h0:vI l=0
  ·rw[h0]
   simp only[Int.toNat_zero,th,Int.mul_zero,Int.add_zero]
   by_cases nY:d=0
   ·simp[nY,th]
   ·rw[Ag (by omega),yn (by omega),zZ (by omega),th];simp[nY];omega
  ·have h3:(d+1000000000*vI l).toNat≠0:=by omega
   rw[Ag h3]
   have h1:(d+1000000000*vI l).toNat/1000000000=(vI l).toNat:=by omega
   have h2:(((d+1000000000*vI l).toNat%1000000000:Nat):Int)=d:=by omega
   rw[h1,h2]
   split
   ·rename_i hc;rw[Ag (by omega)]at hc;cases hc
   ·rfl
def GI(h:Di l){n:Nat}(hn:vI l=n):rj l=ds n:=by rw[Ww h,hn];rfl
def Yqo(n:Nat):rj (ds n)=ds n:=GI (fV n) (gk n)
def CI:ds n=[]↔n=0:=by
 constructor
 ·intro h
  by_cases h0:n=0
  ·exact h0
  ·rw[Ag h0]at h;cases h
 ·intro h;rw[h,th]
def Yqp(h:n≠0):∃d,(ds n)[(ds n).length-1]?=some d/\0<d:=by
 have aW:ds n≠[]:=fun hc=>h (CI.1 hc)
 obtain⟨l,d,hd⟩:∃l d,ds n=l++[d]:=⟨(ds n).dropLast,(ds n).getLast aW,(Qk aW).symm⟩
 refine⟨d,by rw[hd,iI,zY];simp,?_⟩
 have h1:=fV n d (by rw[hd];exact List.mem_append_right _ ph)
 have:d≠0:=fun h0=>by
  have h2:=Yqo n
  rw[hd,h0,Wv]at h2
  have:=Zs1 l
  rw[h2]at this;simp at this;omega
 omega
def Jt{n k:Nat}(h:n<1000000000^k):(ds n).length<=k:=by
 induction k generalizing n with
 |zero=>
  have:n=0:=by simpa using h
  rw[this,th];simp
 |succ k ih=>
  by_cases h0:n=0
  ·rw[h0,th];simp
  ·rw[Ag h0]
   have:=ih (n:=n/1000000000) ((pU (by decide)).2 (by rw[<-gg];exact h))
   simp only[bo];omega
def Dn(h:T O)(N:Nat)(v:V)(n:Nat):Prop:=Sl h N v (dI (ds n))
def Dn.ae{h h':T O}{N N':Nat}{v:V}(s:Dn h N v n)(k:ab h N h' N'):Dn h' N' v n:=Sl.ae s k
variable {w:List Int}
def Wx{P u1 u2 U' v1 v2 V' t r:Int}(hP:0<P)(CJ:0<=U')(fG:0<=u2)(Ah:0<=u1)(me:0<v1)(iR:0<=v2)(xo:0<=V')(CK:V'<P)(h0:0<=t)(ht:t<=1000000000)(hinv:u1=t*v1+r)(hc:t*v2<=r*1000000000+u2):
  (t-1)*(V'+P*(v2+1000000000*v1))<=U'+P*(u2+1000000000*u1):=by
 by_cases oZ:t=0
 ·subst oZ
  have h1:0<=P*(v2+1000000000*v1):=xh (by omega) (by omega)
  have h2:0<=P*(u2+1000000000*u1):=xh (by omega) (by omega)
  omega
 ·have h1:(t-1)*V'<=1000000000*P:=by
   have:(t-1)*V'<=1000000000*V':=D3 (by omega) xo
   omega
  have h2:P*1<=P*v1:=rb (by omega) (by omega)
  have h3:P*(t*v2)<=P*(r*1000000000+u2):=rb hc (by omega)
  have h4:0<=P*v2:=xh (by omega) iR
  have h5:(t-1)*(V'+P*(v2+1000000000*v1))=(t-1)*V'+P*(t*v2)-P*v2+1000000000*(P*(t*v1))-1000000000*(P*v1):=by grind
  have h6:U'+P*(u2+1000000000*u1)=U'+P*(r*1000000000+u2)+1000000000*(P*(t*v1)):=by subst hinv;grind
  omega
def Yp3{P u1 u2 U' v1 v2 V' t r:Int}(hP:0<P)(CJ:U'<P)(xo:0<=V')(h0:0<=t)(hinv:u1=t*v1+r)(hc:r*1000000000+u2<t*v2):
  U'+P*(u2+1000000000*u1)<t*(V'+P*(v2+1000000000*v1)):=by
 have h1:0<=t*V':=xh h0 xo
 have h3:P*(r*1000000000+u2+1)<=P*(t*v2):=rb (by omega) (by omega)
 have h5:t*(V'+P*(v2+1000000000*v1))=t*V'+P*(t*v2)+1000000000*(P*(t*v1)):=by grind
 have h6:U'+P*(u2+1000000000*u1)=U'+P*(r*1000000000+u2+1)-P+1000000000*(P*(t*v1)):=by subst hinv;grind
 omega
def Yeh{x:Int}(h1:1<=x)(h2:x<1000000000):500000000<=x*(1000000000/(x+1)):=by
 have hd:(x+1)*(1000000000/(x+1))+1000000000%(x+1)=1000000000:=DZ ..
 have hr:1000000000%(x+1)<x+1:=D9 _ (by omega)
 have iS:0<=1000000000%(x+1):=Eb _ (by omega)
 generalize 1000000000/(x+1)=d at*
 generalize 1000000000%(x+1)=r at*
 have e:(x+1)*d=x*d+d:=by grind
 apply Ea
 intro hc
 by_cases hx:x<=500000000
 ·have h3:500000000-x+1<=d:=by omega
  have h4:x*(500000000-x+1)<=x*d:=rb h3 (by omega)
  have h5:0<=(x-1)*(500000000-x):=xh (by omega) (by omega)
  have h6:(x-1)*(500000000-x)=x*(500000000-x+1)-500000000:=by grind
  omega
 ·have h3:1<=d:=by
   apply Ea;intro h
   have:d<=0:=by omega
   have:(x+1)*d<=0:=Int.mul_nonpos_of_nonneg_of_nonpos (by omega) this
   omega
  have h4:x*1<=x*d:=rb h3 (by omega)
  omega
def Wy{m:Nat}(h:∀t,m<=t->t<w.length->w[t]?=some 0):vI w=vI (w.take m):=by
 by_cases hm:m<=w.length
 ·have h1:=Lc w m hm
  have h2:w.drop m=List.replicate (w.length-m) 0:=by
   apply lA
   intro t
   rw[ff,List.getElem?_replicate]
   by_cases ht:t<w.length-m
   ·rw[av ht];exact h _ (by omega) (by omega)
   ·rw[ak ht];exact eJ (by omega)
  rw[h2,Wp]at h1
  omega
 ·rw[fe (by omega)]
def Yng{k:Nat}{a c d:Int}(ha:w[k]?=some a)(hc:w[k+1]?=some c)(hd:w[k+2]?=some d)(hz:∀t,k+3<=t->t<w.length->w[t]?=some 0):
  vI w=vI (w.take k)+pI k*(a+1000000000*(d*1000000000+c)):=by
 rw[Wy hz,show k+3=(k+2)+1 by omega,zf hd,zf hc,zf ha,vz (k+1),vz k]
 grind
def Ynh{k:Nat}{a c:Int}(ha:w[k]?=some a)(hc:w[k+1]?=some c)(hl:w.length=k+2):
  vI w=vI (w.take k)+pI k*(a+1000000000*c):=by
 have h1:vI w=vI (w.take (k+1+1)):=by rw[fe (by omega)]
 rw[h1,zf hc,zf ha,vz k]
 grind
def Yh2{n:Nat}{t:Int}(hd:Di (w.take n))(ht:w[n]?=some t)(hz:∀j,n<j->j<w.length->w[j]?=some 0)(h1:vI w<pI n):(0<=vI w->t=0)/\(vI w<0->t<0):=by
 have hl:=iY ht
 have h2:vI w=vI (w.take n)+pI n*t:=by
  rw[Wy (m:=n+1) (fun j h1 h2=>hz j (by omega) h2),zf ht]
 have h3:=vA hd
 have h4:=vC hd
 rw[gD,pV (by omega)]at h4
 have h5:=CF n
 constructor
 ·intro h
  have h6:¬t<= -1:=fun hc=>by
   have:=rb hc (uv h5)
   omega
  have h7:¬1<=t:=fun hc=>by
   have:=rb hc (uv h5)
   omega
  omega
 ·intro h
  apply Je
  intro hc
  have:=xh (uv h5) hc
  omega
variable {N k:Nat} {s:aQ}
def Yxi:(N=N+1)=False:=eq_false (by omega)
def Yw9:(N+1=N)=False:=eq_false (by omega)
def Yx0:(N+1<N)=False:=eq_false (by omega)
def Yxh:(N=N+1+1)=False:=eq_false (by omega)
def Yw8:(N+1+1=N)=False:=eq_false (by omega)
def Yxz:(N+1+1<N)=False:=eq_false (by omega)
def Yxg:(N=N+1+1+1)=False:=eq_false (by omega)
def Yw7:(N+1+1+1=N)=False:=eq_false (by omega)
def Yxy:(N+1+1+1<N)=False:=eq_false (by omega)
def Yxf:(N=N+1+1+1+1)=False:=eq_false (by omega)
def Yw6:(N+1+1+1+1=N)=False:=eq_false (by omega)
def Yxx:(N+1+1+1+1<N)=False:=eq_false (by omega)
def Yxe:(N=N+1+1+1+1+1)=False:=eq_false (by omega)
def Yw5:(N+1+1+1+1+1=N)=False:=eq_false (by omega)
def Yxw:(N+1+1+1+1+1<N)=False:=eq_false (by omega)
def Yxd:(N=N+1+1+1+1+1+1)=False:=eq_false (by omega)
def Yw4:(N+1+1+1+1+1+1=N)=False:=eq_false (by omega)
def Yxv:(N+1+1+1+1+1+1<N)=False:=eq_false (by omega)
def Yxc:(N=N+1+1+1+1+1+1+1)=False:=eq_false (by omega)
def Yw3:(N+1+1+1+1+1+1+1=N)=False:=eq_false (by omega)
def Yxu:(N+1+1+1+1+1+1+1<N)=False:=eq_false (by omega)
def Yxb:(N=N+1+1+1+1+1+1+1+1)=False:=eq_false (by omega)
def Yw2:(N+1+1+1+1+1+1+1+1=N)=False:=eq_false (by omega)
def Yxt:(N+1+1+1+1+1+1+1+1<N)=False:=eq_false (by omega)
def Yxa:(N=N+1+1+1+1+1+1+1+1+1)=False:=eq_false (by omega)
def Yw1:(N+1+1+1+1+1+1+1+1+1=N)=False:=eq_false (by omega)
def Yxs:(N+1+1+1+1+1+1+1+1+1<N)=False:=eq_false (by omega)
def Yvl:(N=N+1+1+1+1+1+1+1+1+1+1)=False:=eq_false (by omega)
def Yvf:(N+1+1+1+1+1+1+1+1+1+1=N)=False:=eq_false (by omega)
def Yvx:(N+1+1+1+1+1+1+1+1+1+1<N)=False:=eq_false (by omega)
def Yvk:(N=N+1+1+1+1+1+1+1+1+1+1+1)=False:=eq_false (by omega)
def Yve:(N+1+1+1+1+1+1+1+1+1+1+1=N)=False:=eq_false (by omega)
def Yvw:(N+1+1+1+1+1+1+1+1+1+1+1<N)=False:=eq_false (by omega)
def Yvj:(N=N+1+1+1+1+1+1+1+1+1+1+1+1)=False:=eq_false (by omega)
def Yvd:(N+1+1+1+1+1+1+1+1+1+1+1+1=N)=False:=eq_false (by omega)
def Yvv:(N+1+1+1+1+1+1+1+1+1+1+1+1<N)=False:=eq_false (by omega)
def Yvi:(N=N+1+1+1+1+1+1+1+1+1+1+1+1+1)=False:=eq_false (by omega)
def Yvc:(N+1+1+1+1+1+1+1+1+1+1+1+1+1=N)=False:=eq_false (by omega)
def Yvu:(N+1+1+1+1+1+1+1+1+1+1+1+1+1<N)=False:=eq_false (by omega)
def Yvh:(N=N+1+1+1+1+1+1+1+1+1+1+1+1+1+1)=False:=eq_false (by omega)
def Yvb:(N+1+1+1+1+1+1+1+1+1+1+1+1+1+1=N)=False:=eq_false (by omega)
def Yvt:(N+1+1+1+1+1+1+1+1+1+1+1+1+1+1<N)=False:=eq_false (by omega)
def Yvg:(N=N+1+1+1+1+1+1+1+1+1+1+1+1+1+1+1)=False:=eq_false (by omega)
def Yva:(N+1+1+1+1+1+1+1+1+1+1+1+1+1+1+1=N)=False:=eq_false (by omega)
def Yvs:(N+1+1+1+1+1+1+1+1+1+1+1+1+1+1+1<N)=False:=eq_false (by omega)
attribute [simp] Yxi Yw9 Yx0 Yxh Yw8 Yxz Yxg Yw7 Yxy Yxf Yw6 Yxx Yxe Yw5 Yxw Yxd Yw4 Yxv Yxc Yw3 Yxu Yxb Yw2 Yxt Yxa Yw1 Yxs Yvl Yvf Yvx Yvk Yve Yvw Yvj Yvd Yvv Yvi Yvc Yvu Yvh Yvb Yvt Yvg Yva Yvs
def Yxr:(N<N+1)=True:=eq_true (by omega)
def Yxq:(N<N+1+1)=True:=eq_true (by omega)
def Yxp:(N<N+1+1+1)=True:=eq_true (by omega)
def Yxo:(N<N+1+1+1+1)=True:=eq_true (by omega)
def Yxn:(N<N+1+1+1+1+1)=True:=eq_true (by omega)
def Yxm:(N<N+1+1+1+1+1+1)=True:=eq_true (by omega)
def Yxl:(N<N+1+1+1+1+1+1+1)=True:=eq_true (by omega)
def Yxk:(N<N+1+1+1+1+1+1+1+1)=True:=eq_true (by omega)
def Yxj:(N<N+1+1+1+1+1+1+1+1+1)=True:=eq_true (by omega)
def Yvr:(N<N+1+1+1+1+1+1+1+1+1+1)=True:=eq_true (by omega)
def Yvq:(N<N+1+1+1+1+1+1+1+1+1+1+1)=True:=eq_true (by omega)
def Yvp:(N<N+1+1+1+1+1+1+1+1+1+1+1+1)=True:=eq_true (by omega)
def Yvo:(N<N+1+1+1+1+1+1+1+1+1+1+1+1+1)=True:=eq_true (by omega)
def Yvn:(N<N+1+1+1+1+1+1+1+1+1+1+1+1+1+1)=True:=eq_true (by omega)
def Yvm:(N<N+1+1+1+1+1+1+1+1+1+1+1+1+1+1+1)=True:=eq_true (by omega)
attribute [simp] Yxr Yxq Yxp Yxo Yxn Yxm Yxl Yxk Yxj Yvr Yvq Yvp Yvo Yvn Yvm
def Call.eq{C:Cx}{g:V}{args:List V}{st aC:St}{u:V}(h:Call C g args st (fun v s=>v=u/\s=aC)):C.call g args st=some (u,aC):=by
 obtain⟨v,s,e,rfl,rfl⟩:=h.ex
 exact e
def Zr8{C:Cx}{K:List Kf}{Q:Rs->Prop}{fr:Fr}{st:St}{i j:Nat}(h:¬j=i):bG C (.block i::K) (some (.ex (.exit j) fr st)) Q↔bG C K (some (.ex (.exit j) fr st)) Q:=Zr9 (by
 cases hb:Nat.beq j i with
 |false=>rfl
 |true=>exact absurd (Qj hb) h)
attribute [simp] Zr8
def cF:List Int->Int
 |[]=>0
 |e::l=>if e=0 then cF l else e
def bk{α:Type}{l:List α}(h:k<l.length):∃d,l[k]?=some d:=⟨_,cy h⟩
def Wz(c:UInt8):kj c=decide (48<=cM c/\cM c<=57):=by
 unfold kj cM;rw[decide_eq_decide];omega
def oc(k:Nat):List V:=(List.range 256).map fun i=>.bool (decide (48<=i/\i<48+k))
def Ai(k:Nat):(oc k).length=256:=by simp[oc]
def Ju{i:Nat}(hi:i<256):(oc k)[i]?=some (.bool (decide (48<=i/\i<48+k))):=by simp[oc,hi]
def Zzl(k:Nat):(oc k).all V.one=true:=by simp[oc,V.one]
def Ylm(hk:k<10):ad (oc k) (48+k) [.bool true]=oc (k+1):=by
 apply lA
 intro j
 unfold ad
 rw[td,List.getElem?_append,gD,Ai,pV (by omega)]
 by_cases h1:j<48+k
 ·rw[av h1,iz,av h1,Ju (by omega),Ju (by omega)]
  congr 3;rw[eq_iff_iff];omega
 ·rw[ak h1]
  by_cases h2:j=48+k
  ·subst h2
   rw[Ju (by omega)]
   simp
  ·rw[show j-(48+k)=(j-(48+k)-1)+1 by omega]
   simp only[Qn,D5,ff,zY]
   rw[show 48+k+1+(j-(48+k)-1)=j by omega]
   by_cases h3:j<256
   ·rw[Ju h3,Ju h3];congr 3;rw[eq_iff_iff];omega
   ·rw[eJ (by rw[Ai];omega),eJ (by rw[Ai];omega)]
def Yha(k:Nat):(oc k).take 256=oc k:=fe (by rw[Ai];omega)
def Yll(j k:Nat):ad (oc j) 0 (oc k)=oc k:=by
 unfold ad;rw[Ai,yC (by rw[Ai];omega)];simp
attribute [simp] Ai Zzl Yha Yll
def cJ(s:aQ):Bool:=s.all kj
def WA:aQ:=[48,49,50,51,52,53,54,55,56,57]
def Ykt(hk:k<10):∃c,WA[k]?=some c/\cM c=48+k:=by
 have:k=0\/k=1\/k=2\/k=3\/k=4\/k=5\/k=6\/k=7\/k=8\/k=9:=by omega
 rcases this with rfl|rfl|rfl|rfl|rfl|rfl|rfl|rfl|rfl|rfl<;>exact⟨_,rfl,rfl⟩
def Bz{n:Int}(h1:0<=n)(h2:n<256):bj .u8 n=n:=by
 rw[Ab]
 simp[IntKind.wrap,IntKind.bits,IntKind.signed]
 omega
def Ld{n:Int}(h1: -9223372036854775808<=n)(h2:n<9223372036854775808):IntKind.wrap .i64 n=n:=by
 simp[IntKind.wrap,IntKind.bits,IntKind.signed]
 omega
def Lf(l:aQ)(c:UInt8):aH (l++[c])=10*aH l+(c.toNat-48):=by simp[aH]
def WB{c:UInt8}(h:s[k]?=some c):aH (s.take (k+1))=10*aH (s.take k)+(c.toNat-48):=by
 rw[uJ,h]
 simp only[Option.toList,Lf]
def Lg(h:cJ s=true){k:Nat}{c:UInt8}(hc:s[k]?=some c):48<=cM c/\cM c<=57:=by
 unfold cJ at h
 rw[lB]at h
 have:=h c (cG hc)
 rw[Wz]at this
 simpa using this
def Qv{s:aQ}(h:cJ s=true):∀k,k<=s.length->aH (s.take k)<10^k
 |0,_=>by simp[aH]
 |k+1,hk=>by
  obtain⟨c,hc⟩:=bk (l:=s) (k:=k) (by omega)
  have h1:=Qv h k (by omega)
  have h2:=Lg h hc
  unfold cM at h2
  rw[WB hc,gg]
  omega
def BA(h:cJ s=true):aH s<10^s.length:=by
 have:=Qv h s.length (aM _)
 rwa [xU]at this
def Qw{a b:Nat}(h:a<=b):10^a<=10^b:=qS (by decide) h
def Yln(h:k<9223372036854775808):rf .and .i64 (k:Int) 1=some (.int .i64 ((k%2:Nat):Int)):=by
 show some (V.int .i64 (IntKind.wrap .i64 (BitVec.ofInt 64 (k:Int)&&& BitVec.ofInt 64 1).toNat))=_
 have e:(BitVec.ofInt 64 1).toNat=2^1-1:=by decide
 rw[BitVec.toNat_and,Qx k (by omega),e,Nat.and_two_pow_sub_one_eq_mod,Ld (by omega) (by omega)]
def Yih:y_ .shr .i64 (k:Int) 1=some (.int .i64 ((k/2:Nat):Int)):=by
 unfold y_
 have e:min (1:Int).toNat (IntKind.bits .i64)=1:=by decide
 rw[ak (by decide),e]
 simp only[al,V.int.injEq,true_and]
 rw[Int.fdiv_eq_ediv_of_nonneg _ (by decide)]
 rfl
variable {N i:Nat} {h:T O} {k v:V}
def ab.new{h1:T O}{n n1:Nat}(k:ab h n h1 n1)(o:O):ab h n (h1.set n1 o) (n1+1):=(k.set k.le).up (uR _)
abbrev mJ(C:Cx)(f:V)(args:List V)(h:T O)(n:Nat)(P:V->T O->Nat->Prop):Prop:=∀w,Call C f args ⟨h,n,w⟩ (aE P h n w)
def CL{C:Cx}{f args h n w P K Q}(hf:mJ C f args h n P)(k:∀v h' n',ab h n h' n'->P v h' n'->bG C K (some (.val v ⟨h',n',w⟩)) Q):bG C K (sP (C.call f args ⟨h,n,w⟩)) Q:=
 BB (hf w) fun v aC=>by
  obtain⟨h',n',w'⟩:=aC
  rintro⟨rfl,hk,hp⟩
  exact k v h' n' hk hp
def nR(p:Nat->Bool)(k:Nat):Nat->Int
 |0=> -1
 |m+1=>if p k=true then (k:Int) else nR p (k+1) m
def Zud{p:Nat->Bool}:∀{m k:Nat},(0<=nR p k m↔∃j,k<=j/\j<k+m/\p j=true)
 |0,k=>by simp[nR];intro j h1 h2;omega
 |m+1,k=>by
  simp only[nR]
  by_cases h:p k=true
  ·rw[av h];exact⟨fun _=>⟨k,aM _,by omega,h⟩,fun _=>by omega⟩
  ·rw[ak h,Zud (m:=m) (k:=k+1)]
   constructor
   ·rintro⟨j,h1,h2,h3⟩;exact⟨j,by omega,by omega,h3⟩
   ·rintro⟨j,h1,h2,h3⟩
    refine⟨j,?_,by omega,h3⟩
    have:j≠k:=fun hj=>h (hj▸h3)
    omega
def GJ(v:V):Prop:=v=.aa\/v=.empty\/∃i o n c z,v=.slice i o n c z
def Sl.form{l:List V}(s:Sl h N v l):GJ v:=by
 rcases s with⟨_,h|h⟩|⟨i,o,cp,c,e,rw,h,_⟩
 ·exact .inl h
 ·exact .inr (.inl h)
 ·exact .inr (.inr ⟨_,_,_,_,_,h⟩)
def GJ.one(h:GJ v):V.one v=true:=by
 rcases h with rfl|rfl|⟨_,_,_,_,_,rfl⟩<;>rfl
def GJ.cells(h:GJ v):V.cells v=[v]:=by
 rcases h with rfl|rfl|⟨_,_,_,_,_,rfl⟩<;>rfl
def strs(l:List aQ):List V:=l.map .str
def w_(l:List aQ):(strs l).length=l.length:=by simp[strs]
def FV{l:List aQ}{j:Nat}{n:aQ}(h:l[j]?=some n):(strs l)[j]?=some (.str n):=by simp[strs,h]
attribute [simp] w_
def WC(s:xp)(rk:V):List V:=[.str s.name,.str s.op,.str s.GK,rk,.int .i64 s.cost]
def Gr(h:T O)(N:Nat)(v:V)(g:List xp):Prop:=∃l:List (List V),Sn 5 h N v l/\l.length=g.length/\∀(j:Nat) (s:xp),g[j]?=some s->∃rk,l[j]?=some (WC s rk)/\Sl h N rk (strs s.kP)
def Gr.ae{h':T O}{N':Nat}{g:List xp}(s:Gr h N v g)(k:ab h N h' N'):Gr h' N' v g:=by
 obtain⟨l,h1,h2,h3⟩:=s
 refine⟨l,h1.ae k,h2,fun j s hs=>?_⟩
 obtain⟨rk,h4,h5⟩:=h3 j s hs
 exact⟨rk,h4,h5.ae k⟩
def Gr.at{g:List xp}(s:Gr h N v g){j:Nat}{x:xp}(hj:g[j]?=some x):∃i o c e rw rk,yd v=some (i,o)/\i<N/\h.get i=some (.cells c e rw)/\aF c (o+j*5) 5=some (WC x rk)/\Sl h N rk (strs x.kP):=by
 obtain⟨l,h1,h2,h3⟩:=s
 obtain⟨rk,h4,h5⟩:=h3 j x hj
 obtain⟨i,o,c,e,rw,q1,q2,q3,q4⟩:=h1.at h4
 exact⟨i,o,c,e,rw,rk,q1,q2,q3,q4,h5⟩
def Gr.slice{g:List xp}{w:List Nat}(s:Gr h N v g){lo hi:Nat}(h1:lo<=hi)(h2:hi<=g.length)(x y:Option V)(hx:x=some (.int .i64 lo)\/x=none/\lo=0)(hy:y=some (.int .i64 hi)\/y=none/\hi=g.length):
  ∃v',l8 ⟨h,N,w⟩ 5 (some v) (some x) (some y) (some none)=some (v',⟨h,N,w⟩)/\Gr h N v' ((g.take hi).drop lo):=by
 obtain⟨l,g1,g2,g3⟩:=s
 obtain⟨v',e1,e2⟩:=Zs5 (z:=5) (w:=w) (by decide) g1 h1 (by omega) x y hx (by rw[g2];exact hy)
 refine⟨v',e1,(l.take hi).drop lo,e2,by simp[g2],fun j s hs=>?_⟩
 have hj:lo+j<hi:=by
  apply tg;intro hc
  rw[ff,iz,ak (by omega)]at hs;cases hs
 rw[ff,iz,av hj]at hs
 obtain⟨rk,q1,q2⟩:=g3 _ s hs
 exact⟨rk,by rw[ff,iz,av hj];exact q1,q2⟩
def Yu2{a b c d e:V}:aF [a,b,c,d,e] 0 5=some [a,b,c,d,e]:=rfl
def Yu3{a b:V}:aF [a,b] 0 2=some [a,b]:=rfl
attribute [simp] Yu2 Yu3
def WD(st:St)(zero:V)(ok:Bool):Option (Option (Nat×V))->Option (V×St)
 |some (some (_,v))=>some (if ok then .aX [v,.bool true] else v,st)
 |some none=>some (if ok then .aX [zero,.bool false] else zero,st)
 |none=>none
def Qy(st:St)(kd:kL)(zero:V)(ok:Bool)(k:V):Option O->Option (V×St)
 |some (.map es)=>WD st zero ok (fi kd k es 0)
 |_=>none
def WE(st:St)(kd:kL)(zero:V)(ok:Bool):Option V->Option V->Option (V×St)
 |some (.map i),some k=>if kd.fits k=true then Qy st kd zero ok k (st.h.get i) else none
 |some .bN,some k=>if kd.fits k=true then WD st zero ok (some none) else none
 |_,_=>none
def Zvu{kd:kL}{zero:V}{m k:Src}{ok:Bool}{call:cI}{r:T V}{st:St}:Gz kd zero m k ok call r st=WE st kd zero ok (m.ev r) (k.ev r):=by
 unfold Gz WE
 rcases m.ev r with _|m
 ·rfl
 ·rcases k.ev r with _|k
  ·cases m<;>rfl
  ·cases m<;>simp only[]<;>(try (by_cases hf:kd.fits k=true<;>simp[hf]))<;>try rfl
   ·rename_i i
    rcases st.h.get i with _|o
    ·rfl
    ·cases o<;>simp only[Qy]
     rename_i es
     rcases fi kd k es 0 with _|_|⟨_,_⟩<;>rfl
def Ye8{st:St}{zero:V}{ok:Bool}{s:aQ}:WE st .str zero ok (some (.map i)) (some (.str s))=Qy st .str zero ok (.str s) (st.h.get i):=rfl
def Zwf{st:St}{kd:kL}{zero:V}{ok:Bool}{es:List (V×V)}:Qy st kd zero ok k (some (.map es))=WD st zero ok (fi kd k es 0):=rfl
attribute [simp] Zvu Ye8 Zwf Jl
def WG(st:St)(i:Nat)(k v:V)(es:List (V×V)):Option (Option (Nat×V))->Option (V×St)
 |some (some (j,_))=>some (.aX [],st.write i (.map (es.set j (k,v))))
 |some none=>some (.aX [],st.write i (.map (es++[(k,v)])))
 |none=>none
def Qz(st:St)(kd:kL)(i:Nat)(k v:V):Option O->Option (V×St)
 |some (.map es)=>WG st i k v es (fi kd k es 0)
 |_=>none
def Aj(st:St)(kd:kL):Option V->Option V->Option V->Option (V×St)
 |some (.map i),some k,some v=>if kd.fits k=true then Qz st kd i k v (st.h.get i) else none
 |_,_,_=>none
def Zvt{kd:kL}{m k v:Src}{call:cI}{r:T V}{st:St}:Ei kd m k v call r st=Aj st kd (m.ev r) (k.ev r) (v.ev r):=by
 unfold Ei Aj
 rcases m.ev r with _|m
 ·rfl
 ·rcases k.ev r with _|k
  ·cases m<;>rfl
  ·rcases v.ev r with _|v
   ·cases m<;>rfl
   ·cases m with
    |map i=>
     simp only[]
     by_cases hf:kd.fits k=true
     ·simp only[hf,if_true]
      rcases st.h.get i with _|o
      ·rfl
      ·cases o<;>simp only[Qz]
       rename_i es
       rcases fi kd k es 0 with _|_|⟨_,_⟩<;>rfl
     ·simp[hf]
    |_=>rfl
def Yen{st:St}{s:aQ}:Aj st .str (some (.map i)) (some (.str s)) (some v)=Qz st .str i (.str s) v (st.h.get i):=rfl
def Zv2{st:St}{kd:kL}{es:List (V×V)}:Qz st kd i k v (some (.map es))=WG st i k v es (fi kd k es 0):=rfl
def Yak{st:St}{es:List (V×V)}:WG st i k v es (some none)=some (.aX [],st.write i (.map (es++[(k,v)]))):=rfl
attribute [simp] Zvt Yen Zv2 Yak
def ab.then{h h1 h2:T O}{n n1 n2:Nat}(a:ab h n h1 n1)(b:ab h1 n h2 n2):ab h n h2 n2:=⟨b.le,fun i hi=>(b.get i hi).trans (a.get i hi)⟩
def pz(l:List Int):List (List V):=l.map fun x=>[.int .i64 x]
def CM(l:List Int):(pz l).length=l.length:=by simp[pz]
def WH:∀(l:List Int),(pz l).flatten=dI l
 |[]=>rfl
 |x::l=>by
  have:=WH l
  simp only[pz,py,List.flatten_cons,dI]at this ⊢
  rw[this];rfl
def El(l:List Int)(x:Int):pz (l++[x])=pz l++[[.int .i64 x]]:=by simp[pz]
def Own.sl{e:TypeId}{N0:Nat}{h:T O}{N:Nat}{v:V}{l:List Int}(s:Own 1 e N0 h N v (pz l)):Sl h N v (dI l):=by
 have:=s.sn
 have e1:pz l=(dI l).map fun x=>[x]:=by simp[pz,dI]
 rw[e1]at this
 exact Sn.one.1 this
structure Yws (g:List xp):Prop where
 le:g.length<=16
 name:∀(j:Nat) (s:xp),g[j]?=some s->j<=pos (g.take j) s.name
 rk:∀(j:Nat) (s:xp),g[j]?=some s->∀n∈s.kP,pos (g.take j) n<j
 cost:∀s∈g,1<=s.cost/\s.cost<=1000
variable {N:Nat} {h:T O}
def Cp(h:T O)(N:Nat)(v:V)(l:List V):Prop:=∃j c,v=.slice j 0 l.length c 1/\j<N/\h.get j=some (.cells l 9 true)/\∀k,c=some k->l.length<=k
def Cp.ae{h':T O}{N':Nat}{v:V}{l:List V}(s:Cp h N v l)(k:ab h N h' N'):Cp h' N' v l:=by
 obtain⟨j,c,h1,h2,h3,h4⟩:=s
 exact⟨j,c,h1,eX h2 k.le,(k.get j h2).trans h3,h4⟩
def Yr9{w:List Nat}{v:V}{l:List V}(s:Sl h N v l):eL ⟨h,N,w⟩ 1 v=some (l.length,l):=by
 rcases s with⟨rfl,rfl|rfl⟩|⟨i,o,cp,c,e,rw,rfl,h2,h3,h4,h5,h6⟩
 ·rfl
 ·rfl
 ·simp only[eL,if_true,St.row,h3,yZ]
  have:aF c o l.length=some l:=by
   unfold aF
   rw[av h5]
   congr 1
   apply lA
   intro j
   rw[iz]
   by_cases hj:j<l.length
   ·rw[av hj,ff];exact h4 j hj
   ·rw[ak hj,eJ (by omega)]
  rw[this]
def WI(h:T O)(N0 N:Nat)(u:V)(g:List xp)(k:Nat):Prop:=∃l:List (List V),Own 5 126 N0 h N u l/\l.length=k/\∀(j:Nat) (s:xp),j<k->g[j]?=some s->∃rk,l[j]?=some (WC s rk)/\Cp h N rk (strs s.kP)
def WI.ae{h':T O}{N0 N':Nat}{u:V}{g:List xp}{k:Nat}(s:WI h N0 N u g k)(kk:ab h N h' N'):WI h' N0 N' u g k:=by
 obtain⟨l,h1,h2,h3⟩:=s
 refine⟨l,h1.ae kk,h2,fun j s hj hs=>?_⟩
 obtain⟨rk,h4,h5⟩:=h3 j s hj hs
 exact⟨rk,h4,h5.ae kk⟩
def Sl.setInt{h:T O}{N:Nat}{v:V}{l:List Int}{i:Nat}{c0 c1:List V}{e0 e1:TypeId}{w0 w1:Bool}(s:Sl h N v (dI l))(hr:h.get i=some (.cells c0 e0 w0))(hn:∀x∈c0,∀k n,x≠.int k n)(hc:c1.length=c0.length):Sl (h.set i (.cells c1 e1 w1)) N v (dI l):=by
 rcases s with s|⟨j,o,cp,c,e,rw,h1,h2,h3,h4,h5,h6⟩
 ·exact .inl s
 ·by_cases hj:j=i
  ·subst hj
   rw[hr]at h3
   simp only[al,O.cells.injEq]at h3
   obtain⟨rfl,rfl,rfl⟩:=h3
   cases l with
   |nil=>exact .inr ⟨j,o,cp,c1,e1,w1,h1,h2,by rw[T.ag];simp,fun k hk=>by simp[dI]at hk,by rw[hc];exact h5,h6⟩
   |cons d l=>
    have:=h4 0 (by simp[dI])
    simp only[dI,py,Bl]at this
    exact absurd rfl (hn _ (cG this) .i64 d)
  ·exact .inr ⟨j,o,cp,c,e,rw,h1,h2,by rw[T.ag,ak hj];exact h3,h4,h5,h6⟩
open Go Go.Proofs
set_option maxRecDepth 1000000
abbrev A.F(n:Nat):=yV Tryz.prog n
def mv(a b:Nat):dw:=⟨some a,.kh (.tmp b),none⟩
def mc(a:Nat)(n:Int):dw:=⟨some a,.kh (.const (.int .i64 n)),none⟩
def ia(a z x i:Nat):dw:=⟨some a,.fg z (.tmp x) (.tmp i),none⟩
def ld(a x:Nat):dw:=⟨some a,.load none (.tmp x),none⟩
def xt(a x i:Nat):dw:=⟨some a,.extract (.tmp x) i,none⟩
def bi(a:Nat)(o:BinOp)(x y:Nat):dw:=⟨some a,.bin o (.node []) false (.tmp x) (.tmp y),none⟩
def bc(a:Nat)(o:BinOp)(x:Nat)(n:Int):dw:=⟨some a,.bin o (.node []) false (.tmp x) (.const (.int .i64 n)),none⟩
def ln(a x:Nat):dw:=⟨some a,.len 1 (.tmp x),none⟩
def so(a x:Nat):dw:=⟨none,.store 1 (.tmp a) (.tmp x),none⟩
def c1(a f x:Nat):dw:=⟨some a,.call (.const (.func f [] [])) [.tmp x],none⟩
def c2(a f x y:Nat):dw:=⟨some a,.call (.const (.func f [] [])) [.tmp x,.tmp y],none⟩
def lN(a n x:Nat):dw:=⟨some a,.load (some n) (.tmp x),none⟩
def fa(a o x:Nat):dw:=⟨some a,.iP o (.tmp x),none⟩
def pf(a x y:Nat):dw:=⟨some a,.pick (.tmp x) (.tmp y) (.const (.bool false)),none⟩
def pt(a x y:Nat):dw:=⟨some a,.pick (.tmp x) (.const (.bool true)) (.tmp y),none⟩
def ei(a x:Nat)(n:Int):dw:=⟨some a,.bin .eql (.bX .int) true (.tmp x) (.const (.int .i64 n)),none⟩
def ni(a x:Nat)(n:Int):dw:=⟨some a,.bin .neq (.bX .int) true (.tmp x) (.const (.int .i64 n)),none⟩
def mN(a:Nat):dw:=⟨some a,.kh (.const .aa),none⟩
def bx(a e x:Nat):dw:=⟨some a,.box e (.tmp x),none⟩
def mg(a x g:Nat):dw:=⟨some a,.kh (.tmp x),some (g,true)⟩
def mh(a x g:Nat):dw:=⟨some a,.kh (.tmp x),some (g,false)⟩
def sr(l:List dw)(c:bU):bU:=.seq (.dN l) c
def cd(x:Nat)(a b:bU):bU:=.cond (.tmp x) a b
def ge(a:Nat)(o:gh):dw:=⟨some a,o,none⟩
def gn(o:gh):dw:=⟨none,o,none⟩
def gy(a g:Nat)(o:gh):dw:=⟨some a,o,some (g,true)⟩
def gz(a g:Nat)(o:gh):dw:=⟨some a,o,some (g,false)⟩
abbrev tq(x:Nat):Src:=.tmp x
abbrev kq(n:Int):Src:=.const (.int .i64 n)
abbrev fq(f:Nat):Src:=.const (.func f [] [])
attribute [simp] Bl D5 mv mc ia ld xt bi bc ln so c1 c2 lN fa pf pt ei ni mN bx mg mh sr cd ge gn gy gz
def A.Lh:O:=.cells (([1,10,100,1000,10000,100000,1000000,10000000,100000000,1000000000,10000000000,100000000000,1000000000000,10000000000000,100000000000000,1000000000000000,10000000000000000,100000000000000000,1000000000000000000,10000000000000000000]:List Int).map fun z=>.int .u64 z) 282 false
def A.TB:List (Nat×O):=[(5,A.Lh)]
def A.C:Cx:=⟨Jv A.TB [⟨7,[],.bool true⟩],yV Tryz.prog⟩
def A.t:A.C.dK=yV Tryz.prog:=rfl
def A.x0{f:Nat}{a c args:List V}{st:St}(h:Nat.beq 7 f=false):A.C.x (.func f a c) args st=none:=by
 show Jv A.TB [⟨7,[],.bool true⟩] (.func f a c) args st=none
 unfold Jv
 split
 ·rename_i heq
  simp only[V.func.injEq]at heq
  obtain⟨rfl,rfl,rfl⟩:=heq
  simp only[Jw,h]
 ·rfl
def Ywd(P:Program)(fn:Func):bU:=match fn.body with
 |some c=>iF P c
 |none=>.skip
def Em:bU->List bU
 |.seq a b=>Em a++Em b
 |.cond _ a b=>Em a++Em b
 |.block _ a=>Em a
 |.scope a=>Em a
 |.loop a=>a::Em a
 |_=>[]
def En:List bU->bU->bU×List bU
 |ls,.seq a b=>match En ls a with
  |(a,ls)=>match En ls b with
   |(b,ls)=>(.seq a b,ls)
 |ls,.cond s a b=>match En ls a with
  |(a,ls)=>match En ls b with
   |(b,ls)=>(.cond s a b,ls)
 |ls,.block k a=>match En ls a with
  |(a,ls)=>(.block k a,ls)
 |ls,.scope a=>match En ls a with
  |(a,ls)=>(.scope a,ls)
 |l::ls,.loop _=>(.loop l,ls)
 |ls,c=>(c,ls)
@[simp] def A.q (f:Func) {b:bU} (_h:Ywd Tryz.prog f=b:=by conv=>lhs;cbv):bU:=b
@[simp] def A.ql (w:bU) (i:Nat) (ls:List bU) {b:bU} (_h:(En ls ((Em w)[i]?.getD .skip)).1=b:=by conv=>lhs;cbv):bU:=b
@[simp] def A.qb (w:bU) (ls:List bU) {b:bU} (_h:(En ls w).1=b:=by conv=>lhs;cbv):bU:=b
def A.kk{n k:Nat}{res:List F4}{b:bU}(hc:yV Tryz.prog n=some ⟨k,res,b⟩)(hx:Nat.beq 7 n=false){K:List Kf}{Q:Rs->Prop}{f c args:List V}{st:St}(h:(f++args++c).length<=k):bG A.C K (sP (A.C.call (.func n f c) args st)) Q↔bG A.C (.fin res st::K) (fj (A.C.code none b ⟨ze .nil 0 (f++args++c),k,[]⟩ ⟨st.h,st.n,[]⟩)) Q:=Yir (A.x0 (f:=n) hx) (mf:=⟨k,res,b⟩) (by rw[A.t];exact hc) h
def A.known{h:T O}{N:Nat}{w:List Nat}(hp:h.get 5=some A.Lh):A.C.call (.func 7 [] []) [] ⟨h,N,w⟩=some (.bool true,⟨h,N,w⟩):=by
 have hq:Jx (h.get 5) A.Lh=true:=by rw[hp];decide+kernel
 have hi:Eo ⟨h,N,w⟩ A.TB=true:=by
  show (match Jx (h.get 5) A.Lh with|true=>true|false=>false)=true
  rw[hq]
 have hx:A.C.x (.func 7 [] []) [] ⟨h,N,w⟩=some (.bool true,⟨h,N,w⟩):=by
  show (match Eo ⟨h,N,w⟩ A.TB with|true=>some (V.bool true,(⟨h,N,w⟩:St))|false=>none)=_
  rw[hi]
 rw[Cx.rm]
 unfold ti
 rw[hx]
end
end Go.Mx
