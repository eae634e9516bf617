/-
  Characters of a string, one after the other.
-/
import Derived.Test.YtlbophlgohokkaaGreatDoorMxWord
set_option linter.all false
namespace Go.Mx
open Go
variable {i:Nat} {j:Int} {k:IntKind} {r:T V} {s:Str} {x:Src}
def Yj6(s:Str)(p:Nat):Int:=(Utf8.decode ⟨s.toArray⟩ p).1
def Yj5(s:Str)(p:Nat):Nat:=(Utf8.decode ⟨s.toArray⟩ p).2
def Zl1(i:Nat)(st:St):Option (Str×Nat)→Option (V×St)
 |some (s,p)=>if p<s.length then some (.tup [.bool true,.int .i64 p,.int .i32 (Utf8.decode ⟨s.toArray⟩ p).1],st.write i (.siter s (p+(Utf8.decode ⟨s.toArray⟩ p).2))) else some (.tup [.bool false],st)
 |none=>none
def Zth:Option O→Option (Str×Nat)
 |some (.siter s p)=>some (s,p)
 |_=>none
def Yhf(st:St):Option V→Option (V×St)
 |some (.ptr i 0)=>Zl1 i st (Zth (st.h.get i))
 |_=>none
theorem Zpx{call:Zay}{st:St}:Zds x call r st=Yhf st (x.ev r):=by
 unfold Zds Yhf
 rcases x.ev r with _|v
 ·rfl
 ·cases v<;>try rfl
  rename_i i o
  cases o with
  |zero=>
   simp only[Zth,Zl1]
   rcases st.h.get i with _|o
   ·rfl
   ·cases o<;>rfl
  |succ=>rfl
theorem Zvw{st:St}:Yhf st (some (.ptr i 0))=Zl1 i st (Zth (st.h.get i)):=rfl
theorem Zrq{p:Nat}:Zth (some (.siter s p))=some (s,p):=rfl
theorem Zy9{st:St}{p:Nat}(h:p<s.length):Zl1 i st (some (s,p))=some (.tup [.bool true,.int .i64 p,.int .i32 (Yj6 s p)],st.write i (.siter s (p+Yj5 s p))):=by simp[Zl1,h,Yj6,Yj5]
theorem Zvx{st:St}:Zl1 i st (some (s,s.length))=some (.tup [.bool false],st):=by simp[Zl1]
def Zca(st:St):Option V→Option (Option V)→Option (Option V)→Option (V×St)
 |some (.str s),some lo,some hi=>match Za1 hi s.length s.length with
   |some h=>match Za1 lo h 0 with
    |some l=>some (.str ((s.take h).drop l),st)
    |none=>none
   |none=>none
 |_,_,_=>none
theorem Zok{lo hi:Option Src}{call:Zay}{st:St}:Zcc x lo hi call r st=Zca st (x.ev r) (evOpt r lo) (evOpt r hi):=by
 unfold Zcc Zca;rfl
theorem Zdq{st:St}(h0:0≤j)(h1:j≤s.length):Zca st (some (.str s)) (some (some (.int k j))) (some none)=some (.str (s.drop j.toNat),st):=by
 simp[Zca,Za1,Zg1,h0,h1]
theorem Zjw{st:St}(h0:0≤j)(h1:j≤s.length):Zca st (some (.str s)) (some none) (some (some (.int k j)))=some (.str (s.take j.toNat),st):=by
 simp[Zca,Za1,Zg1,h0,h1]
theorem Zna{st:St}{k':IntKind}{i:Int}(h0:0≤i)(h1:i≤j)(h2:j≤s.length):Zca st (some (.str s)) (some (some (.int k i))) (some (some (.int k' j)))=some (.str ((s.take j.toNat).drop i.toNat),st):=by
 have h3:0≤j:=by omega
 have h4:max j 0=j:=by omega
 simp[Zca,Za1,Zg1,h0,h1,h2,h3,h4]
def Zmk(s:Str):List V:=s.map fun b=>.int .u8 (u8I b)
theorem Zxj(s:Str):(Zmk s).length=s.length:=by simp[Zmk]
theorem Zxk{k:Nat}{c:UInt8}(h:s[k]?=some c):(Zmk s)[k]?=some (.int .u8 (u8I c)):=by simp[Zmk,h]
def sbK(elem:TypeId)(st:St):Option V→Option (V×St)
 |some (.str s)=>some (.slice st.n 0 s.length none 1,st.alloc (.cells (Zmk s) elem true))
 |_=>none
theorem Zoj{elem:TypeId}{call:Zay}{st:St}:Zcb elem x call r st=sbK elem st (x.ev r):=by
 unfold Zcb sbK;rfl
theorem Ycc{elem:TypeId}{st:St}:sbK elem st (some (.str s))=some (.slice st.n 0 s.length none 1,st.alloc (.cells (Zmk s) elem true)):=rfl
attribute [simp] Zoj Ycc Zxj Zpx Zvw Zrq Zy9 Zvx Zok Zdq Zjw Zna Zct
theorem Zjd:∀(s:Str) (i:Nat),Zh9 47 s i=if slashAt s<s.length then ((i+slashAt s:Nat):Int) else -1
 |[],i=>rfl
 |c::s,i=>by
  simp only[Zh9,slashAt]
  have e:(c==47)=decide (c.toNat=47):=by
   rw[Bool.eq_iff_iff]
   simp only[beq_iff_eq,decide_eq_true_eq]
   exact⟨fun h=>by rw[h];rfl,fun h=>UInt8.toNat_inj.1 h⟩
  rw[e]
  by_cases h:c.toNat=47
  ·simp[h]
  ·simp only[h,decide_false,if_false,Ypa,Zjd s (i+1),Yoz]
   by_cases h2:slashAt s<s.length
   ·rw[Yo4 h2,Yo4 (by omega)];omega
   ·rw[Yo0 h2,Yo0 (by omega)]
variable {d:Int} {j k n:Nat} {l:List Int}
def vI:List Int→Int
 |[]=>0
 |d::l=>d+1000000000*vI l
def pI(k:Nat):Int:=1000000000^k
theorem Zcs(k:Nat):pI (k+1)=1000000000*pI k:=by unfold pI;rw[Int.pow_succ,Int.mul_comm]
theorem Yg9:pI 0=1:=rfl
theorem Zi2(k:Nat):0<pI k:=by unfold pI;exact Int.pow_pos (by decide)
theorem Ztv(i j:Nat):pI (i+j)=pI i*pI j:=by unfold pI;exact Int.pow_add ..
theorem Zlf:∀(l m:List Int),vI (l++m)=vI l+pI l.length*vI m
 |[],m=>by simp[vI,pI]
 |d::l,m=>by
  simp only[Yrn,vI,Zlf l m,Yoz,Zcs]
  grind
theorem Zfm(l:List Int)(d:Int):vI (l++[d])=vI l+pI l.length*d:=by simp[Zlf,vI]
theorem Zn4(n:Nat):vI (List.replicate n 0)=0:=by
 induction n with
 |zero=>rfl
 |succ n ih=>simp[List.replicate_succ,vI,ih]
theorem Za6{α:Type}{l:List α}{d:α}(h:l[k]?=some d):k<l.length:=by
 apply Yp5;intro hc;rw[Ypd hc]at h;cases h
theorem Za9(h:l[k]?=some d):vI (l.take (k+1))=vI (l.take k)+pI k*d:=by
 have hk:=Za6 h
 rw[Yrs,h]
 simp only[Option.toList]
 rw[Zfm,Ypq,Yp7 (by omega)]
theorem Zio(l:List Int)(k:Nat)(hk:k≤l.length):vI l=vI (l.take k)+pI k*vI (l.drop k):=by
 have:=Zlf (l.take k) (l.drop k)
 rw[Yq8,Ypq,Yp7 hk]at this
 exact this
theorem Zip:∀{l:List Int} {k:Nat} {c:Int},l[k]?=some c→∀(v:Int),vI (l.set k v)=vI l+pI k*(v-c)
 |[],k,c,h,v=>by simp at h
 |d::l,0,c,h,v=>by
  simp at h;subst h
  simp only[List.set_cons_zero,vI,Yg9];omega
 |d::l,k+1,c,h,v=>by
  have:=Zip (l:=l) (k:=k) (c:=c) (by simpa using h) v
  simp only[List.set_cons_succ,vI,this,Zcs]
  grind
def Di(l:List Int):Prop:=∀d∈l,0≤d∧d<1000000000
theorem Di.get(h:Di l){k:Nat}{d:Int}(hd:l[k]?=some d):0≤d∧d<1000000000:=h d (Yo3 hd)
theorem Di.set(h:Di l){k:Nat}{v:Int}(h0:0≤v)(h1:v<1000000000):Di (l.set k v):=fun d hd=>by
 rcases Yq5 hd with hd|rfl
 ·exact h d hd
 ·exact⟨h0,h1⟩
theorem Di.app{m:List Int}(h:Di l)(h':Di m):Di (l++m):=fun d hd=>by
 rcases Yp2.1 hd with hd|hd
 ·exact h d hd
 ·exact h' d hd
theorem Di.one{v:Int}(h0:0≤v)(h1:v<1000000000):Di [v]:=fun d hd=>by simp at hd;subst hd;exact⟨h0,h1⟩
theorem Di.nil:Di []:=fun d hd=>by simp at hd
theorem Di.zeros(n:Nat):Di (List.replicate n 0):=fun d hd=>by rw[Ysb]at hd;rw[hd.2];decide
theorem Di.take(h:Di l)(k:Nat):Di (l.take k):=fun d hd=>h d (Yrr hd)
theorem Di.drop(h:Di l)(k:Nat):Di (l.drop k):=fun d hd=>h d (List.mem_of_mem_drop hd)
theorem Zhu:∀{l:List Int},Di l→0≤vI l
 |[],_=>Int.le_refl _
 |d::l,h=>by
  have h1:=h d Ypw
  have h2:=Zhu (l:=l) fun e he=>h e (Ypo _ he)
  simp only[vI];omega
theorem Zhv:∀{l:List Int},Di l→vI l<pI l.length
 |[],_=>by decide
 |d::l,h=>by
  have h1:=h d Ypw
  have h2:=Zhv (l:=l) fun e he=>h e (Ypo _ he)
  simp only[vI,Yoz,Zcs];omega
def zI(l:List Int)(j:Nat):Int:=l[j]?.getD 0
theorem Yf7(h:l[j]?=some d):zI l j=d:=by simp[zI,h]
theorem Zrd(h:l.length≤j):zI l j=0:=by simp[zI,h]
theorem Yf8{l:List Int}(h:Di l)(j:Nat):0≤zI l j∧zI l j<1000000000:=by
 unfold zI
 cases hj:l[j]? with
 |none=>simp
 |some d=>exact h.get hj
theorem Zle{l:List Int}{k:Nat}:vI (l.take (k+1))=vI (l.take k)+pI k*zI l k:=by
 unfold zI
 cases h:l[k]? with
 |some d=>exact Za9 h
 |none=>
  have hk:l.length≤k:=by
   apply Yqv;intro hc;rw[Yo2 hc]at h;cases h
  rw[Yo7 (by omega),Yo7 hk];simp
theorem Zas{α:Type}{l:List α}{d:α}(h:l[k]?=some d):l.drop k=d::l.drop (k+1):=by
 obtain⟨hk,hs⟩:=Ypz.1 h
 rw[←hs];exact Yrl hk
def dI(l:List Int):List V:=l.map fun n=>.int .i64 n
theorem Zar(l:List Int):(dI l).length=l.length:=by simp[dI]
theorem Zbf{n:Int}(h:l[j]?=some n):(dI l)[j]?=some (.int .i64 n):=by simp[dI,h]
attribute [simp] Zar
theorem Zhq{v:Int}(h:k<l.length):splice (dI l) k [.int .i64 v]=dI (l.set k v):=by
 unfold splice dI
 apply Ypt
 intro j
 simp only[Yqi,Ypp,List.getElem?_set]
 rw[Yqf,List.getElem?_append,Ypq,Yrc]
 by_cases h1:j<k
 ·rw[Yo4 (by omega),Ypf,Yo4 h1,Ypp,Yo0 (by omega)]
 ·rw[Yo0 (by omega)]
  by_cases h2:j=k
  ·subst h2
   rw[show j-min j l.length=0 by omega,Yo4 rfl,Yo4 h];rfl
  ·rw[show j-min k l.length=(j-k-1)+1 by omega,Yo0 (by omega)]
   simp only[Yss,Yqz,Yo9,Ypp]
   rw[show k+1+(j-k-1)=j by omega]
theorem Zoy:Zc7 [.int .i64 0] n=dI (List.replicate n 0):=by rw[Ye3];simp[dI]
def Zfp:List Int→List Int
 |[]=>[]
 |d::l=>match Zfp l with
  |[]=>if d=0 then [] else [d]
  |t=>d::t
theorem Zjv:∀(l:List Int),Zfp (l++[0])=Zfp l
 |[]=>rfl
 |d::l=>by simp only[Yrn,Zfp,Zjv l]
theorem Zm7{d:Int}(hd:d≠0):∀(l:List Int),Zfp (l++[d])=l++[d]
 |[]=>by simp[Zfp,hd]
 |e::l=>by
  simp only[Yrn,Zfp,Zm7 hd l]
  cases l<;>rfl
theorem Zpi:∀(l:List Int),(Zfp l).length≤l.length
 |[]=>Yoy _
 |d::l=>by
  have ih:=Zpi l
  simp only[Zfp]
  split
  ·split<;>simp
  ·simp only[Yoz];omega
def ds(n:Nat):List Int:=if h:n=0 then [] else ((n%1000000000:Nat):Int)::ds (n/1000000000)
termination_by n
decreasing_by exact Yr2 (by omega) (by decide)
theorem Zce:ds 0=[]:=by rw[ds];simp
theorem Zgt(h:n≠0):ds n=((n%1000000000:Nat):Int)::ds (n/1000000000):=by rw[ds];simp[h]
theorem Zbb:∀(n:Nat),vI (ds n)=n:=by
 intro n
 induction n using Nat.strongRecOn with
 |_ n ih=>
  by_cases h:n=0
  ·subst h;rw[Zce];rfl
  ·rw[Zgt h]
   simp only[vI]
   rw[ih (n/1000000000) (Yr2 (by omega) (by decide))]
   omega
theorem Zb4(n:Nat):Di (ds n):=by
 induction n using Nat.strongRecOn with
 |_ n ih=>
  by_cases h:n=0
  ·subst h;rw[Zce];exact Di.nil
  ·rw[Zgt h]
   intro d hd
   rcases Ypy.1 hd with rfl|hd
   ·omega
   ·exact ih (n/1000000000) (Yr2 (by omega) (by decide)) d hd
theorem Zn7:∀{l:List Int},Di l→Zfp l=ds (vI l).toNat
 |[],_=>by simp[Zfp,vI,Zce]
 |d::l,h=>by
  have hl:Di l:=fun e he=>h e (Ypo _ he)
  have ih:=Zn7 hl
  have hd:=h d Ypw
  have hn:=Zhu hl
  simp only[Zfp,vI,ih]
  by_cases h0:vI l=0
  ·rw[h0]
   simp only[Int.toNat_zero,Zce,Int.mul_zero,Int.add_zero]
   by_cases hd0:d=0
   ·simp[hd0,Zce]
   ·rw[Zgt (by omega),Yqq (by omega),Yq3 (by omega),Zce];simp[hd0];omega
  ·have h3:(d+1000000000*vI l).toNat≠0:=by omega
   rw[Zgt h3]
   have h1:(d+1000000000*vI l).toNat/1000000000=(vI l).toNat:=by omega
   have h2:(((d+1000000000*vI l).toNat%1000000000:Nat):Int)=d:=by omega
   rw[h1,h2]
   split
   ·rename_i hc;rw[Zgt (by omega)]at hc;cases hc
   ·rfl
theorem Zfo(h:Di l){n:Nat}(hn:vI l=n):Zfp l=ds n:=by rw[Zn7 h,hn];rfl
theorem Yis(n:Nat):Zfp (ds n)=ds n:=Zfo (Zb4 n) (Zbb n)
theorem Zdi:ds n=[]↔n=0:=by
 constructor
 ·intro h
  by_cases h0:n=0
  ·exact h0
  ·rw[Zgt h0]at h;cases h
 ·intro h;rw[h,Zce]
theorem Yit(h:n≠0):∃d,(ds n)[(ds n).length-1]?=some d∧0<d:=by
 have hne:ds n≠[]:=fun hc=>h (Zdi.1 hc)
 obtain⟨l,d,hd⟩:∃l d,ds n=l++[d]:=⟨(ds n).dropLast,(ds n).getLast hne,(Yst hne).symm⟩
 refine⟨d,by rw[hd,Ypm,Yqi];simp,?_⟩
 have h1:=Zb4 n d (by rw[hd];exact List.mem_append_right _ Ypw)
 have:d≠0:=fun h0=>by
  have h2:=Yis n
  rw[hd,h0,Zjv]at h2
  have:=Zpi l
  rw[h2]at this;simp at this;omega
 omega
theorem Zfc{n k:Nat}(h:n<1000000000^k):(ds n).length≤k:=by
 induction k generalizing n with
 |zero=>
  have:n=0:=by simpa using h
  rw[this,Zce];simp
 |succ k ih=>
  by_cases h0:n=0
  ·rw[h0,Zce];simp
  ·rw[Zgt h0]
   have:=ih (n:=n/1000000000) ((Ypu (by decide)).2 (by rw[←Ypn];exact h))
   simp only[Yoz];omega
def Dn(h:T O)(N:Nat)(v:V)(n:Nat):Prop:=Sl h N v (dI (ds n))
theorem Dn.keep{h h':T O}{N N':Nat}{v:V}(s:Dn h N v n)(k:Keeps h N h' N'):Dn h' N' v n:=Sl.keep s k
variable {w:List Int}
theorem Zsq{P u1 u2 U' v1 v2 V' t r:Int}(hP:0<P)(hU':0≤U')(hu2:0≤u2)(hu1:0≤u1)(hv1:0<v1)(hv2:0≤v2)(hV0:0≤V')(hV':V'<P)(h0:0≤t)(ht:t≤1000000000)(hinv:u1=t*v1+r)(hc:t*v2≤r*1000000000+u2):
  (t-1)*(V'+P*(v2+1000000000*v1))≤U'+P*(u2+1000000000*u1):=by
 by_cases ht0:t=0
 ·subst ht0
  have h1:0≤P*(v2+1000000000*v1):=Yqs (by omega) (by omega)
  have h2:0≤P*(u2+1000000000*u1):=Yqs (by omega) (by omega)
  omega
 ·have h1:(t-1)*V'≤1000000000*P:=by
   have:(t-1)*V'≤1000000000*V':=Yqe (by omega) hV0
   omega
  have h2:P*1≤P*v1:=Ype (by omega) (by omega)
  have h3:P*(t*v2)≤P*(r*1000000000+u2):=Ype hc (by omega)
  have h4:0≤P*v2:=Yqs (by omega) hv2
  have h5:(t-1)*(V'+P*(v2+1000000000*v1))=(t-1)*V'+P*(t*v2)-P*v2+1000000000*(P*(t*v1))-1000000000*(P*v1):=by grind
  have h6:U'+P*(u2+1000000000*u1)=U'+P*(r*1000000000+u2)+1000000000*(P*(t*v1)):=by subst hinv;grind
  omega
theorem Yh8{P u1 u2 U' v1 v2 V' t r:Int}(hP:0<P)(hU':U'<P)(hV0:0≤V')(h0:0≤t)(hinv:u1=t*v1+r)(hc:r*1000000000+u2<t*v2):
  U'+P*(u2+1000000000*u1)<t*(V'+P*(v2+1000000000*v1)):=by
 have h1:0≤t*V':=Yqs h0 hV0
 have h3:P*(r*1000000000+u2+1)≤P*(t*v2):=Ype (by omega) (by omega)
 have h5:t*(V'+P*(v2+1000000000*v1))=t*V'+P*(t*v2)+1000000000*(P*(t*v1)):=by grind
 have h6:U'+P*(u2+1000000000*u1)=U'+P*(r*1000000000+u2+1)-P+1000000000*(P*(t*v1)):=by subst hinv;grind
 omega
theorem Zy7{x:Int}(h1:1≤x)(h2:x<1000000000):500000000≤x*(1000000000/(x+1)):=by
 have hd:(x+1)*(1000000000/(x+1))+1000000000%(x+1)=1000000000:=Yq9 ..
 have hr:1000000000%(x+1)<x+1:=Yro _ (by omega)
 have hr0:0≤1000000000%(x+1):=Yr3 _ (by omega)
 generalize 1000000000/(x+1)=d at*
 generalize 1000000000%(x+1)=r at*
 have e:(x+1)*d=x*d+d:=by grind
 apply Yry
 intro hc
 by_cases hx:x≤500000000
 ·have h3:500000000-x+1≤d:=by omega
  have h4:x*(500000000-x+1)≤x*d:=Ype h3 (by omega)
  have h5:0≤(x-1)*(500000000-x):=Yqs (by omega) (by omega)
  have h6:(x-1)*(500000000-x)=x*(500000000-x+1)-500000000:=by grind
  omega
 ·have h3:1≤d:=by
   apply Yry;intro h
   have:d≤0:=by omega
   have:(x+1)*d≤0:=Int.mul_nonpos_of_nonneg_of_nonpos (by omega) this
   omega
  have h4:x*1≤x*d:=Ype h3 (by omega)
  omega
theorem Zgb{m:Nat}(h:∀t,m≤t→t<w.length→w[t]?=some 0):vI w=vI (w.take m):=by
 by_cases hm:m≤w.length
 ·have h1:=Zio w m hm
  have h2:w.drop m=List.replicate (w.length-m) 0:=by
   apply Ypt
   intro t
   rw[Yo9,List.getElem?_replicate]
   by_cases ht:t<w.length-m
   ·rw[Yo4 ht];exact h _ (by omega) (by omega)
   ·rw[Yo0 ht];exact Ypd (by omega)
  rw[h2,Zn4]at h1
  omega
 ·rw[Yo7 (by omega)]
theorem Ygb{k:Nat}{a c d:Int}(ha:w[k]?=some a)(hc:w[k+1]?=some c)(hd:w[k+2]?=some d)(hz:∀t,k+3≤t→t<w.length→w[t]?=some 0):
  vI w=vI (w.take k)+pI k*(a+1000000000*(d*1000000000+c)):=by
 rw[Zgb hz,show k+3=(k+2)+1 by omega,Za9 hd,Za9 hc,Za9 ha,Zcs (k+1),Zcs k]
 grind
theorem Ygc{k:Nat}{a c:Int}(ha:w[k]?=some a)(hc:w[k+1]?=some c)(hl:w.length=k+2):
  vI w=vI (w.take k)+pI k*(a+1000000000*c):=by
 have h1:vI w=vI (w.take (k+1+1)):=by rw[Yo7 (by omega)]
 rw[h1,Za9 hc,Za9 ha,Zcs k]
 grind
theorem Ybz{n:Nat}{t:Int}(hd:Di (w.take n))(ht:w[n]?=some t)(hz:∀j,n<j→j<w.length→w[j]?=some 0)(h1:vI w<pI n):(0≤vI w→t=0)∧(vI w<0→t<0):=by
 have hl:=Za6 ht
 have h2:vI w=vI (w.take n)+pI n*t:=by
  rw[Zgb (m:=n+1) (fun j h1 h2=>hz j (by omega) h2),Za9 ht]
 have h3:=Zhu hd
 have h4:=Zhv hd
 rw[Ypq,Yp7 (by omega)]at h4
 have h5:=Zi2 n
 constructor
 ·intro h
  have h6:¬t≤ -1:=fun hc=>by
   have:=Ype hc (Yqw h5)
   omega
  have h7:¬1≤t:=fun hc=>by
   have:=Ype hc (Yqw h5)
   omega
  omega
 ·intro h
  apply Ysj
  intro hc
  have:=Yqs (Yqw h5) hc
  omega
variable {N k:Nat} {s:Str}
theorem Yn5:(N=N+1)=False:=eq_false (by omega)
theorem Ynw:(N+1=N)=False:=eq_false (by omega)
theorem Yon:(N+1<N)=False:=eq_false (by omega)
theorem Yn4:(N=N+1+1)=False:=eq_false (by omega)
theorem Ynv:(N+1+1=N)=False:=eq_false (by omega)
theorem Yom:(N+1+1<N)=False:=eq_false (by omega)
theorem Yn3:(N=N+1+1+1)=False:=eq_false (by omega)
theorem Ynu:(N+1+1+1=N)=False:=eq_false (by omega)
theorem Yol:(N+1+1+1<N)=False:=eq_false (by omega)
theorem Yn2:(N=N+1+1+1+1)=False:=eq_false (by omega)
theorem Ynt:(N+1+1+1+1=N)=False:=eq_false (by omega)
theorem Yok:(N+1+1+1+1<N)=False:=eq_false (by omega)
theorem Yn1:(N=N+1+1+1+1+1)=False:=eq_false (by omega)
theorem Yns:(N+1+1+1+1+1=N)=False:=eq_false (by omega)
theorem Yoj:(N+1+1+1+1+1<N)=False:=eq_false (by omega)
theorem Yn0:(N=N+1+1+1+1+1+1)=False:=eq_false (by omega)
theorem Ynr:(N+1+1+1+1+1+1=N)=False:=eq_false (by omega)
theorem Yoi:(N+1+1+1+1+1+1<N)=False:=eq_false (by omega)
theorem Ynz:(N=N+1+1+1+1+1+1+1)=False:=eq_false (by omega)
theorem Ynq:(N+1+1+1+1+1+1+1=N)=False:=eq_false (by omega)
theorem Yoh:(N+1+1+1+1+1+1+1<N)=False:=eq_false (by omega)
theorem Yny:(N=N+1+1+1+1+1+1+1+1)=False:=eq_false (by omega)
theorem Ynp:(N+1+1+1+1+1+1+1+1=N)=False:=eq_false (by omega)
theorem Yog:(N+1+1+1+1+1+1+1+1<N)=False:=eq_false (by omega)
theorem Ynx:(N=N+1+1+1+1+1+1+1+1+1)=False:=eq_false (by omega)
theorem Yno:(N+1+1+1+1+1+1+1+1+1=N)=False:=eq_false (by omega)
theorem Yof:(N+1+1+1+1+1+1+1+1+1<N)=False:=eq_false (by omega)
theorem Ymj:(N=N+1+1+1+1+1+1+1+1+1+1)=False:=eq_false (by omega)
theorem Ymd:(N+1+1+1+1+1+1+1+1+1+1=N)=False:=eq_false (by omega)
theorem Ymv:(N+1+1+1+1+1+1+1+1+1+1<N)=False:=eq_false (by omega)
theorem Ymi:(N=N+1+1+1+1+1+1+1+1+1+1+1)=False:=eq_false (by omega)
theorem Ymc:(N+1+1+1+1+1+1+1+1+1+1+1=N)=False:=eq_false (by omega)
theorem Ymu:(N+1+1+1+1+1+1+1+1+1+1+1<N)=False:=eq_false (by omega)
theorem Ymh:(N=N+1+1+1+1+1+1+1+1+1+1+1+1)=False:=eq_false (by omega)
theorem Ymb:(N+1+1+1+1+1+1+1+1+1+1+1+1=N)=False:=eq_false (by omega)
theorem Ymt:(N+1+1+1+1+1+1+1+1+1+1+1+1<N)=False:=eq_false (by omega)
theorem Ymg:(N=N+1+1+1+1+1+1+1+1+1+1+1+1+1)=False:=eq_false (by omega)
theorem Yma:(N+1+1+1+1+1+1+1+1+1+1+1+1+1=N)=False:=eq_false (by omega)
theorem Yms:(N+1+1+1+1+1+1+1+1+1+1+1+1+1<N)=False:=eq_false (by omega)
theorem Ymf:(N=N+1+1+1+1+1+1+1+1+1+1+1+1+1+1)=False:=eq_false (by omega)
theorem Yl9:(N+1+1+1+1+1+1+1+1+1+1+1+1+1+1=N)=False:=eq_false (by omega)
theorem Ymr:(N+1+1+1+1+1+1+1+1+1+1+1+1+1+1<N)=False:=eq_false (by omega)
theorem Yme:(N=N+1+1+1+1+1+1+1+1+1+1+1+1+1+1+1)=False:=eq_false (by omega)
theorem Yl8:(N+1+1+1+1+1+1+1+1+1+1+1+1+1+1+1=N)=False:=eq_false (by omega)
theorem Ymq:(N+1+1+1+1+1+1+1+1+1+1+1+1+1+1+1<N)=False:=eq_false (by omega)
attribute [simp] Yn5 Ynw Yon Yn4 Ynv Yom Yn3 Ynu Yol Yn2 Ynt Yok Yn1 Yns Yoj Yn0 Ynr Yoi Ynz Ynq Yoh Yny Ynp Yog Ynx Yno Yof Ymj Ymd Ymv Ymi Ymc Ymu Ymh Ymb Ymt Ymg Yma Yms Ymf Yl9 Ymr Yme Yl8 Ymq
theorem Yoe:(N<N+1)=True:=eq_true (by omega)
theorem Yod:(N<N+1+1)=True:=eq_true (by omega)
theorem Yoc:(N<N+1+1+1)=True:=eq_true (by omega)
theorem Yob:(N<N+1+1+1+1)=True:=eq_true (by omega)
theorem Yoa:(N<N+1+1+1+1+1)=True:=eq_true (by omega)
theorem Yn9:(N<N+1+1+1+1+1+1)=True:=eq_true (by omega)
theorem Yn8:(N<N+1+1+1+1+1+1+1)=True:=eq_true (by omega)
theorem Yn7:(N<N+1+1+1+1+1+1+1+1)=True:=eq_true (by omega)
theorem Yn6:(N<N+1+1+1+1+1+1+1+1+1)=True:=eq_true (by omega)
theorem Ymp:(N<N+1+1+1+1+1+1+1+1+1+1)=True:=eq_true (by omega)
theorem Ymo:(N<N+1+1+1+1+1+1+1+1+1+1+1)=True:=eq_true (by omega)
theorem Ymn:(N<N+1+1+1+1+1+1+1+1+1+1+1+1)=True:=eq_true (by omega)
theorem Ymm:(N<N+1+1+1+1+1+1+1+1+1+1+1+1+1)=True:=eq_true (by omega)
theorem Yml:(N<N+1+1+1+1+1+1+1+1+1+1+1+1+1+1)=True:=eq_true (by omega)
theorem Ymk:(N<N+1+1+1+1+1+1+1+1+1+1+1+1+1+1+1)=True:=eq_true (by omega)
attribute [simp] Yoe Yod Yoc Yob Yoa Yn9 Yn8 Yn7 Yn6 Ymp Ymo Ymn Ymm Yml Ymk
theorem Call.eq{C:Cx}{g:V}{args:List V}{st st':St}{u:V}(h:Call C g args st (fun v s=>v=u∧s=st')):C.call g args st=some (u,st'):=by
 obtain⟨v,s,e,rfl,rfl⟩:=h.ex
 exact e
theorem Fn.pure{C:Cx}{f:Nat}{args:List V}{h:T O}{u:V}{P:V→T O→Nat→Prop}(e:∀w,C.call (.func f [] []) args ⟨h,N,w⟩=some (u,⟨h,N,w⟩))(p:P u h N):Fn C f args h N P:=fun w=>⟨⟨u,⟨h,N,w⟩,e w,rfl,Keeps.refl,p⟩⟩
theorem Zoo{C:Cx}{K:List Kf}{Q:Rs→Prop}{fr:Fr}{st:St}{i j:Nat}(h:¬j=i):Run C (.block i::K) (some (.ex (.exit j) fr st)) Q↔Run C K (some (.ex (.exit j) fr st)) Q:=Zop (by
 cases hb:Nat.beq j i with
 |false=>rfl
 |true=>exact absurd (Ysp hb) h)
attribute [simp] Zoo
def Zau:List Int→Int
 |[]=>0
 |e::l=>if e=0 then Zau l else e
theorem Zaf{α:Type}{l:List α}(h:k<l.length):∃d,l[k]?=some d:=⟨_,Yo2 h⟩
theorem Yar(c:UInt8):Zjr c=decide (48≤u8I c∧u8I c≤57):=by
 unfold Zjr u8I;rw[decide_eq_decide];omega
def Zmo(k:Nat):List V:=(List.range 256).map fun i=>.bool (decide (48≤i∧i<48+k))
theorem Zdl(k:Nat):(Zmo k).length=256:=by simp[Zmo]
theorem Zhg{i:Nat}(hi:i<256):(Zmo k)[i]?=some (.bool (decide (48≤i∧i<48+k))):=by simp[Zmo,hi]
theorem Zuy(k:Nat):(Zmo k).all V.one=true:=by simp[Zmo,V.one]
theorem Yev(hk:k<10):splice (Zmo k) (48+k) [.bool true]=Zmo (k+1):=by
 apply Ypt
 intro j
 unfold splice
 rw[Yqf,List.getElem?_append,Ypq,Zdl,Yp7 (by omega)]
 by_cases h1:j<48+k
 ·rw[Yo4 h1,Ypf,Yo4 h1,Zhg (by omega),Zhg (by omega)]
  congr 3;rw[eq_iff_iff];omega
 ·rw[Yo0 h1]
  by_cases h2:j=48+k
  ·subst h2
   rw[Zhg (by omega)]
   simp
  ·rw[show j-(48+k)=(j-(48+k)-1)+1 by omega]
   simp only[Yss,Yqz,Yo9,Yqi]
   rw[show 48+k+1+(j-(48+k)-1)=j by omega]
   by_cases h3:j<256
   ·rw[Zhg h3,Zhg h3];congr 3;rw[eq_iff_iff];omega
   ·rw[Ypd (by rw[Zdl];omega),Ypd (by rw[Zdl];omega)]
theorem Ybc(k:Nat):(Zmo k).take 256=Zmo k:=Yo7 (by rw[Zdl];omega)
theorem Yeu(j k:Nat):splice (Zmo j) 0 (Zmo k)=Zmo k:=by
 unfold splice;rw[Zdl,Yqo (by rw[Zdl];omega)];simp
attribute [simp] Zdl Zuy Ybc Yeu
def Zb3(s:Str):Bool:=s.all Zjr
def Ym3:Str:=[48,49,50,51,52,53,54,55,56,57]
theorem Yea(hk:k<10):∃c,Ym3[k]?=some c∧u8I c=48+k:=by
 have:k=0∨k=1∨k=2∨k=3∨k=4∨k=5∨k=6∨k=7∨k=8∨k=9:=by omega
 rcases this with rfl|rfl|rfl|rfl|rfl|rfl|rfl|rfl|rfl|rfl<;>exact⟨_,rfl,rfl⟩
theorem Zec{n:Int}(h1:0≤n)(h2:n<256):Zaq .u8 n=n:=by
 rw[Zdy]
 simp[IntKind.wrap,IntKind.bits,IntKind.signed]
 omega
theorem Zij{n:Int}(h1: -9223372036854775808≤n)(h2:n<9223372036854775808):IntKind.wrap .i64 n=n:=by
 simp[IntKind.wrap,IntKind.bits,IntKind.signed]
 omega
theorem Zgl(l:Str)(c:UInt8):numV (l++[c])=10*numV l+(c.toNat-48):=by simp[numV]
theorem Zl0{c:UInt8}(h:s[k]?=some c):numV (s.take (k+1))=10*numV (s.take k)+(c.toNat-48):=by
 rw[Yrs,h]
 simp only[Option.toList,Zgl]
theorem Zjn(h:Zb3 s=true){k:Nat}{c:UInt8}(hc:s[k]?=some c):48≤u8I c∧u8I c≤57:=by
 unfold Zb3 at h
 rw[Ypv]at h
 have:=h c (Yo3 hc)
 rw[Yar]at this
 simpa using this
theorem Zol{s:Str}(h:Zb3 s=true):∀k,k≤s.length→numV (s.take k)<10^k
 |0,_=>by simp[numV]
 |k+1,hk=>by
  obtain⟨c,hc⟩:=Zaf (l:=s) (k:=k) (by omega)
  have h1:=Zol h k (by omega)
  have h2:=Zjn h hc
  unfold u8I at h2
  rw[Zl0 hc,Ypn]
  omega
theorem Zdz(h:Zb3 s=true):numV s<10^s.length:=by
 have:=Zol h s.length (Yoy _)
 rwa [Yrg]at this
theorem Ztx{a b:Nat}(h:a≤b):10^a≤10^b:=Yp3 (by decide) h
theorem Yew(h:k<9223372036854775808):Zdf .and .i64 (k:Int) 1=some (.int .i64 ((k%2:Nat):Int)):=by
 show some (V.int .i64 (IntKind.wrap .i64 (BitVec.ofInt 64 (k:Int)&&& BitVec.ofInt 64 1).toNat))=_
 have e:(BitVec.ofInt 64 1).toNat=2^1-1:=by decide
 rw[BitVec.toNat_and,Zi5 k (by omega),e,Nat.and_two_pow_sub_one_eq_mod,Zij (by omega) (by omega)]
theorem Yb6:Zho .shr .i64 (k:Int) 1=some (.int .i64 ((k/2:Nat):Int)):=by
 unfold Zho
 have e:min (1:Int).toNat (IntKind.bits .i64)=1:=by decide
 rw[Yo0 (by decide),e]
 simp only[Yox,V.int.injEq,true_and]
 rw[Int.fdiv_eq_ediv_of_nonneg _ (by decide)]
 rfl
variable {N i:Nat} {h:T O} {k v:V}
theorem Keeps.new{h1:T O}{n n1:Nat}(k:Keeps h n h1 n1)(o:O):Keeps h n (h1.set n1 o) (n1+1):=(k.set k.le).up (Ysg _)
abbrev FnV(C:Cx)(f:V)(args:List V)(h:T O)(n:Nat)(P:V→T O→Nat→Prop):Prop:=∀w,Call C f args ⟨h,n,w⟩ (Ret P h n w)
theorem Zh2{C:Cx}{f args h n w P K Q}(hf:FnV C f args h n P)(k:∀v h' n',Keeps h n h' n'→P v h' n'→Run C K (some (.val v ⟨h',n',w⟩)) Q):Run C K (Zo8 (C.call f args ⟨h,n,w⟩)) Q:=
 Zkw (hf w) fun v st'=>by
  obtain⟨h',n',w'⟩:=st'
  rintro⟨rfl,hk,hp⟩
  exact k v h' n' hk hp
theorem FnV.pure{C:Cx}{f:V}{args:List V}{u:V}{P:V→T O→Nat→Prop}(e:∀w,C.call f args ⟨h,N,w⟩=some (u,⟨h,N,w⟩))(p:P u h N):FnV C f args h N P:=fun w=>⟨⟨u,⟨h,N,w⟩,e w,rfl,Keeps.refl,p⟩⟩
def Zb8(p:Nat→Bool)(k:Nat):Nat→Int
 |0=> -1
 |m+1=>if p k=true then (k:Int) else Zb8 p (k+1) m
theorem Zqu{p:Nat→Bool}:∀{m k:Nat},(0≤Zb8 p k m↔∃j,k≤j∧j<k+m∧p j=true)
 |0,k=>by simp[Zb8];intro j h1 h2;omega
 |m+1,k=>by
  simp only[Zb8]
  by_cases h:p k=true
  ·rw[Yo4 h];exact⟨fun _=>⟨k,Yoy _,by omega,h⟩,fun _=>by omega⟩
  ·rw[Yo0 h,Zqu (m:=m) (k:=k+1)]
   constructor
   ·rintro⟨j,h1,h2,h3⟩;exact⟨j,by omega,by omega,h3⟩
   ·rintro⟨j,h1,h2,h3⟩
    refine⟨j,?_,by omega,h3⟩
    have:j≠k:=fun hj=>h (hj▸h3)
    omega
def SlF(v:V):Prop:=v=.nilslice∨v=.empty∨∃i o n c z,v=.slice i o n c z
theorem Sl.form{l:List V}(s:Sl h N v l):SlF v:=by
 rcases s with⟨_,h|h⟩|⟨i,o,cp,c,e,rw,h,_⟩
 ·exact .inl h
 ·exact .inr (.inl h)
 ·exact .inr (.inr ⟨_,_,_,_,_,h⟩)
theorem SlF.one(h:SlF v):V.one v=true:=by
 rcases h with rfl|rfl|⟨_,_,_,_,_,rfl⟩<;>rfl
theorem SlF.cells(h:SlF v):V.cells v=[v]:=by
 rcases h with rfl|rfl|⟨_,_,_,_,_,rfl⟩<;>rfl
def strs(l:List Str):List V:=l.map .str
theorem Zda(l:List Str):(strs l).length=l.length:=by simp[strs]
theorem Zg6{l:List Str}{j:Nat}{n:Str}(h:l[j]?=some n):(strs l)[j]?=some (.str n):=by simp[strs,h]
attribute [simp] Zda
def Yjn(s:Stg)(inp:V):List V:=[.str s.name,.str s.op,.str s.factor,inp,.int .i64 s.cost]
def Gr(h:T O)(N:Nat)(v:V)(g:List Stg):Prop:=∃l:List (List V),Sn 5 h N v l∧l.length=g.length∧∀(j:Nat) (s:Stg),g[j]?=some s→∃inp,l[j]?=some (Yjn s inp)∧Sl h N inp (strs s.inputs)
theorem Gr.keep{h':T O}{N':Nat}{g:List Stg}(s:Gr h N v g)(k:Keeps h N h' N'):Gr h' N' v g:=by
 obtain⟨l,h1,h2,h3⟩:=s
 refine⟨l,h1.keep k,h2,fun j s hs=>?_⟩
 obtain⟨inp,h4,h5⟩:=h3 j s hs
 exact⟨inp,h4,h5.keep k⟩
theorem Gr.len{g:List Stg}(s:Gr h N v g):Zl4 v=some g.length:=by
 obtain⟨l,h1,h2,h3⟩:=s
 rw[h1.len,h2]
theorem Gr.at{g:List Stg}(s:Gr h N v g){j:Nat}{x:Stg}(hj:g[j]?=some x):∃i o c e rw inp,Zkp v=some (i,o)∧i<N∧h.get i=some (.cells c e rw)∧slc c (o+j*5) 5=some (Yjn x inp)∧Sl h N inp (strs x.inputs):=by
 obtain⟨l,h1,h2,h3⟩:=s
 obtain⟨inp,h4,h5⟩:=h3 j x hj
 obtain⟨i,o,c,e,rw,q1,q2,q3,q4⟩:=h1.at h4
 exact⟨i,o,c,e,rw,inp,q1,q2,q3,q4,h5⟩
theorem Gr.slice{g:List Stg}{w:List Nat}(s:Gr h N v g){lo hi:Nat}(h1:lo≤hi)(h2:hi≤g.length)(x y:Option V)(hx:x=some (.int .i64 lo)∨x=none∧lo=0)(hy:y=some (.int .i64 hi)∨y=none∧hi=g.length):
  ∃v',Zck ⟨h,N,w⟩ 5 (some v) (some x) (some y) (some none)=some (v',⟨h,N,w⟩)∧Gr h N v' ((g.take hi).drop lo):=by
 obtain⟨l,g1,g2,g3⟩:=s
 obtain⟨v',e1,e2⟩:=Zyb (z:=5) (w:=w) (by decide) g1 h1 (by omega) x y hx (by rw[g2];exact hy)
 refine⟨v',e1,(l.take hi).drop lo,e2,by simp[g2],fun j s hs=>?_⟩
 have hj:lo+j<hi:=by
  apply Yp5;intro hc
  rw[Yo9,Ypf,Yo0 (by omega)]at hs;cases hs
 rw[Yo9,Ypf,Yo4 hj]at hs
 obtain⟨inp,q1,q2⟩:=g3 _ s hs
 exact⟨inp,by rw[Yo9,Ypf,Yo4 hj];exact q1,q2⟩
theorem Ylz{a b c d e:V}:slc [a,b,c,d,e] 0 5=some [a,b,c,d,e]:=rfl
theorem Yl0{a b:V}:slc [a,b] 0 2=some [a,b]:=rfl
attribute [simp] Ylz Yl0
theorem Gr.form{g:List Stg}(s:Gr h N v g):SlF v:=by
 obtain⟨l,h1,_⟩:=s
 rcases h1 with⟨_,h|h⟩|⟨i,o,cp,c,e,rw,h,_⟩
 ·exact .inl h
 ·exact .inr (.inl h)
 ·exact .inr (.inr ⟨_,_,_,_,_,h⟩)
def Yhz(st:St)(zero:V)(ok:Bool):Option (Option (Nat×V))→Option (V×St)
 |some (some (_,v))=>some (if ok then .tup [v,.bool true] else v,st)
 |some none=>some (if ok then .tup [zero,.bool false] else zero,st)
 |none=>none
def Zt8(st:St)(kd:Zj6)(zero:V)(ok:Bool)(k:V):Option O→Option (V×St)
 |some (.map es)=>Yhz st zero ok (findV kd k es 0)
 |_=>none
def Yh0(st:St)(kd:Zj6)(zero:V)(ok:Bool):Option V→Option V→Option (V×St)
 |some (.map i),some k=>if kd.fits k=true then Zt8 st kd zero ok k (st.h.get i) else none
 |some .nilmap,some k=>if kd.fits k=true then Yhz st zero ok (some none) else none
 |_,_=>none
theorem Zr3{kd:Zj6}{zero:V}{m k:Src}{ok:Bool}{call:Zay}{r:T V}{st:St}:Zeq kd zero m k ok call r st=Yh0 st kd zero ok (m.ev r) (k.ev r):=by
 unfold Zeq Yh0
 rcases m.ev r with _|m
 ·rfl
 ·rcases k.ev r with _|k
  ·cases m<;>rfl
  ·cases m<;>simp only[]<;>(try (by_cases hf:kd.fits k=true<;>simp[hf]))<;>try rfl
   ·rename_i i
    rcases st.h.get i with _|o
    ·rfl
    ·cases o<;>simp only[Zt8]
     rename_i es
     rcases findV kd k es 0 with _|_|⟨_,_⟩<;>rfl
theorem Zzw{st:St}{zero:V}{ok:Bool}{s:Str}:Yh0 st .str zero ok (some (.map i)) (some (.str s))=Zt8 st .str zero ok (.str s) (st.h.get i):=rfl
theorem Zsm{st:St}{kd:Zj6}{zero:V}{ok:Bool}{es:List (V×V)}:Zt8 st kd zero ok k (some (.map es))=Yhz st zero ok (findV kd k es 0):=rfl
attribute [simp] Zr3 Zzw Zsm Zha
def Yhj(st:St)(i:Nat)(k v:V)(es:List (V×V)):Option (Option (Nat×V))→Option (V×St)
 |some (some (j,_))=>some (.tup [],st.write i (.map (es.set j (k,v))))
 |some none=>some (.tup [],st.write i (.map (es++[(k,v)])))
 |none=>none
def Zt3(st:St)(kd:Zj6)(i:Nat)(k v:V):Option O→Option (V×St)
 |some (.map es)=>Yhj st i k v es (findV kd k es 0)
 |_=>none
def msetK(st:St)(kd:Zj6):Option V→Option V→Option V→Option (V×St)
 |some (.map i),some k,some v=>if kd.fits k=true then Zt3 st kd i k v (st.h.get i) else none
 |_,_,_=>none
theorem Zr2{kd:Zj6}{m k v:Src}{call:Zay}{r:T V}{st:St}:Zd5 kd m k v call r st=msetK st kd (m.ev r) (k.ev r) (v.ev r):=by
 unfold Zd5 msetK
 rcases m.ev r with _|m
 ·rfl
 ·rcases k.ev r with _|k
  ·cases m<;>rfl
  ·rcases v.ev r with _|v
   ·cases m<;>rfl
   ·cases m with
    |map i=>
     simp only[]
     by_cases hf:kd.fits k=true
     ·simp only[hf,if_true]
      rcases st.h.get i with _|o
      ·rfl
      ·cases o<;>simp only[Zt3]
       rename_i es
       rcases findV kd k es 0 with _|_|⟨_,_⟩<;>rfl
     ·simp[hf]
    |_=>rfl
theorem Zzb{st:St}{s:Str}:msetK st .str (some (.map i)) (some (.str s)) (some v)=Zt3 st .str i (.str s) v (st.h.get i):=rfl
theorem Zsa{st:St}{kd:Zj6}{es:List (V×V)}:Zt3 st kd i k v (some (.map es))=Yhj st i k v es (findV kd k es 0):=rfl
theorem Zvy{st:St}{es:List (V×V)}:Yhj st i k v es (some none)=some (.tup [],st.write i (.map (es++[(k,v)]))):=rfl
attribute [simp] Zr2 Zzb Zsa Zvy
theorem Keeps.then{h h1 h2:T O}{n n1 n2:Nat}(a:Keeps h n h1 n1)(b:Keeps h1 n h2 n2):Keeps h n h2 n2:=⟨b.le,fun i hi=>(b.get i hi).trans (a.get i hi)⟩
def Ze1(l:List Int):List (List V):=l.map fun x=>[.int .i64 x]
theorem Zdd(l:List Int):(Ze1 l).length=l.length:=by simp[Ze1]
theorem Zjy:∀(l:List Int),(Ze1 l).flatten=dI l
 |[]=>rfl
 |x::l=>by
  have:=Zjy l
  simp only[Ze1,Yqg,List.flatten_cons,dI]at this ⊢
  rw[this];rfl
theorem Zc3(l:List Int)(x:Int):Ze1 (l++[x])=Ze1 l++[[.int .i64 x]]:=by simp[Ze1]
theorem Own.sl{e:TypeId}{N0:Nat}{h:T O}{N:Nat}{v:V}{l:List Int}(s:Own 1 e N0 h N v (Ze1 l)):Sl h N v (dI l):=by
 have:=s.sn
 have e1:Ze1 l=(dI l).map fun x=>[x]:=by simp[Ze1,dI]
 rw[e1]at this
 exact Sn.one.1 this
structure Yne (g:List Stg):Prop where
 le:g.length≤16
 name:∀(j:Nat) (s:Stg),g[j]?=some s→j≤pos (g.take j) s.name
 inp:∀(j:Nat) (s:Stg),g[j]?=some s→∀n∈s.inputs,pos (g.take j) n<j
 cost:∀s∈g,1≤s.cost∧s.cost≤1000
variable {N:Nat} {h:T O} {l:List V} {u v:V}
def Cp(h:T O)(N:Nat)(v:V)(l:List V):Prop:=∃j c,v=.slice j 0 l.length c 1∧j<N∧h.get j=some (.cells l 9 true)∧∀k,c=some k→l.length≤k
theorem Cp.keep{h':T O}{N':Nat}(s:Cp h N v l)(k:Keeps h N h' N'):Cp h' N' v l:=by
 obtain⟨j,c,h1,h2,h3,h4⟩:=s
 exact⟨j,c,h1,Yo8 h2 k.le,(k.get j h2).trans h3,h4⟩
theorem Cp.sl(s:Cp h N v l):Sl h N v l:=by
 obtain⟨j,c,h1,h2,h3,h4⟩:=s
 rw[h1];exact Sl.row h2 h3 rfl h4
theorem Yj2{w:List Nat}(s:Sl h N v l):Zaw ⟨h,N,w⟩ 1 v=some (l.length,l):=by
 rcases s with⟨rfl,rfl|rfl⟩|⟨i,o,cp,c,e,rw,rfl,h2,h3,h4,h5,h6⟩
 ·rfl
 ·rfl
 ·simp only[Zaw,if_true,St.row,h3,Yrw]
  have:slc c o l.length=some l:=by
   unfold slc
   rw[Yo4 h5]
   congr 1
   apply Ypt
   intro j
   rw[Ypf]
   by_cases hj:j<l.length
   ·rw[Yo4 hj,Yo9];exact h4 j hj
   ·rw[Yo0 hj,Ypd (by omega)]
  rw[this]
def PgA(h:T O)(N0 N:Nat)(u:V)(g:List Stg)(k:Nat):Prop:=∃l:List (List V),Own 5 126 N0 h N u l∧l.length=k∧∀(j:Nat) (s:Stg),j<k→g[j]?=some s→∃inp,l[j]?=some (Yjn s inp)∧Cp h N inp (strs s.inputs)
theorem PgA.keep{h':T O}{N0 N':Nat}{g:List Stg}{k:Nat}(s:PgA h N0 N u g k)(kk:Keeps h N h' N'):PgA h' N0 N' u g k:=by
 obtain⟨l,h1,h2,h3⟩:=s
 refine⟨l,h1.keep kk,h2,fun j s hj hs=>?_⟩
 obtain⟨inp,h4,h5⟩:=h3 j s hj hs
 exact⟨inp,h4,h5.keep kk⟩
theorem PgA.gr{N0:Nat}{g:List Stg}(s:PgA h N0 N u g g.length):Gr h N u g:=by
 obtain⟨l,h1,h2,h3⟩:=s
 refine⟨l,h1.sn,h2,fun j s hs=>?_⟩
 obtain⟨inp,h4,h5⟩:=h3 j s (Za6 hs) hs
 exact⟨inp,h4,h5.sl⟩
theorem PgA.step{N0:Nat}{x inp:V}{g:List Stg}{k:Nat}{s:Stg}{w:List Nat}(p:PgA h N0 N u g k)(hN:N0≤N)(hs:g[k]?=some s)(hi:Cp h N inp (strs s.inputs))(hu:Zaw ⟨h,N,w⟩ 5 x=some (1,Yjn s inp))(hk:k<1000):
  ∃v' h' w',Zb2 ⟨h,N,w⟩ 5 80 126 u x=some (v',⟨h',N+1,w'⟩)∧Zaa N0 w'=Zaa N0 w∧Keeps h N0 h' (N+1)∧PgA h' N0 (N+1) v' g (k+1):=by
 obtain⟨l,h1,h2,h3⟩:=p
 obtain⟨v',h',w',e1,e2,e3,e4,e5⟩:=Zbi (x:=Yjn s inp) (u:=x) (bytes:=80) (w:=w) h1 hN (by decide) rfl hu (by omega)
 have hcp:∀{i:V} {m:List V},Cp h N i m→Cp h' (N+1) i m:=by
  rintro i m ⟨j,c,q1,q2,q3,q4⟩
  refine⟨j,c,q1,by omega,?_,q4⟩
  rcases e4 j with e|e|⟨o,n,c',q,e⟩
  ·rw[e];exact q3
  ·omega
  ·obtain⟨_,⟨_,hn⟩|⟨i',hv,_,_,hrow⟩⟩:=h1
   ·rw[e]at hn;cases hn
   ·rw[e]at hv
    simp only[V.slice.injEq]at hv
    rw[←hv.1,q3]at hrow
    simp at hrow
 refine⟨v',h',w',e1,e2,e3,l++[Yjn s inp],e5,by simp[h2],fun j t hj ht=>?_⟩
 by_cases hjk:j<k
 ·obtain⟨i,q1,q2⟩:=h3 j t hjk ht
  exact⟨i,by rw[Ypl (by omega)];exact q1,hcp q2⟩
 ·have:j=k:=by omega
  subst this
  obtain rfl:=Yp8 (hs.symm.trans ht)
  exact⟨inp,by rw[Ypr (by omega)];simp[h2],hcp hi⟩
theorem Sl.setInt{h:T O}{N:Nat}{v:V}{l:List Int}{i:Nat}{c0 c1:List V}{e0 e1:TypeId}{w0 w1:Bool}(s:Sl h N v (dI l))(hr:h.get i=some (.cells c0 e0 w0))(hn:∀x∈c0,∀k n,x≠.int k n)(hc:c1.length=c0.length):Sl (h.set i (.cells c1 e1 w1)) N v (dI l):=by
 rcases s with s|⟨j,o,cp,c,e,rw,h1,h2,h3,h4,h5,h6⟩
 ·exact .inl s
 ·by_cases hj:j=i
  ·subst hj
   rw[hr]at h3
   simp only[Yox,O.cells.injEq]at h3
   obtain⟨rfl,rfl,rfl⟩:=h3
   cases l with
   |nil=>exact .inr ⟨j,o,cp,c1,e1,w1,h1,h2,by rw[T.get_set];simp,fun k hk=>by simp[dI]at hk,by rw[hc];exact h5,h6⟩
   |cons d l=>
    have:=h4 0 (by simp[dI])
    simp only[dI,Yqg,Yqj]at this
    exact absurd rfl (hn _ (Yo3 this) .i64 d)
  ·exact .inr ⟨j,o,cp,c,e,rw,h1,h2,by rw[T.get_set,Yo0 hj];exact h3,h4,h5,h6⟩
end Go.Mx
