/-Characters of a string, one after the ot-/
import Derived.Test.YtdlikflhcjmkeaaGreatDoorMxWord
set_option linter.all false
namespace Go.Mx
open Go
variable {i:Nat} {j:Int} {k:IntKind} {r:T V} {s:Str} {x:Src}
def Yk9(s:Str)(p:Nat):Int:=(Utf8.decode ⟨s.toArray⟩ p).1
def Yk8(s:Str)(p:Nat):Nat:=(Utf8.decode ⟨s.toArray⟩ p).2
def Zmn(i:Nat)(st:St):Option (Str×Nat)→Option (V×St)
 |some (s,p)=>if p<s.length then some (.tup [.bool true,.int .i64 p,.int .i32 (Utf8.decode ⟨s.toArray⟩ p).1],st.write i (.siter s (p+(Utf8.decode ⟨s.toArray⟩ p).2))) else some (.tup [.bool false],st)
 |none=>none
def Zt7:Option O→Option (Str×Nat)
 |some (.siter s p)=>some (s,p)
 |_=>none
def Yil(st:St):Option V→Option (V×St)
 |some (.ptr i 0)=>Zmn i st (Zt7 (st.h.get i))
 |_=>none
def Zqf{call:Za0}{st:St}:Zdv x call r st=Yil st (x.ev r):=by
 unfold Zdv Yil
 rcases x.ev r with _|v
 ·rfl
 ·cases v<;>try rfl
  rename_i i o
  cases o with
  |zero=>
   simp only[Zt7,Zmn]
   rcases st.h.get i with _|o
   ·rfl
   ·cases o<;>rfl
  |succ=>rfl
def Zwn{st:St}:Yil st (some (.ptr i 0))=Zmn i st (Zt7 (st.h.get i)):=rfl
def Zsa{p:Nat}:Zt7 (some (.siter s p))=some (s,p):=rfl
def Zz5{st:St}{p:Nat}(h:p<s.length):Zmn i st (some (s,p))=some (.tup [.bool true,.int .i64 p,.int .i32 (Yk9 s p)],st.write i (.siter s (p+Yk8 s p))):=by simp[Zmn,h,Yk9,Yk8]
def Zwo{st:St}:Zmn i st (some (s,s.length))=some (.tup [.bool false],st):=by simp[Zmn]
def Zb4(st:St):Option V→Option (Option V)→Option (Option V)→Option (V×St)
 |some (.str s),some lo,some hi=>match Zax hi s.length s.length with
   |some h=>match Zax lo h 0 with
    |some l=>some (.str ((s.take h).drop l),st)
    |none=>none
   |none=>none
 |_,_,_=>none
def Zo4{lo hi:Option Src}{call:Za0}{st:St}:Zbi x lo hi call r st=Zb4 st (x.ev r) (evOpt r lo) (evOpt r hi):=by
 unfold Zbi Zb4;rfl
def Zcj{st:St}(h0:0≤j)(h1:j≤s.length):Zb4 st (some (.str s)) (some (some (.int k j))) (some none)=some (.str (s.drop j.toNat),st):=by
 simp[Zb4,Zax,Zd1,h0,h1]
def Zke{st:St}(h0:0≤j)(h1:j≤s.length):Zb4 st (some (.str s)) (some none) (some (some (.int k j)))=some (.str (s.take j.toNat),st):=by
 simp[Zb4,Zax,Zd1,h0,h1]
def Znw{st:St}{k':IntKind}{i:Int}(h0:0≤i)(h1:i≤j)(h2:j≤s.length):Zb4 st (some (.str s)) (some (some (.int k i))) (some (some (.int k' j)))=some (.str ((s.take j.toNat).drop i.toNat),st):=by
 have h3:0≤j:=by omega
 have h4:max j 0=j:=by omega
 simp[Zb4,Zax,Zd1,h0,h1,h2,h3,h4]
def Zm7(s:Str):List V:=s.map fun b=>.int .u8 (u8I b)
def Zx9(s:Str):(Zm7 s).length=s.length:=by simp[Zm7]
def Zya{k:Nat}{c:UInt8}(h:s[k]?=some c):(Zm7 s)[k]?=some (.int .u8 (u8I c)):=by simp[Zm7,h]
def sbK(elem:TypeId)(st:St):Option V→Option (V×St)
 |some (.str s)=>some (.slice st.n 0 s.length none 1,st.alloc (.cells (Zm7 s) elem true))
 |_=>none
def Zo3{elem:TypeId}{call:Za0}{st:St}:Zcf elem x call r st=sbK elem st (x.ev r):=by
 unfold Zcf sbK;rfl
def Ydn{elem:TypeId}{st:St}:sbK elem st (some (.str s))=some (.slice st.n 0 s.length none 1,st.alloc (.cells (Zm7 s) elem true)):=rfl
attribute [simp] Zo3 Ydn Zx9 Zqf Zwn Zsa Zz5 Zwo Zo4 Zcj Zke Znw Zc2
def Zju:∀(s:Str) (i:Nat),Zil 47 s i=if slashAt s<s.length then ((i+slashAt s:Nat):Int) else -1
 |[],i=>rfl
 |c::s,i=>by
  simp only[Zil,slashAt]
  have e:(c==47)=decide (c.toNat=47):=by
   rw[Bool.eq_iff_iff]
   simp only[beq_iff_eq,decide_eq_true_eq]
   exact⟨fun h=>by rw[h];rfl,fun h=>UInt8.toNat_inj.1 h⟩
  rw[e]
  by_cases h:c.toNat=47
  ·simp[h]
  ·simp only[h,decide_false,if_false,Yqm,Zju s (i+1),Yqd]
   by_cases h2:slashAt s<s.length
   ·rw[Yqi h2,Yqi (by omega)];omega
   ·rw[Yqe h2,Yqe (by omega)]
variable {d:Int} {j k n:Nat} {l:List Int}
def vI:List Int→Int
 |[]=>0
 |d::l=>d+1000000000*vI l
def pI(k:Nat):Int:=1000000000^k
def Zc1(k:Nat):pI (k+1)=1000000000*pI k:=by unfold pI;rw[Int.pow_succ,Int.mul_comm]
def Yie:pI 0=1:=rfl
def Zjk(k:Nat):0<pI k:=by unfold pI;exact Int.pow_pos (by decide)
def Zui(i j:Nat):pI (i+j)=pI i*pI j:=by unfold pI;exact Int.pow_add ..
def Zlx:∀(l m:List Int),vI (l++m)=vI l+pI l.length*vI m
 |[],m=>by simp[vI,pI]
 |d::l,m=>by
  simp only[Ysv,vI,Zlx l m,Yqd,Zc1]
  grind
def Zfs(l:List Int)(d:Int):vI (l++[d])=vI l+pI l.length*d:=by simp[Zlx,vI]
def Zop(n:Nat):vI (List.replicate n 0)=0:=by
 induction n with
 |zero=>rfl
 |succ n ih=>simp[List.replicate_succ,vI,ih]
def Zct{α:Type}{l:List α}{d:α}(h:l[k]?=some d):k<l.length:=by
 apply Yrm;intro hc;rw[Yqv hc]at h;cases h
def Zbb(h:l[k]?=some d):vI (l.take (k+1))=vI (l.take k)+pI k*d:=by
 have hk:=Zct h
 rw[Ys4,h]
 simp only[Option.toList]
 rw[Zfs,Yq0,Yrb (by omega)]
def Zi4(l:List Int)(k:Nat)(hk:k≤l.length):vI l=vI (l.take k)+pI k*vI (l.drop k):=by
 have:=Zlx (l.take k) (l.drop k)
 rw[Yr0,Yq0,Yrb hk]at this
 exact this
def Zi5:∀{l:List Int} {k:Nat} {c:Int},l[k]?=some c→∀(v:Int),vI (l.set k v)=vI l+pI k*(v-c)
 |[],k,c,h,v=>by simp at h
 |d::l,0,c,h,v=>by
  simp at h;subst h
  simp only[List.set_cons_zero,vI,Yie];omega
 |d::l,k+1,c,h,v=>by
  have:=Zi5 (l:=l) (k:=k) (c:=c) (by simpa using h) v
  simp only[List.set_cons_succ,vI,this,Zc1]
  grind
def Di(l:List Int):Prop:=∀d∈l,0≤d∧d<1000000000
def Di.get(h:Di l){k:Nat}{d:Int}(hd:l[k]?=some d):0≤d∧d<1000000000:=h d (Yqn hd)
def Di.set(h:Di l){k:Nat}{v:Int}(h0:0≤v)(h1:v<1000000000):Di (l.set k v):=fun d hd=>by
 rcases List.mem_or_eq_of_mem_set hd with hd|rfl
 ·exact h d hd
 ·exact⟨h0,h1⟩
def Di.app{m:List Int}(h:Di l)(h':Di m):Di (l++m):=fun d hd=>by
 rcases Yry.1 hd with hd|hd
 ·exact h d hd
 ·exact h' d hd
def Di.one{v:Int}(h0:0≤v)(h1:v<1000000000):Di [v]:=fun d hd=>by simp at hd;subst hd;exact⟨h0,h1⟩
def Di.nil:Di []:=fun d hd=>by simp at hd
def Di.zeros(n:Nat):Di (List.replicate n 0):=fun d hd=>by rw[Ytn]at hd;rw[hd.2];decide
def Di.take(h:Di l)(k:Nat):Di (l.take k):=fun d hd=>h d (Ysg hd)
def Di.drop(h:Di l)(k:Nat):Di (l.drop k):=fun d hd=>h d (List.mem_of_mem_drop hd)
def Zh7:∀{l:List Int},Di l→0≤vI l
 |[],_=>Int.le_refl _
 |d::l,h=>by
  have h1:=h d Yq8
  have h2:=Zh7 (l:=l) fun e he=>h e (Yq6 _ he)
  simp only[vI];omega
def Zh8:∀{l:List Int},Di l→vI l<pI l.length
 |[],_=>by decide
 |d::l,h=>by
  have h1:=h d Yq8
  have h2:=Zh8 (l:=l) fun e he=>h e (Yq6 _ he)
  simp only[vI,Yqd,Zc1];omega
def zI(l:List Int)(j:Nat):Int:=l[j]?.getD 0
def Yg8(h:l[j]?=some d):zI l j=d:=by simp[zI,h]
def Zrv(h:l.length≤j):zI l j=0:=by simp[zI,h]
def Yg9{l:List Int}(h:Di l)(j:Nat):0≤zI l j∧zI l j<1000000000:=by
 unfold zI
 cases hj:l[j]? with
 |none=>simp
 |some d=>exact h.get hj
def Zlw{l:List Int}{k:Nat}:vI (l.take (k+1))=vI (l.take k)+pI k*zI l k:=by
 unfold zI
 cases h:l[k]? with
 |some d=>exact Zbb h
 |none=>
  have hk:l.length≤k:=by
   apply Yr7;intro hc;rw[Yqh hc]at h;cases h
  rw[Yqp (by omega),Yqp hk];simp
def Za2{α:Type}{l:List α}{d:α}(h:l[k]?=some d):l.drop k=d::l.drop (k+1):=by
 obtain⟨hk,hs⟩:=Yro.1 h
 rw[←hs];exact Ysj hk
def dI(l:List Int):List V:=l.map fun n=>.int .i64 n
def Zas(l:List Int):(dI l).length=l.length:=by simp[dI]
def Zbf{n:Int}(h:l[j]?=some n):(dI l)[j]?=some (.int .i64 n):=by simp[dI,h]
attribute [simp] Zas
def Zh2{v:Int}(h:k<l.length):splice (dI l) k [.int .i64 v]=dI (l.set k v):=by
 unfold splice dI
 apply Yq9
 intro j
 simp only[Yrw,Yq4,List.getElem?_set]
 rw[Yrh,List.getElem?_append,Yq0,List.length_map]
 by_cases h1:j<k
 ·rw[Yqi (by omega),Yqy,Yqi h1,Yq4,Yqe (by omega)]
 ·rw[Yqe (by omega)]
  by_cases h2:j=k
  ·subst h2
   rw[show j-min j l.length=0 by omega,Yqi rfl,Yqi h];rfl
  ·rw[show j-min k l.length=(j-k-1)+1 by omega,Yqe (by omega)]
   simp only[Yt3,Ysc,Yqo,Yq4]
   rw[show k+1+(j-k-1)=j by omega]
def Zpi:Zeh [.int .i64 0] n=dI (List.replicate n 0):=by rw[Yf0];simp[dI]
def Zfv:List Int→List Int
 |[]=>[]
 |d::l=>match Zfv l with
  |[]=>if d=0 then [] else [d]
  |t=>d::t
def Zkc:∀(l:List Int),Zfv (l++[0])=Zfv l
 |[]=>rfl
 |d::l=>by simp only[Ysv,Zfv,Zkc l]
def Znu{d:Int}(hd:d≠0):∀(l:List Int),Zfv (l++[d])=l++[d]
 |[]=>by simp[Zfv,hd]
 |e::l=>by
  simp only[Ysv,Zfv,Znu hd l]
  cases l<;>rfl
def Zp1:∀(l:List Int),(Zfv l).length≤l.length
 |[]=>Yqg _
 |d::l=>by
  have ih:=Zp1 l
  simp only[Zfv]
  split
  ·split<;>simp
  ·simp only[Yqd];omega
def ds(n:Nat):List Int:=if h:n=0 then [] else ((n%1000000000:Nat):Int)::ds (n/1000000000)
termination_by n
decreasing_by exact Ys7 (by omega) (by decide)
def Zch:ds 0=[]:=by rw[ds];simp
def Zg5(h:n≠0):ds n=((n%1000000000:Nat):Int)::ds (n/1000000000):=by rw[ds];simp[h]
def Zbd:∀(n:Nat),vI (ds n)=n:=by
 intro n
 induction n using Nat.strongRecOn with
 |_ n ih=>
  by_cases h:n=0
  ·subst h;rw[Zch];rfl
  ·rw[Zg5 h]
   simp only[vI]
   rw[ih (n/1000000000) (Ys7 (by omega) (by decide))]
   omega
def Zb9(n:Nat):Di (ds n):=by
 induction n using Nat.strongRecOn with
 |_ n ih=>
  by_cases h:n=0
  ·subst h;rw[Zch];exact Di.nil
  ·rw[Zg5 h]
   intro d hd
   rcases Yrd.1 hd with rfl|hd
   ·omega
   ·exact ih (n/1000000000) (Ys7 (by omega) (by decide)) d hd
def Zoq:∀{l:List Int},Di l→Zfv l=ds (vI l).toNat
 |[],_=>by simp[Zfv,vI,Zch]
 |d::l,h=>by
  have hl:Di l:=fun e he=>h e (Yq6 _ he)
  have ih:=Zoq hl
  have hd:=h d Yq8
  have hn:=Zh7 hl
  simp only[Zfv,vI,ih]
  by_cases h0:vI l=0
  ·rw[h0]
   simp only[Int.toNat_zero,Zch,Int.mul_zero,Int.add_zero]
   by_cases hd0:d=0
   ·simp[hd0,Zch]
   ·rw[Zg5 (by omega),Yr2 (by omega),Ysi (by omega),Zch];simp[hd0];omega
  ·have h3:(d+1000000000*vI l).toNat≠0:=by omega
   rw[Zg5 h3]
   have h1:(d+1000000000*vI l).toNat/1000000000=(vI l).toNat:=by omega
   have h2:(((d+1000000000*vI l).toNat%1000000000:Nat):Int)=d:=by omega
   rw[h1,h2]
   split
   ·rename_i hc;rw[Zg5 (by omega)]at hc;cases hc
   ·rfl
def Zfu(h:Di l){n:Nat}(hn:vI l=n):Zfv l=ds n:=by rw[Zoq h,hn];rfl
def Yjt(n:Nat):Zfv (ds n)=ds n:=Zfu (Zb9 n) (Zbd n)
def Zdo:ds n=[]↔n=0:=by
 constructor
 ·intro h
  by_cases h0:n=0
  ·exact h0
  ·rw[Zg5 h0]at h;cases h
 ·intro h;rw[h,Zch]
def Yju(h:n≠0):∃d,(ds n)[(ds n).length-1]?=some d∧0<d:=by
 have hne:ds n≠[]:=fun hc=>h (Zdo.1 hc)
 obtain⟨l,d,hd⟩:∃l d,ds n=l++[d]:=⟨(ds n).dropLast,(ds n).getLast hne,(Yt4 hne).symm⟩
 refine⟨d,by rw[hd,Yqr,Yrw];simp,?_⟩
 have h1:=Zb9 n d (by rw[hd];exact List.mem_append_right _ Yq8)
 have:d≠0:=fun h0=>by
  have h2:=Yjt n
  rw[hd,h0,Zkc]at h2
  have:=Zp1 l
  rw[h2]at this;simp at this;omega
 omega
def Zfl{n k:Nat}(h:n<1000000000^k):(ds n).length≤k:=by
 induction k generalizing n with
 |zero=>
  have:n=0:=by simpa using h
  rw[this,Zch];simp
 |succ k ih=>
  by_cases h0:n=0
  ·rw[h0,Zch];simp
  ·rw[Zg5 h0]
   have:=ih (n:=n/1000000000) ((Yq2 (by decide)).2 (by rw[←Yqx];exact h))
   simp only[Yqd];omega
def Dn(h:T O)(N:Nat)(v:V)(n:Nat):Prop:=Sl h N v (dI (ds n))
def Dn.keep{h h':T O}{N N':Nat}{v:V}(s:Dn h N v n)(k:Keeps h N h' N'):Dn h' N' v n:=Sl.keep s k
variable {w:List Int}
def Ztd{P u1 u2 U' v1 v2 V' t r:Int}(hP:0<P)(hU':0≤U')(hu2:0≤u2)(hu1:0≤u1)(hv1:0<v1)(hv2:0≤v2)(hV0:0≤V')(hV':V'<P)(h0:0≤t)(ht:t≤1000000000)(hinv:u1=t*v1+r)(hc:t*v2≤r*1000000000+u2):
  (t-1)*(V'+P*(v2+1000000000*v1))≤U'+P*(u2+1000000000*u1):=by
 by_cases ht0:t=0
 ·subst ht0
  have h1:0≤P*(v2+1000000000*v1):=Yr6 (by omega) (by omega)
  have h2:0≤P*(u2+1000000000*u1):=Yr6 (by omega) (by omega)
  omega
 ·have h1:(t-1)*V'≤1000000000*P:=by
   have:(t-1)*V'≤1000000000*V':=Yru (by omega) hV0
   omega
  have h2:P*1≤P*v1:=Yqt (by omega) (by omega)
  have h3:P*(t*v2)≤P*(r*1000000000+u2):=Yqt hc (by omega)
  have h4:0≤P*v2:=Yr6 (by omega) hv2
  have h5:(t-1)*(V'+P*(v2+1000000000*v1))=(t-1)*V'+P*(t*v2)-P*v2+1000000000*(P*(t*v1))-1000000000*(P*v1):=by grind
  have h6:U'+P*(u2+1000000000*u1)=U'+P*(r*1000000000+u2)+1000000000*(P*(t*v1)):=by subst hinv;grind
  omega
def Yjb{P u1 u2 U' v1 v2 V' t r:Int}(hP:0<P)(hU':U'<P)(hV0:0≤V')(h0:0≤t)(hinv:u1=t*v1+r)(hc:r*1000000000+u2<t*v2):
  U'+P*(u2+1000000000*u1)<t*(V'+P*(v2+1000000000*v1)):=by
 have h1:0≤t*V':=Yr6 h0 hV0
 have h3:P*(r*1000000000+u2+1)≤P*(t*v2):=Yqt (by omega) (by omega)
 have h5:t*(V'+P*(v2+1000000000*v1))=t*V'+P*(t*v2)+1000000000*(P*(t*v1)):=by grind
 have h6:U'+P*(u2+1000000000*u1)=U'+P*(r*1000000000+u2+1)-P+1000000000*(P*(t*v1)):=by subst hinv;grind
 omega
def Zz2{x:Int}(h1:1≤x)(h2:x<1000000000):500000000≤x*(1000000000/(x+1)):=by
 have hd:(x+1)*(1000000000/(x+1))+1000000000%(x+1)=1000000000:=Ysl ..
 have hr:1000000000%(x+1)<x+1:=Ysw _ (by omega)
 have hr0:0≤1000000000%(x+1):=Yti _ (by omega)
 generalize 1000000000/(x+1)=d at*
 generalize 1000000000%(x+1)=r at*
 have e:(x+1)*d=x*d+d:=by grind
 apply Ytg
 intro hc
 by_cases hx:x≤500000000
 ·have h3:500000000-x+1≤d:=by omega
  have h4:x*(500000000-x+1)≤x*d:=Yqt h3 (by omega)
  have h5:0≤(x-1)*(500000000-x):=Yr6 (by omega) (by omega)
  have h6:(x-1)*(500000000-x)=x*(500000000-x+1)-500000000:=by grind
  omega
 ·have h3:1≤d:=by
   apply Ytg;intro h
   have:d≤0:=by omega
   have:(x+1)*d≤0:=Int.mul_nonpos_of_nonneg_of_nonpos (by omega) this
   omega
  have h4:x*1≤x*d:=Yqt h3 (by omega)
  omega
def Zgn{m:Nat}(h:∀t,m≤t→t<w.length→w[t]?=some 0):vI w=vI (w.take m):=by
 by_cases hm:m≤w.length
 ·have h1:=Zi4 w m hm
  have h2:w.drop m=List.replicate (w.length-m) 0:=by
   apply Yq9
   intro t
   rw[Yqo,List.getElem?_replicate]
   by_cases ht:t<w.length-m
   ·rw[Yqi ht];exact h _ (by omega) (by omega)
   ·rw[Yqe ht];exact Yqv (by omega)
  rw[h2,Zop]at h1
  omega
 ·rw[Yqp (by omega)]
def Yhb{k:Nat}{a c d:Int}(ha:w[k]?=some a)(hc:w[k+1]?=some c)(hd:w[k+2]?=some d)(hz:∀t,k+3≤t→t<w.length→w[t]?=some 0):
  vI w=vI (w.take k)+pI k*(a+1000000000*(d*1000000000+c)):=by
 rw[Zgn hz,show k+3=(k+2)+1 by omega,Zbb hd,Zbb hc,Zbb ha,Zc1 (k+1),Zc1 k]
 grind
def Yhc{k:Nat}{a c:Int}(ha:w[k]?=some a)(hc:w[k+1]?=some c)(hl:w.length=k+2):
  vI w=vI (w.take k)+pI k*(a+1000000000*c):=by
 have h1:vI w=vI (w.take (k+1+1)):=by rw[Yqp (by omega)]
 rw[h1,Zbb hc,Zbb ha,Zc1 k]
 grind
def Yc9{n:Nat}{t:Int}(hd:Di (w.take n))(ht:w[n]?=some t)(hz:∀j,n<j→j<w.length→w[j]?=some 0)(h1:vI w<pI n):(0≤vI w→t=0)∧(vI w<0→t<0):=by
 have hl:=Zct ht
 have h2:vI w=vI (w.take n)+pI n*t:=by
  rw[Zgn (m:=n+1) (fun j h1 h2=>hz j (by omega) h2),Zbb ht]
 have h3:=Zh7 hd
 have h4:=Zh8 hd
 rw[Yq0,Yrb (by omega)]at h4
 have h5:=Zjk n
 constructor
 ·intro h
  have h6:¬t≤ -1:=fun hc=>by
   have:=Yqt hc (Yr8 h5)
   omega
  have h7:¬1≤t:=fun hc=>by
   have:=Yqt hc (Yr8 h5)
   omega
  omega
 ·intro h
  apply Ytu
  intro hc
  have:=Yr6 (Yr8 h5) hc
  omega
variable {N k:Nat} {s:Str}
def Ypc:(N=N+1)=False:=eq_false (by omega)
def Yo3:(N+1=N)=False:=eq_false (by omega)
def Ypu:(N+1<N)=False:=eq_false (by omega)
def Ypb:(N=N+1+1)=False:=eq_false (by omega)
def Yo2:(N+1+1=N)=False:=eq_false (by omega)
def Ypt:(N+1+1<N)=False:=eq_false (by omega)
def Ypa:(N=N+1+1+1)=False:=eq_false (by omega)
def Yo1:(N+1+1+1=N)=False:=eq_false (by omega)
def Yps:(N+1+1+1<N)=False:=eq_false (by omega)
def Yo9:(N=N+1+1+1+1)=False:=eq_false (by omega)
def Yo0:(N+1+1+1+1=N)=False:=eq_false (by omega)
def Ypr:(N+1+1+1+1<N)=False:=eq_false (by omega)
def Yo8:(N=N+1+1+1+1+1)=False:=eq_false (by omega)
def Yoz:(N+1+1+1+1+1=N)=False:=eq_false (by omega)
def Ypq:(N+1+1+1+1+1<N)=False:=eq_false (by omega)
def Yo7:(N=N+1+1+1+1+1+1)=False:=eq_false (by omega)
def Yoy:(N+1+1+1+1+1+1=N)=False:=eq_false (by omega)
def Ypp:(N+1+1+1+1+1+1<N)=False:=eq_false (by omega)
def Yo6:(N=N+1+1+1+1+1+1+1)=False:=eq_false (by omega)
def Yox:(N+1+1+1+1+1+1+1=N)=False:=eq_false (by omega)
def Ypo:(N+1+1+1+1+1+1+1<N)=False:=eq_false (by omega)
def Yo5:(N=N+1+1+1+1+1+1+1+1)=False:=eq_false (by omega)
def Yow:(N+1+1+1+1+1+1+1+1=N)=False:=eq_false (by omega)
def Ypn:(N+1+1+1+1+1+1+1+1<N)=False:=eq_false (by omega)
def Yo4:(N=N+1+1+1+1+1+1+1+1+1)=False:=eq_false (by omega)
def Yov:(N+1+1+1+1+1+1+1+1+1=N)=False:=eq_false (by omega)
def Ypm:(N+1+1+1+1+1+1+1+1+1<N)=False:=eq_false (by omega)
def Ynh:(N=N+1+1+1+1+1+1+1+1+1+1)=False:=eq_false (by omega)
def Ynb:(N+1+1+1+1+1+1+1+1+1+1=N)=False:=eq_false (by omega)
def Ynt:(N+1+1+1+1+1+1+1+1+1+1<N)=False:=eq_false (by omega)
def Yng:(N=N+1+1+1+1+1+1+1+1+1+1+1)=False:=eq_false (by omega)
def Yna:(N+1+1+1+1+1+1+1+1+1+1+1=N)=False:=eq_false (by omega)
def Yns:(N+1+1+1+1+1+1+1+1+1+1+1<N)=False:=eq_false (by omega)
def Ynf:(N=N+1+1+1+1+1+1+1+1+1+1+1+1)=False:=eq_false (by omega)
def Ym9:(N+1+1+1+1+1+1+1+1+1+1+1+1=N)=False:=eq_false (by omega)
def Ynr:(N+1+1+1+1+1+1+1+1+1+1+1+1<N)=False:=eq_false (by omega)
def Yne:(N=N+1+1+1+1+1+1+1+1+1+1+1+1+1)=False:=eq_false (by omega)
def Ym8:(N+1+1+1+1+1+1+1+1+1+1+1+1+1=N)=False:=eq_false (by omega)
def Ynq:(N+1+1+1+1+1+1+1+1+1+1+1+1+1<N)=False:=eq_false (by omega)
def Ynd:(N=N+1+1+1+1+1+1+1+1+1+1+1+1+1+1)=False:=eq_false (by omega)
def Ym7:(N+1+1+1+1+1+1+1+1+1+1+1+1+1+1=N)=False:=eq_false (by omega)
def Ynp:(N+1+1+1+1+1+1+1+1+1+1+1+1+1+1<N)=False:=eq_false (by omega)
def Ync:(N=N+1+1+1+1+1+1+1+1+1+1+1+1+1+1+1)=False:=eq_false (by omega)
def Ym6:(N+1+1+1+1+1+1+1+1+1+1+1+1+1+1+1=N)=False:=eq_false (by omega)
def Yno:(N+1+1+1+1+1+1+1+1+1+1+1+1+1+1+1<N)=False:=eq_false (by omega)
attribute [simp] Ypc Yo3 Ypu Ypb Yo2 Ypt Ypa Yo1 Yps Yo9 Yo0 Ypr Yo8 Yoz Ypq Yo7 Yoy Ypp Yo6 Yox Ypo Yo5 Yow Ypn Yo4 Yov Ypm Ynh Ynb Ynt Yng Yna Yns Ynf Ym9 Ynr Yne Ym8 Ynq Ynd Ym7 Ynp Ync Ym6 Yno
def Ypl:(N<N+1)=True:=eq_true (by omega)
def Ypk:(N<N+1+1)=True:=eq_true (by omega)
def Ypj:(N<N+1+1+1)=True:=eq_true (by omega)
def Ypi:(N<N+1+1+1+1)=True:=eq_true (by omega)
def Yph:(N<N+1+1+1+1+1)=True:=eq_true (by omega)
def Ypg:(N<N+1+1+1+1+1+1)=True:=eq_true (by omega)
def Ypf:(N<N+1+1+1+1+1+1+1)=True:=eq_true (by omega)
def Ype:(N<N+1+1+1+1+1+1+1+1)=True:=eq_true (by omega)
def Ypd:(N<N+1+1+1+1+1+1+1+1+1)=True:=eq_true (by omega)
def Ynn:(N<N+1+1+1+1+1+1+1+1+1+1)=True:=eq_true (by omega)
def Ynm:(N<N+1+1+1+1+1+1+1+1+1+1+1)=True:=eq_true (by omega)
def Ynl:(N<N+1+1+1+1+1+1+1+1+1+1+1+1)=True:=eq_true (by omega)
def Ynk:(N<N+1+1+1+1+1+1+1+1+1+1+1+1+1)=True:=eq_true (by omega)
def Ynj:(N<N+1+1+1+1+1+1+1+1+1+1+1+1+1+1)=True:=eq_true (by omega)
def Yni:(N<N+1+1+1+1+1+1+1+1+1+1+1+1+1+1+1)=True:=eq_true (by omega)
attribute [simp] Ypl Ypk Ypj Ypi Yph Ypg Ypf Ype Ypd Ynn Ynm Ynl Ynk Ynj Yni
def Call.eq{C:Cx}{g:V}{args:List V}{st st':St}{u:V}(h:Call C g args st (fun v s=>v=u∧s=st')):C.call g args st=some (u,st'):=by
 obtain⟨v,s,e,rfl,rfl⟩:=h.ex
 exact e
def Zo9{C:Cx}{K:List Kf}{Q:Rs→Prop}{fr:Fr}{st:St}{i j:Nat}(h:¬j=i):Run C (.block i::K) (some (.ex (.exit j) fr st)) Q↔Run C K (some (.ex (.exit j) fr st)) Q:=Zpa (by
 cases hb:Nat.beq j i with
 |false=>rfl
 |true=>exact absurd (Yt0 hb) h)
attribute [simp] Zo9
def Zau:List Int→Int
 |[]=>0
 |e::l=>if e=0 then Zau l else e
def Zan{α:Type}{l:List α}(h:k<l.length):∃d,l[k]?=some d:=⟨_,Yqh h⟩
def Ybv(c:UInt8):Zj8 c=decide (48≤u8I c∧u8I c≤57):=by
 unfold Zj8 u8I;rw[decide_eq_decide];omega
def Znd(k:Nat):List V:=(List.range 256).map fun i=>.bool (decide (48≤i∧i<48+k))
def Zdq(k:Nat):(Znd k).length=256:=by simp[Znd]
def Zhu{i:Nat}(hi:i<256):(Znd k)[i]?=some (.bool (decide (48≤i∧i<48+k))):=by simp[Znd,hi]
def Zvo(k:Nat):(Znd k).all V.one=true:=by simp[Znd,V.one]
def Yft(hk:k<10):splice (Znd k) (48+k) [.bool true]=Znd (k+1):=by
 apply Yq9
 intro j
 unfold splice
 rw[Yrh,List.getElem?_append,Yq0,Zdq,Yrb (by omega)]
 by_cases h1:j<48+k
 ·rw[Yqi h1,Yqy,Yqi h1,Zhu (by omega),Zhu (by omega)]
  congr 3;rw[eq_iff_iff];omega
 ·rw[Yqe h1]
  by_cases h2:j=48+k
  ·subst h2
   rw[Zhu (by omega)]
   simp
  ·rw[show j-(48+k)=(j-(48+k)-1)+1 by omega]
   simp only[Yt3,Ysc,Yqo,Yrw]
   rw[show 48+k+1+(j-(48+k)-1)=j by omega]
   by_cases h3:j<256
   ·rw[Zhu h3,Zhu h3];congr 3;rw[eq_iff_iff];omega
   ·rw[Yqv (by rw[Zdq];omega),Yqv (by rw[Zdq];omega)]
def Ycn(k:Nat):(Znd k).take 256=Znd k:=Yqp (by rw[Zdq];omega)
def Yfs(j k:Nat):splice (Znd j) 0 (Znd k)=Znd k:=by
 unfold splice;rw[Zdq,Yrr (by rw[Zdq];omega)];simp
attribute [simp] Zdq Zvo Ycn Yfs
def Zb8(s:Str):Bool:=s.all Zj8
def Yn7:Str:=[48,49,50,51,52,53,54,55,56,57]
def Yfa(hk:k<10):∃c,Yn7[k]?=some c∧u8I c=48+k:=by
 have:k=0∨k=1∨k=2∨k=3∨k=4∨k=5∨k=6∨k=7∨k=8∨k=9:=by omega
 rcases this with rfl|rfl|rfl|rfl|rfl|rfl|rfl|rfl|rfl|rfl<;>exact⟨_,rfl,rfl⟩
def Zd2{n:Int}(h1:0≤n)(h2:n<256):Zao .u8 n=n:=by
 rw[Zde]
 simp[IntKind.wrap,IntKind.bits,IntKind.signed]
 omega
def Zi0{n:Int}(h1: -9223372036854775808≤n)(h2:n<9223372036854775808):IntKind.wrap .i64 n=n:=by
 simp[IntKind.wrap,IntKind.bits,IntKind.signed]
 omega
def Zgx(l:Str)(c:UInt8):numV (l++[c])=10*numV l+(c.toNat-48):=by simp[numV]
def Zml{c:UInt8}(h:s[k]?=some c):numV (s.take (k+1))=10*numV (s.take k)+(c.toNat-48):=by
 rw[Ys4,h]
 simp only[Option.toList,Zgx]
def Zj4(h:Zb8 s=true){k:Nat}{c:UInt8}(hc:s[k]?=some c):48≤u8I c∧u8I c≤57:=by
 unfold Zb8 at h
 rw[Yrs]at h
 have:=h c (Yqn hc)
 rw[Ybv]at this
 simpa using this
def Zo6{s:Str}(h:Zb8 s=true):∀k,k≤s.length→numV (s.take k)<10^k
 |0,_=>by simp[numV]
 |k+1,hk=>by
  obtain⟨c,hc⟩:=Zan (l:=s) (k:=k) (by omega)
  have h1:=Zo6 h k (by omega)
  have h2:=Zj4 h hc
  unfold u8I at h2
  rw[Zml hc,Yqx]
  omega
def Zd4(h:Zb8 s=true):numV s<10^s.length:=by
 have:=Zo6 h s.length (Yqg _)
 rwa [Ysp]at this
def Zuk{a b:Nat}(h:a≤b):10^a≤10^b:=Yq3 (by decide) h
def Yfu(h:k<9223372036854775808):Zdm .and .i64 (k:Int) 1=some (.int .i64 ((k%2:Nat):Int)):=by
 show some (V.int .i64 (IntKind.wrap .i64 (BitVec.ofInt 64 (k:Int)&&& BitVec.ofInt 64 1).toNat))=_
 have e:(BitVec.ofInt 64 1).toNat=2^1-1:=by decide
 rw[BitVec.toNat_and,Zjl k (by omega),e,Nat.and_two_pow_sub_one_eq_mod,Zi0 (by omega) (by omega)]
def Ydj:Zgk .shr .i64 (k:Int) 1=some (.int .i64 ((k/2:Nat):Int)):=by
 unfold Zgk
 have e:min (1:Int).toNat (IntKind.bits .i64)=1:=by decide
 rw[Yqe (by decide),e]
 simp only[Yqc,V.int.injEq,true_and]
 rw[Int.fdiv_eq_ediv_of_nonneg _ (by decide)]
 rfl
variable {N i:Nat} {h:T O} {k v:V}
def Keeps.new{h1:T O}{n n1:Nat}(k:Keeps h n h1 n1)(o:O):Keeps h n (h1.set n1 o) (n1+1):=(k.set k.le).up (Ytb _)
abbrev FnV(C:Cx)(f:V)(args:List V)(h:T O)(n:Nat)(P:V→T O→Nat→Prop):Prop:=∀w,Call C f args ⟨h,n,w⟩ (Ret P h n w)
def Yhy{C:Cx}{f args h n w P K Q}(hf:FnV C f args h n P)(k:∀v h' n',Keeps h n h' n'→P v h' n'→Run C K (some (.val v ⟨h',n',w⟩)) Q):Run C K (Zpr (C.call f args ⟨h,n,w⟩)) Q:=
 Zd3 (hf w) fun v st'=>by
  obtain⟨h',n',w'⟩:=st'
  rintro⟨rfl,hk,hp⟩
  exact k v h' n' hk hp
def Zfk(p:Nat→Bool)(k:Nat):Nat→Int
 |0=> -1
 |m+1=>if p k=true then (k:Int) else Zfk p (k+1) m
def Zrb{p:Nat→Bool}:∀{m k:Nat},(0≤Zfk p k m↔∃j,k≤j∧j<k+m∧p j=true)
 |0,k=>by simp[Zfk];intro j h1 h2;omega
 |m+1,k=>by
  simp only[Zfk]
  by_cases h:p k=true
  ·rw[Yqi h];exact⟨fun _=>⟨k,Yqg _,by omega,h⟩,fun _=>by omega⟩
  ·rw[Yqe h,Zrb (m:=m) (k:=k+1)]
   constructor
   ·rintro⟨j,h1,h2,h3⟩;exact⟨j,by omega,by omega,h3⟩
   ·rintro⟨j,h1,h2,h3⟩
    refine⟨j,?_,by omega,h3⟩
    have:j≠k:=fun hj=>h (hj▸h3)
    omega
def SlF(v:V):Prop:=v=.nilslice∨v=.empty∨∃i o n c z,v=.slice i o n c z
def Sl.form{l:List V}(s:Sl h N v l):SlF v:=by
 rcases s with⟨_,h|h⟩|⟨i,o,cp,c,e,rw,h,_⟩
 ·exact .inl h
 ·exact .inr (.inl h)
 ·exact .inr (.inr ⟨_,_,_,_,_,h⟩)
def SlF.one(h:SlF v):V.one v=true:=by
 rcases h with rfl|rfl|⟨_,_,_,_,_,rfl⟩<;>rfl
def SlF.cells(h:SlF v):V.cells v=[v]:=by
 rcases h with rfl|rfl|⟨_,_,_,_,_,rfl⟩<;>rfl
def strs(l:List Str):List V:=l.map .str
def Zt1(l:List Str):(strs l).length=l.length:=by simp[strs]
def Zt2{l:List Str}{j:Nat}{n:Str}(h:l[j]?=some n):(strs l)[j]?=some (.str n):=by simp[strs,h]
attribute [simp] Zt1
def Yoi(s:Stg)(inp:V):List V:=[.str s.name,.str s.op,.str s.factor,inp,.int .i64 s.cost]
def Gr(h:T O)(N:Nat)(v:V)(g:List Stg):Prop:=∃l:List (List V),Sn 5 h N v l∧l.length=g.length∧∀(j:Nat) (s:Stg),g[j]?=some s→∃inp,l[j]?=some (Yoi s inp)∧Sl h N inp (strs s.inputs)
def Gr.keep{h':T O}{N':Nat}{g:List Stg}(s:Gr h N v g)(k:Keeps h N h' N'):Gr h' N' v g:=by
 obtain⟨l,h1,h2,h3⟩:=s
 refine⟨l,h1.keep k,h2,fun j s hs=>?_⟩
 obtain⟨inp,h4,h5⟩:=h3 j s hs
 exact⟨inp,h4,h5.keep k⟩
def Gr.at{g:List Stg}(s:Gr h N v g){j:Nat}{x:Stg}(hj:g[j]?=some x):∃i o c e rw inp,Zno v=some (i,o)∧i<N∧h.get i=some (.cells c e rw)∧slc c (o+j*5) 5=some (Yoi x inp)∧Sl h N inp (strs x.inputs):=by
 obtain⟨l,h1,h2,h3⟩:=s
 obtain⟨inp,h4,h5⟩:=h3 j x hj
 obtain⟨i,o,c,e,rw,q1,q2,q3,q4⟩:=h1.at h4
 exact⟨i,o,c,e,rw,inp,q1,q2,q3,q4,h5⟩
def Gr.slice{g:List Stg}{w:List Nat}(s:Gr h N v g){lo hi:Nat}(h1:lo≤hi)(h2:hi≤g.length)(x y:Option V)(hx:x=some (.int .i64 lo)∨x=none∧lo=0)(hy:y=some (.int .i64 hi)∨y=none∧hi=g.length):
  ∃v',Zcr ⟨h,N,w⟩ 5 (some v) (some x) (some y) (some none)=some (v',⟨h,N,w⟩)∧Gr h N v' ((g.take hi).drop lo):=by
 obtain⟨l,g1,g2,g3⟩:=s
 obtain⟨v',e1,e2⟩:=Zy0 (z:=5) (w:=w) (by decide) g1 h1 (by omega) x y hx (by rw[g2];exact hy)
 refine⟨v',e1,(l.take hi).drop lo,e2,by simp[g2],fun j s hs=>?_⟩
 have hj:lo+j<hi:=by
  apply Yrm;intro hc
  rw[Yqo,Yqy,Yqe (by omega)]at hs;cases hs
 rw[Yqo,Yqy,Yqi hj]at hs
 obtain⟨inp,q1,q2⟩:=g3 _ s hs
 exact⟨inp,by rw[Yqo,Yqy,Yqi hj];exact q1,q2⟩
def Ymz{a b c d e:V}:slc [a,b,c,d,e] 0 5=some [a,b,c,d,e]:=rfl
def Ym0{a b:V}:slc [a,b] 0 2=some [a,b]:=rfl
attribute [simp] Ymz Ym0
def Yi3(st:St)(zero:V)(ok:Bool):Option (Option (Nat×V))→Option (V×St)
 |some (some (_,v))=>some (if ok then .tup [v,.bool true] else v,st)
 |some none=>some (if ok then .tup [zero,.bool false] else zero,st)
 |none=>none
def Zux(st:St)(kd:Zkp)(zero:V)(ok:Bool)(k:V):Option O→Option (V×St)
 |some (.map es)=>Yi3 st zero ok (findV kd k es 0)
 |_=>none
def Yi4(st:St)(kd:Zkp)(zero:V)(ok:Bool):Option V→Option V→Option (V×St)
 |some (.map i),some k=>if kd.fits k=true then Zux st kd zero ok k (st.h.get i) else none
 |some .nilmap,some k=>if kd.fits k=true then Yi3 st zero ok (some none) else none
 |_,_=>none
def Zso{kd:Zkp}{zero:V}{m k:Src}{ok:Bool}{call:Za0}{r:T V}{st:St}:Zew kd zero m k ok call r st=Yi4 st kd zero ok (m.ev r) (k.ev r):=by
 unfold Zew Yi4
 rcases m.ev r with _|m
 ·rfl
 ·rcases k.ev r with _|k
  ·cases m<;>rfl
  ·cases m<;>simp only[]<;>(try (by_cases hf:kd.fits k=true<;>simp[hf]))<;>try rfl
   ·rename_i i
    rcases st.h.get i with _|o
    ·rfl
    ·cases o<;>simp only[Zux]
     rename_i es
     rcases findV kd k es 0 with _|_|⟨_,_⟩<;>rfl
def Yau{st:St}{zero:V}{ok:Bool}{s:Str}:Yi4 st .str zero ok (some (.map i)) (some (.str s))=Zux st .str zero ok (.str s) (st.h.get i):=rfl
def Zs9{st:St}{kd:Zkp}{zero:V}{ok:Bool}{es:List (V×V)}:Zux st kd zero ok k (some (.map es))=Yi3 st zero ok (findV kd k es 0):=rfl
attribute [simp] Zso Yau Zs9 Zhn
def Yip(st:St)(i:Nat)(k v:V)(es:List (V×V)):Option (Option (Nat×V))→Option (V×St)
 |some (some (j,_))=>some (.tup [],st.write i (.map (es.set j (k,v))))
 |some none=>some (.tup [],st.write i (.map (es++[(k,v)])))
 |none=>none
def Zus(st:St)(kd:Zkp)(i:Nat)(k v:V):Option O→Option (V×St)
 |some (.map es)=>Yip st i k v es (findV kd k es 0)
 |_=>none
def msetK(st:St)(kd:Zkp):Option V→Option V→Option V→Option (V×St)
 |some (.map i),some k,some v=>if kd.fits k=true then Zus st kd i k v (st.h.get i) else none
 |_,_,_=>none
def Zsn{kd:Zkp}{m k v:Src}{call:Za0}{r:T V}{st:St}:Zec kd m k v call r st=msetK st kd (m.ev r) (k.ev r) (v.ev r):=by
 unfold Zec msetK
 rcases m.ev r with _|m
 ·rfl
 ·rcases k.ev r with _|k
  ·cases m<;>rfl
  ·rcases v.ev r with _|v
   ·cases m<;>rfl
   ·cases m with
    |map i=>
     simp only[]
     by_cases hf:kd.fits k=true
     ·simp only[hf,if_true]
      rcases st.h.get i with _|o
      ·rfl
      ·cases o<;>simp only[Zus]
       rename_i es
       rcases findV kd k es 0 with _|_|⟨_,_⟩<;>rfl
     ·simp[hf]
    |_=>rfl
def Zz9{st:St}{s:Str}:msetK st .str (some (.map i)) (some (.str s)) (some v)=Zus st .str i (.str s) v (st.h.get i):=rfl
def Zsw{st:St}{kd:Zkp}{es:List (V×V)}:Zus st kd i k v (some (.map es))=Yip st i k v es (findV kd k es 0):=rfl
def Zwp{st:St}{es:List (V×V)}:Yip st i k v es (some none)=some (.tup [],st.write i (.map (es++[(k,v)]))):=rfl
attribute [simp] Zsn Zz9 Zsw Zwp
def Keeps.then{h h1 h2:T O}{n n1 n2:Nat}(a:Keeps h n h1 n1)(b:Keeps h1 n h2 n2):Keeps h n h2 n2:=⟨b.le,fun i hi=>(b.get i hi).trans (a.get i hi)⟩
def Ze7(l:List Int):List (List V):=l.map fun x=>[.int .i64 x]
def Zdj(l:List Int):(Ze7 l).length=l.length:=by simp[Ze7]
def Zkf:∀(l:List Int),(Ze7 l).flatten=dI l
 |[]=>rfl
 |x::l=>by
  have:=Zkf l
  simp only[Ze7,Yrj,List.flatten_cons,dI]at this ⊢
  rw[this];rfl
def Zdb(l:List Int)(x:Int):Ze7 (l++[x])=Ze7 l++[[.int .i64 x]]:=by simp[Ze7]
def Own.sl{e:TypeId}{N0:Nat}{h:T O}{N:Nat}{v:V}{l:List Int}(s:Own 1 e N0 h N v (Ze7 l)):Sl h N v (dI l):=by
 have:=s.sn
 have e1:Ze7 l=(dI l).map fun x=>[x]:=by simp[Ze7,dI]
 rw[e1]at this
 exact Sn.one.1 this
structure Yom (g:List Stg):Prop where
 le:g.length≤16
 name:∀(j:Nat) (s:Stg),g[j]?=some s→j≤pos (g.take j) s.name
 inp:∀(j:Nat) (s:Stg),g[j]?=some s→∀n∈s.inputs,pos (g.take j) n<j
 cost:∀s∈g,1≤s.cost∧s.cost≤1000
variable {N:Nat} {h:T O}
def Cp(h:T O)(N:Nat)(v:V)(l:List V):Prop:=∃j c,v=.slice j 0 l.length c 1∧j<N∧h.get j=some (.cells l 9 true)∧∀k,c=some k→l.length≤k
def Cp.keep{h':T O}{N':Nat}{v:V}{l:List V}(s:Cp h N v l)(k:Keeps h N h' N'):Cp h' N' v l:=by
 obtain⟨j,c,h1,h2,h3,h4⟩:=s
 exact⟨j,c,h1,Yqq h2 k.le,(k.get j h2).trans h3,h4⟩
def Yk6{w:List Nat}{v:V}{l:List V}(s:Sl h N v l):Zbc ⟨h,N,w⟩ 1 v=some (l.length,l):=by
 rcases s with⟨rfl,rfl|rfl⟩|⟨i,o,cp,c,e,rw,rfl,h2,h3,h4,h5,h6⟩
 ·rfl
 ·rfl
 ·simp only[Zbc,if_true,St.row,h3,Ys0]
  have:slc c o l.length=some l:=by
   unfold slc
   rw[Yqi h5]
   congr 1
   apply Yq9
   intro j
   rw[Yqy]
   by_cases hj:j<l.length
   ·rw[Yqi hj,Yqo];exact h4 j hj
   ·rw[Yqe hj,Yqv (by omega)]
  rw[this]
def PgA(h:T O)(N0 N:Nat)(u:V)(g:List Stg)(k:Nat):Prop:=∃l:List (List V),Own 5 126 N0 h N u l∧l.length=k∧∀(j:Nat) (s:Stg),j<k→g[j]?=some s→∃inp,l[j]?=some (Yoi s inp)∧Cp h N inp (strs s.inputs)
def PgA.keep{h':T O}{N0 N':Nat}{u:V}{g:List Stg}{k:Nat}(s:PgA h N0 N u g k)(kk:Keeps h N h' N'):PgA h' N0 N' u g k:=by
 obtain⟨l,h1,h2,h3⟩:=s
 refine⟨l,h1.keep kk,h2,fun j s hj hs=>?_⟩
 obtain⟨inp,h4,h5⟩:=h3 j s hj hs
 exact⟨inp,h4,h5.keep kk⟩
def Sl.setInt{h:T O}{N:Nat}{v:V}{l:List Int}{i:Nat}{c0 c1:List V}{e0 e1:TypeId}{w0 w1:Bool}(s:Sl h N v (dI l))(hr:h.get i=some (.cells c0 e0 w0))(hn:∀x∈c0,∀k n,x≠.int k n)(hc:c1.length=c0.length):Sl (h.set i (.cells c1 e1 w1)) N v (dI l):=by
 rcases s with s|⟨j,o,cp,c,e,rw,h1,h2,h3,h4,h5,h6⟩
 ·exact .inl s
 ·by_cases hj:j=i
  ·subst hj
   rw[hr]at h3
   simp only[Yqc,O.cells.injEq]at h3
   obtain⟨rfl,rfl,rfl⟩:=h3
   cases l with
   |nil=>exact .inr ⟨j,o,cp,c1,e1,w1,h1,h2,by rw[T.get_set];simp,fun k hk=>by simp[dI]at hk,by rw[hc];exact h5,h6⟩
   |cons d l=>
    have:=h4 0 (by simp[dI])
    simp only[dI,Yrj,Yrx]at this
    exact absurd rfl (hn _ (Yqn this) .i64 d)
  ·exact .inr ⟨j,o,cp,c,e,rw,h1,h2,by rw[T.get_set,Yqe hj];exact h3,h4,h5,h6⟩
end Go.Mx
