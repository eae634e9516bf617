/-Characters of a string, one after the ot-/
import Derived.Test.YtmhlaoiplmemiaaGreatDoorMxWord
import Derived.Test.YtmhlaoiplmemiaaGreatDoorProg
set_option linter.all false
namespace Go.Mx
open Go
variable {i:Nat} {j:Int} {k:IntKind} {r:T V} {s:Str} {x:Src}
def Yo2(s:Str)(p:Nat):Int:=(Utf8.decode ⟨s.toArray⟩ p).1
def Yo1(s:Str)(p:Nat):Nat:=(Utf8.decode ⟨s.toArray⟩ p).2
def Znh(i:Nat)(st:St):Option (Str×Nat)→Option (V×St)
 |some (s,p)=>if p<s.length then some (.tup [.bool true,.int .i64 p,.int .i32 (Utf8.decode ⟨s.toArray⟩ p).1],st.write i (.siter s (p+(Utf8.decode ⟨s.toArray⟩ p).2))) else some (.tup [.bool false],st)
 |none=>none
def Zvu:Option O→Option (Str×Nat)
 |some (.siter s p)=>some (s,p)
 |_=>none
def Ylw(st:St):Option V→Option (V×St)
 |some (.ptr i 0)=>Znh i st (Zvu (st.h.get i))
 |_=>none
def Zrt{call:Za1}{st:St}:Zd2 x call r st=Ylw st (x.ev r):=by
 unfold Zd2 Ylw
 rcases x.ev r with _|v
 ·rfl
 ·cases v<;>try rfl
  rename_i i o
  cases o with
  |zero=>
   simp only[Zvu,Znh]
   rcases st.h.get i with _|o
   ·rfl
   ·cases o<;>rfl
  |succ=>rfl
def Zye{st:St}:Ylw st (some (.ptr i 0))=Znh i st (Zvu (st.h.get i)):=rfl
def Ztw{p:Nat}:Zvu (some (.siter s p))=some (s,p):=rfl
def Ycb{st:St}{p:Nat}(h:p<s.length):Znh i st (some (s,p))=some (.tup [.bool true,.int .i64 p,.int .i32 (Yo2 s p)],st.write i (.siter s (p+Yo1 s p))):=by simp[Znh,h,Yo2,Yo1]
def Zyf{st:St}:Znh i st (some (s,s.length))=some (.tup [.bool false],st):=by simp[Znh]
def Zcj(st:St):Option V→Option (Option V)→Option (Option V)→Option (V×St)
 |some (.str s),some lo,some hi=>match Zax hi s.length s.length with
   |some h=>match Zax lo h 0 with
    |some l=>some (.str ((s.take h).drop l),st)
    |none=>none
   |none=>none
 |_,_,_=>none
def Zqf{lo hi:Option Src}{call:Za1}{st:St}:Zbo x lo hi call r st=Zcj st (x.ev r) (evOpt r lo) (evOpt r hi):=by
 unfold Zbo Zcj;rfl
def Zd0{st:St}(h0:0≤j)(h1:j≤s.length):Zcj st (some (.str s)) (some (some (.int k j))) (some none)=some (.str (s.drop j.toNat),st):=by
 simp[Zcj,Zax,Zd8,h0,h1]
def Zky{st:St}(h0:0≤j)(h1:j≤s.length):Zcj st (some (.str s)) (some none) (some (some (.int k j)))=some (.str (s.take j.toNat),st):=by
 simp[Zcj,Zax,Zd8,h0,h1]
def Zo0{st:St}{k':IntKind}{i:Int}(h0:0≤i)(h1:i≤j)(h2:j≤s.length):Zcj st (some (.str s)) (some (some (.int k i))) (some (some (.int k' j)))=some (.str ((s.take j.toNat).drop i.toNat),st):=by
 have h3:0≤j:=by omega
 have h4:max j 0=j:=by omega
 simp[Zcj,Zax,Zd8,h0,h1,h2,h3,h4]
def Zn6(s:Str):List V:=s.map fun b=>.int .u8 (u8I b)
def Zzz(s:Str):(Zn6 s).length=s.length:=by simp[Zn6]
def Zz0{k:Nat}{c:UInt8}(h:s[k]?=some c):(Zn6 s)[k]?=some (.int .u8 (u8I c)):=by simp[Zn6,h]
def sbK(elem:TypeId)(st:St):Option V→Option (V×St)
 |some (.str s)=>some (.slice st.n 0 s.length none 1,st.alloc (.cells (Zn6 s) elem true))
 |_=>none
def Zqe{elem:TypeId}{call:Za1}{st:St}:Zck elem x call r st=sbK elem st (x.ev r):=by
 unfold Zck sbK;rfl
def Yf5{elem:TypeId}{st:St}:sbK elem st (some (.str s))=some (.slice st.n 0 s.length none 1,st.alloc (.cells (Zn6 s) elem true)):=rfl
attribute [simp] Zqe Yf5 Zzz Zrt Zye Ztw Ycb Zyf Zqf Zd0 Zky Zo0 Zc5
def Zj8:∀(s:Str) (i:Nat),Ziz 47 s i=if slashAt s<s.length then ((i+slashAt s:Nat):Int) else -1
 |[],i=>rfl
 |c::s,i=>by
  simp only[Ziz,slashAt]
  have e:(c==47)=decide (c.toNat=47):=by
   rw[Bool.eq_iff_iff]
   simp only[beq_iff_eq,decide_eq_true_eq]
   exact⟨fun h=>by rw[h];rfl,fun h=>UInt8.toNat_inj.1 h⟩
  rw[e]
  by_cases h:c.toNat=47
  ·simp[h]
  ·simp only[h,decide_false,if_false,Yu5,Zj8 s (i+1),Yuq]
   by_cases h2:slashAt s<s.length
   ·rw[Yuu h2,Yuu (by omega)];omega
   ·rw[Yur h2,Yur (by omega)]
variable {d:Int} {j k n:Nat} {l:List Int}
def vI:List Int→Int
 |[]=>0
 |d::l=>d+1000000000*vI l
def pI(k:Nat):Int:=1000000000^k
def Zc4(k:Nat):pI (k+1)=1000000000*pI k:=by unfold pI;rw[Int.pow_succ,Int.mul_comm]
def Yln:pI 0=1:=rfl
def Zjw(k:Nat):0<pI k:=by unfold pI;exact Int.pow_pos (by decide)
def Zv8(i j:Nat):pI (i+j)=pI i*pI j:=by unfold pI;exact Int.pow_add ..
def Zmo:∀(l m:List Int),vI (l++m)=vI l+pI l.length*vI m
 |[],m=>by simp[vI,pI]
 |d::l,m=>by
  simp only[Yxb,vI,Zmo l m,Yuq,Zc4]
  grind
def Zf9(l:List Int)(d:Int):vI (l++[d])=vI l+pI l.length*d:=by simp[Zmo,vI]
def Zp0(n:Nat):vI (List.replicate n 0)=0:=by
 induction n with
 |zero=>rfl
 |succ n ih=>simp[List.replicate_succ,vI,ih]
def Zaz{α:Type}{l:List α}{d:α}(h:l[k]?=some d):k<l.length:=by
 apply Yv5;intro hc;rw[Yva hc]at h;cases h
def Zbe(h:l[k]?=some d):vI (l.take (k+1))=vI (l.take k)+pI k*d:=by
 have hk:=Zaz h
 rw[Yw0,h]
 simp only[Option.toList]
 rw[Zf9,Yvh,Yv3 (by omega)]
def Zjh(l:List Int)(k:Nat)(hk:k≤l.length):vI l=vI (l.take k)+pI k*vI (l.drop k):=by
 have:=Zmo (l.take k) (l.drop k)
 rw[Ywz,Yvh,Yv3 hk]at this
 exact this
def Zji:∀{l:List Int} {k:Nat} {c:Int},l[k]?=some c→∀(v:Int),vI (l.set k v)=vI l+pI k*(v-c)
 |[],k,c,h,v=>by simp at h
 |d::l,0,c,h,v=>by
  simp at h;subst h
  simp only[List.set_cons_zero,vI,Yln];omega
 |d::l,k+1,c,h,v=>by
  have:=Zji (l:=l) (k:=k) (c:=c) (by simpa using h) v
  simp only[List.set_cons_succ,vI,this,Zc4]
  grind
def Di(l:List Int):Prop:=∀d∈l,0≤d∧d<1000000000
def Di.get(h:Di l){k:Nat}{d:Int}(hd:l[k]?=some d):0≤d∧d<1000000000:=h d (Yux hd)
def Di.set(h:Di l){k:Nat}{v:Int}(h0:0≤v)(h1:v<1000000000):Di (l.set k v):=fun d hd=>by
 rcases Yxy hd with hd|rfl
 ·exact h d hd
 ·exact⟨h0,h1⟩
def Di.app{m:List Int}(h:Di l)(h':Di m):Di (l++m):=fun d hd=>by
 rcases Yv1.1 hd with hd|hd
 ·exact h d hd
 ·exact h' d hd
def Di.one{v:Int}(h0:0≤v)(h1:v<1000000000):Di [v]:=fun d hd=>by simp at hd;subst hd;exact⟨h0,h1⟩
def Di.nil:Di []:=fun d hd=>by simp at hd
def Di.zeros(n:Nat):Di (List.replicate n 0):=fun d hd=>by rw[Yx5]at hd;rw[hd.2];decide
def Di.take(h:Di l)(k:Nat):Di (l.take k):=fun d hd=>h d (Ywq hd)
def Di.drop(h:Di l)(k:Nat):Di (l.drop k):=fun d hd=>h d (List.mem_of_mem_drop hd)
def Zio:∀{l:List Int},Di l→0≤vI l
 |[],_=>Int.le_refl _
 |d::l,h=>by
  have h1:=h d Yvg
  have h2:=Zio (l:=l) fun e he=>h e (Yu1 _ he)
  simp only[vI];omega
def Zip:∀{l:List Int},Di l→vI l<pI l.length
 |[],_=>by decide
 |d::l,h=>by
  have h1:=h d Yvg
  have h2:=Zip (l:=l) fun e he=>h e (Yu1 _ he)
  simp only[vI,Yuq,Zc4];omega
def zI(l:List Int)(j:Nat):Int:=l[j]?.getD 0
def Ykn(h:l[j]?=some d):zI l j=d:=by simp[zI,h]
def Ztd(h:l.length≤j):zI l j=0:=by simp[zI,h]
def Yko{l:List Int}(h:Di l)(j:Nat):0≤zI l j∧zI l j<1000000000:=by
 unfold zI
 cases hj:l[j]? with
 |none=>simp
 |some d=>exact h.get hj
def Zmn{l:List Int}{k:Nat}:vI (l.take (k+1))=vI (l.take k)+pI k*zI l k:=by
 unfold zI
 cases h:l[k]? with
 |some d=>exact Zbe h
 |none=>
  have hk:l.length≤k:=by
   apply Ywu;intro hc;rw[Yut hc]at h;cases h
  rw[Yuy (by omega),Yuy hk];simp
def Zaq{α:Type}{l:List α}{d:α}(h:l[k]?=some d):l.drop k=d::l.drop (k+1):=by
 obtain⟨hk,hs⟩:=Ywc.1 h
 rw[←hs];exact Yw6 hk
def dI(l:List Int):List V:=l.map fun n=>.int .i64 n
def Zau(l:List Int):(dI l).length=l.length:=by simp[dI]
def Zbj{n:Int}(h:l[j]?=some n):(dI l)[j]?=some (.int .i64 n):=by simp[dI,h]
attribute [simp] Zau
def Zik{v:Int}(h:k<l.length):splice (dI l) k [.int .i64 v]=dI (l.set k v):=by
 unfold splice dI
 apply Yv0
 intro j
 simp only[Ywl,Yvd,List.getElem?_set]
 rw[Yvz,List.getElem?_append,Yvh,Yvn]
 by_cases h1:j<k
 ·rw[Yuu (by omega),Yvi,Yuu h1,Yvd,Yur (by omega)]
 ·rw[Yur (by omega)]
  by_cases h2:j=k
  ·subst h2
   rw[show j-min j l.length=0 by omega,Yuu rfl,Yuu h];rfl
  ·rw[show j-min k l.length=(j-k-1)+1 by omega,Yur (by omega)]
   simp only[Yyk,Yw2,Yu3,Yvd]
   rw[show k+1+(j-k-1)=j by omega]
def Zqr:Zc2 [.int .i64 0] n=dI (List.replicate n 0):=by rw[Yi3];simp[dI]
def Zgd:List Int→List Int
 |[]=>[]
 |d::l=>match Zgd l with
  |[]=>if d=0 then [] else [d]
  |t=>d::t
def Zkx:∀(l:List Int),Zgd (l++[0])=Zgd l
 |[]=>rfl
 |d::l=>by simp only[Yxb,Zgd,Zkx l]
def Zoy{d:Int}(hd:d≠0):∀(l:List Int),Zgd (l++[d])=l++[d]
 |[]=>by simp[Zgd,hd]
 |e::l=>by
  simp only[Yxb,Zgd,Zoy hd l]
  cases l<;>rfl
def Zq9:∀(l:List Int),(Zgd l).length≤l.length
 |[]=>Yus _
 |d::l=>by
  have ih:=Zq9 l
  simp only[Zgd]
  split
  ·split<;>simp
  ·simp only[Yuq];omega
def ds(n:Nat):List Int:=if h:n=0 then [] else ((n%1000000000:Nat):Int)::ds (n/1000000000)
termination_by n
decreasing_by exact Yxp (by omega) (by decide)
def Zcn:ds 0=[]:=by rw[ds];simp
def Zhm(h:n≠0):ds n=((n%1000000000:Nat):Int)::ds (n/1000000000):=by rw[ds];simp[h]
def Zbf:∀(n:Nat),vI (ds n)=n:=by
 intro n
 induction n using Nat.strongRecOn with
 |_ n ih=>
  by_cases h:n=0
  ·subst h;rw[Zcn];rfl
  ·rw[Zhm h]
   simp only[vI]
   rw[ih (n/1000000000) (Yxp (by omega) (by decide))]
   omega
def Zce(n:Nat):Di (ds n):=by
 induction n using Nat.strongRecOn with
 |_ n ih=>
  by_cases h:n=0
  ·subst h;rw[Zcn];exact Di.nil
  ·rw[Zhm h]
   intro d hd
   rcases Yvt.1 hd with rfl|hd
   ·omega
   ·exact ih (n/1000000000) (Yxp (by omega) (by decide)) d hd
def Zp1:∀{l:List Int},Di l→Zgd l=ds (vI l).toNat
 |[],_=>by simp[Zgd,vI,Zcn]
 |d::l,h=>by
  have hl:Di l:=fun e he=>h e (Yu1 _ he)
  have ih:=Zp1 hl
  have hd:=h d Yvg
  have hn:=Zio hl
  simp only[Zgd,vI,ih]
  by_cases h0:vI l=0
  ·rw[h0]
   simp only[Int.toNat_zero,Zcn,Int.mul_zero,Int.add_zero]
   by_cases hd0:d=0
   ·simp[hd0,Zcn]
   ·rw[Zhm (by omega),Ywp (by omega),Yw5 (by omega),Zcn];simp[hd0];omega
  ·have h3:(d+1000000000*vI l).toNat≠0:=by omega
   rw[Zhm h3]
   have h1:(d+1000000000*vI l).toNat/1000000000=(vI l).toNat:=by omega
   have h2:(((d+1000000000*vI l).toNat%1000000000:Nat):Int)=d:=by omega
   rw[h1,h2]
   split
   ·rename_i hc;rw[Zhm (by omega)]at hc;cases hc
   ·rfl
def Zgc(h:Di l){n:Nat}(hn:vI l=n):Zgd l=ds n:=by rw[Zp1 h,hn];rfl
def Ynb(n:Nat):Zgd (ds n)=ds n:=Zgc (Zce n) (Zbf n)
def Zds:ds n=[]↔n=0:=by
 constructor
 ·intro h
  by_cases h0:n=0
  ·exact h0
  ·rw[Zhm h0]at h;cases h
 ·intro h;rw[h,Zcn]
def Ync(h:n≠0):∃d,(ds n)[(ds n).length-1]?=some d∧0<d:=by
 have hne:ds n≠[]:=fun hc=>h (Zds.1 hc)
 obtain⟨l,d,hd⟩:∃l d,ds n=l++[d]:=⟨(ds n).dropLast,(ds n).getLast hne,(Yyl hne).symm⟩
 refine⟨d,by rw[hd,Yu8,Ywl];simp,?_⟩
 have h1:=Zce n d (by rw[hd];exact List.mem_append_right _ Yvg)
 have:d≠0:=fun h0=>by
  have h2:=Ynb n
  rw[hd,h0,Zkx]at h2
  have:=Zq9 l
  rw[h2]at this;simp at this;omega
 omega
def Zf0{n k:Nat}(h:n<1000000000^k):(ds n).length≤k:=by
 induction k generalizing n with
 |zero=>
  have:n=0:=by simpa using h
  rw[this,Zcn];simp
 |succ k ih=>
  by_cases h0:n=0
  ·rw[h0,Zcn];simp
  ·rw[Zhm h0]
   have:=ih (n:=n/1000000000) ((Yvo (by decide)).2 (by rw[←Yvm];exact h))
   simp only[Yuq];omega
def Dn(h:T O)(N:Nat)(v:V)(n:Nat):Prop:=Sl h N v (dI (ds n))
def Dn.keep{h h':T O}{N N':Nat}{v:V}(s:Dn h N v n)(k:Keeps h N h' N'):Dn h' N' v n:=Sl.keep s k
variable {w:List Int}
def Zuz{P u1 u2 U' v1 v2 V' t r:Int}(hP:0<P)(hU':0≤U')(hu2:0≤u2)(hu1:0≤u1)(hv1:0<v1)(hv2:0≤v2)(hV0:0≤V')(hV':V'<P)(h0:0≤t)(ht:t≤1000000000)(hinv:u1=t*v1+r)(hc:t*v2≤r*1000000000+u2):
  (t-1)*(V'+P*(v2+1000000000*v1))≤U'+P*(u2+1000000000*u1):=by
 by_cases ht0:t=0
 ·subst ht0
  have h1:0≤P*(v2+1000000000*v1):=Ywt (by omega) (by omega)
  have h2:0≤P*(u2+1000000000*u1):=Ywt (by omega) (by omega)
  omega
 ·have h1:(t-1)*V'≤1000000000*P:=by
   have:(t-1)*V'≤1000000000*V':=Ywi (by omega) hV0
   omega
  have h2:P*1≤P*v1:=Yu9 (by omega) (by omega)
  have h3:P*(t*v2)≤P*(r*1000000000+u2):=Yu9 hc (by omega)
  have h4:0≤P*v2:=Ywt (by omega) hv2
  have h5:(t-1)*(V'+P*(v2+1000000000*v1))=(t-1)*V'+P*(t*v2)-P*v2+1000000000*(P*(t*v1))-1000000000*(P*v1):=by grind
  have h6:U'+P*(u2+1000000000*u1)=U'+P*(r*1000000000+u2)+1000000000*(P*(t*v1)):=by subst hinv;grind
  omega
def Ymn{P u1 u2 U' v1 v2 V' t r:Int}(hP:0<P)(hU':U'<P)(hV0:0≤V')(h0:0≤t)(hinv:u1=t*v1+r)(hc:r*1000000000+u2<t*v2):
  U'+P*(u2+1000000000*u1)<t*(V'+P*(v2+1000000000*v1)):=by
 have h1:0≤t*V':=Ywt h0 hV0
 have h3:P*(r*1000000000+u2+1)≤P*(t*v2):=Yu9 (by omega) (by omega)
 have h5:t*(V'+P*(v2+1000000000*v1))=t*V'+P*(t*v2)+1000000000*(P*(t*v1)):=by grind
 have h6:U'+P*(u2+1000000000*u1)=U'+P*(r*1000000000+u2+1)-P+1000000000*(P*(t*v1)):=by subst hinv;grind
 omega
def Yb9{x:Int}(h1:1≤x)(h2:x<1000000000):500000000≤x*(1000000000/(x+1)):=by
 have hd:(x+1)*(1000000000/(x+1))+1000000000%(x+1)=1000000000:=Yw8 ..
 have hr:1000000000%(x+1)<x+1:=Yxl _ (by omega)
 have hr0:0≤1000000000%(x+1):=Yx1 _ (by omega)
 generalize 1000000000/(x+1)=d at*
 generalize 1000000000%(x+1)=r at*
 have e:(x+1)*d=x*d+d:=by grind
 apply Yxv
 intro hc
 by_cases hx:x≤500000000
 ·have h3:500000000-x+1≤d:=by omega
  have h4:x*(500000000-x+1)≤x*d:=Yu9 h3 (by omega)
  have h5:0≤(x-1)*(500000000-x):=Ywt (by omega) (by omega)
  have h6:(x-1)*(500000000-x)=x*(500000000-x+1)-500000000:=by grind
  omega
 ·have h3:1≤d:=by
   apply Yxv;intro h
   have:d≤0:=by omega
   have:(x+1)*d≤0:=Int.mul_nonpos_of_nonneg_of_nonpos (by omega) this
   omega
  have h4:x*1≤x*d:=Yu9 h3 (by omega)
  omega
def Zg6{m:Nat}(h:∀t,m≤t→t<w.length→w[t]?=some 0):vI w=vI (w.take m):=by
 by_cases hm:m≤w.length
 ·have h1:=Zjh w m hm
  have h2:w.drop m=List.replicate (w.length-m) 0:=by
   apply Yv0
   intro t
   rw[Yu3,List.getElem?_replicate]
   by_cases ht:t<w.length-m
   ·rw[Yuu ht];exact h _ (by omega) (by omega)
   ·rw[Yur ht];exact Yva (by omega)
  rw[h2,Zp0]at h1
  omega
 ·rw[Yuy (by omega)]
def Ykr{k:Nat}{a c d:Int}(ha:w[k]?=some a)(hc:w[k+1]?=some c)(hd:w[k+2]?=some d)(hz:∀t,k+3≤t→t<w.length→w[t]?=some 0):
  vI w=vI (w.take k)+pI k*(a+1000000000*(d*1000000000+c)):=by
 rw[Zg6 hz,show k+3=(k+2)+1 by omega,Zbe hd,Zbe hc,Zbe ha,Zc4 (k+1),Zc4 k]
 grind
def Yks{k:Nat}{a c:Int}(ha:w[k]?=some a)(hc:w[k+1]?=some c)(hl:w.length=k+2):
  vI w=vI (w.take k)+pI k*(a+1000000000*c):=by
 have h1:vI w=vI (w.take (k+1+1)):=by rw[Yuy (by omega)]
 rw[h1,Zbe hc,Zbe ha,Zc4 k]
 grind
def Yfp{n:Nat}{t:Int}(hd:Di (w.take n))(ht:w[n]?=some t)(hz:∀j,n<j→j<w.length→w[j]?=some 0)(h1:vI w<pI n):(0≤vI w→t=0)∧(vI w<0→t<0):=by
 have hl:=Zaz ht
 have h2:vI w=vI (w.take n)+pI n*t:=by
  rw[Zg6 (m:=n+1) (fun j h1 h2=>hz j (by omega) h2),Zbe ht]
 have h3:=Zio hd
 have h4:=Zip hd
 rw[Yvh,Yv3 (by omega)]at h4
 have h5:=Zjw n
 constructor
 ·intro h
  have h6:¬t≤ -1:=fun hc=>by
   have:=Yu9 hc (Ywv h5)
   omega
  have h7:¬1≤t:=fun hc=>by
   have:=Yu9 hc (Ywv h5)
   omega
  omega
 ·intro h
  apply Yyc
  intro hc
  have:=Ywt (Ywv h5) hc
  omega
variable {N k:Nat} {s:Str}
def Yts:(N=N+1)=False:=eq_false (by omega)
def Ytj:(N+1=N)=False:=eq_false (by omega)
def Yua:(N+1<N)=False:=eq_false (by omega)
def Ytr:(N=N+1+1)=False:=eq_false (by omega)
def Yti:(N+1+1=N)=False:=eq_false (by omega)
def Yt9:(N+1+1<N)=False:=eq_false (by omega)
def Ytq:(N=N+1+1+1)=False:=eq_false (by omega)
def Yth:(N+1+1+1=N)=False:=eq_false (by omega)
def Yt8:(N+1+1+1<N)=False:=eq_false (by omega)
def Ytp:(N=N+1+1+1+1)=False:=eq_false (by omega)
def Ytg:(N+1+1+1+1=N)=False:=eq_false (by omega)
def Yt7:(N+1+1+1+1<N)=False:=eq_false (by omega)
def Yto:(N=N+1+1+1+1+1)=False:=eq_false (by omega)
def Ytf:(N+1+1+1+1+1=N)=False:=eq_false (by omega)
def Yt6:(N+1+1+1+1+1<N)=False:=eq_false (by omega)
def Ytn:(N=N+1+1+1+1+1+1)=False:=eq_false (by omega)
def Yte:(N+1+1+1+1+1+1=N)=False:=eq_false (by omega)
def Yt5:(N+1+1+1+1+1+1<N)=False:=eq_false (by omega)
def Ytm:(N=N+1+1+1+1+1+1+1)=False:=eq_false (by omega)
def Ytd:(N+1+1+1+1+1+1+1=N)=False:=eq_false (by omega)
def Yt4:(N+1+1+1+1+1+1+1<N)=False:=eq_false (by omega)
def Ytl:(N=N+1+1+1+1+1+1+1+1)=False:=eq_false (by omega)
def Ytc:(N+1+1+1+1+1+1+1+1=N)=False:=eq_false (by omega)
def Yt3:(N+1+1+1+1+1+1+1+1<N)=False:=eq_false (by omega)
def Ytk:(N=N+1+1+1+1+1+1+1+1+1)=False:=eq_false (by omega)
def Ytb:(N+1+1+1+1+1+1+1+1+1=N)=False:=eq_false (by omega)
def Yt2:(N+1+1+1+1+1+1+1+1+1<N)=False:=eq_false (by omega)
def Yry:(N=N+1+1+1+1+1+1+1+1+1+1)=False:=eq_false (by omega)
def Yrs:(N+1+1+1+1+1+1+1+1+1+1=N)=False:=eq_false (by omega)
def Ysa:(N+1+1+1+1+1+1+1+1+1+1<N)=False:=eq_false (by omega)
def Yrx:(N=N+1+1+1+1+1+1+1+1+1+1+1)=False:=eq_false (by omega)
def Yrr:(N+1+1+1+1+1+1+1+1+1+1+1=N)=False:=eq_false (by omega)
def Yr9:(N+1+1+1+1+1+1+1+1+1+1+1<N)=False:=eq_false (by omega)
def Yrw:(N=N+1+1+1+1+1+1+1+1+1+1+1+1)=False:=eq_false (by omega)
def Yrq:(N+1+1+1+1+1+1+1+1+1+1+1+1=N)=False:=eq_false (by omega)
def Yr8:(N+1+1+1+1+1+1+1+1+1+1+1+1<N)=False:=eq_false (by omega)
def Yrv:(N=N+1+1+1+1+1+1+1+1+1+1+1+1+1)=False:=eq_false (by omega)
def Yrp:(N+1+1+1+1+1+1+1+1+1+1+1+1+1=N)=False:=eq_false (by omega)
def Yr7:(N+1+1+1+1+1+1+1+1+1+1+1+1+1<N)=False:=eq_false (by omega)
def Yru:(N=N+1+1+1+1+1+1+1+1+1+1+1+1+1+1)=False:=eq_false (by omega)
def Yro:(N+1+1+1+1+1+1+1+1+1+1+1+1+1+1=N)=False:=eq_false (by omega)
def Yr6:(N+1+1+1+1+1+1+1+1+1+1+1+1+1+1<N)=False:=eq_false (by omega)
def Yrt:(N=N+1+1+1+1+1+1+1+1+1+1+1+1+1+1+1)=False:=eq_false (by omega)
def Yrn:(N+1+1+1+1+1+1+1+1+1+1+1+1+1+1+1=N)=False:=eq_false (by omega)
def Yr5:(N+1+1+1+1+1+1+1+1+1+1+1+1+1+1+1<N)=False:=eq_false (by omega)
attribute [simp] Yts Ytj Yua Ytr Yti Yt9 Ytq Yth Yt8 Ytp Ytg Yt7 Yto Ytf Yt6 Ytn Yte Yt5 Ytm Ytd Yt4 Ytl Ytc Yt3 Ytk Ytb Yt2 Yry Yrs Ysa Yrx Yrr Yr9 Yrw Yrq Yr8 Yrv Yrp Yr7 Yru Yro Yr6 Yrt Yrn Yr5
def Yt1:(N<N+1)=True:=eq_true (by omega)
def Yt0:(N<N+1+1)=True:=eq_true (by omega)
def Ytz:(N<N+1+1+1)=True:=eq_true (by omega)
def Yty:(N<N+1+1+1+1)=True:=eq_true (by omega)
def Ytx:(N<N+1+1+1+1+1)=True:=eq_true (by omega)
def Ytw:(N<N+1+1+1+1+1+1)=True:=eq_true (by omega)
def Ytv:(N<N+1+1+1+1+1+1+1)=True:=eq_true (by omega)
def Ytu:(N<N+1+1+1+1+1+1+1+1)=True:=eq_true (by omega)
def Ytt:(N<N+1+1+1+1+1+1+1+1+1)=True:=eq_true (by omega)
def Yr4:(N<N+1+1+1+1+1+1+1+1+1+1)=True:=eq_true (by omega)
def Yr3:(N<N+1+1+1+1+1+1+1+1+1+1+1)=True:=eq_true (by omega)
def Yr2:(N<N+1+1+1+1+1+1+1+1+1+1+1+1)=True:=eq_true (by omega)
def Yr1:(N<N+1+1+1+1+1+1+1+1+1+1+1+1+1)=True:=eq_true (by omega)
def Yr0:(N<N+1+1+1+1+1+1+1+1+1+1+1+1+1+1)=True:=eq_true (by omega)
def Yrz:(N<N+1+1+1+1+1+1+1+1+1+1+1+1+1+1+1)=True:=eq_true (by omega)
attribute [simp] Yt1 Yt0 Ytz Yty Ytx Ytw Ytv Ytu Ytt Yr4 Yr3 Yr2 Yr1 Yr0 Yrz
def Call.eq{C:Cx}{g:V}{args:List V}{st st':St}{u:V}(h:Call C g args st (fun v s=>v=u∧s=st')):C.call g args st=some (u,st'):=by
 obtain⟨v,s,e,rfl,rfl⟩:=h.ex
 exact e
def Zqk{C:Cx}{K:List Kf}{Q:Rs→Prop}{fr:Fr}{st:St}{i j:Nat}(h:¬j=i):Run C (.block i::K) (some (.ex (.exit j) fr st)) Q↔Run C K (some (.ex (.exit j) fr st)) Q:=Zql (by
 cases hb:Nat.beq j i with
 |false=>rfl
 |true=>exact absurd (Yyh hb) h)
attribute [simp] Zqk
def Zal:List Int→Int
 |[]=>0
 |e::l=>if e=0 then Zal l else e
def Zaf{α:Type}{l:List α}(h:k<l.length):∃d,l[k]?=some d:=⟨_,Yut h⟩
def Yd2(c:UInt8):Zkt c=decide (48≤u8I c∧u8I c≤57):=by
 unfold Zkt u8I;rw[decide_eq_decide];omega
def Zof(k:Nat):List V:=(List.range 256).map fun i=>.bool (decide (48≤i∧i<48+k))
def Zdu(k:Nat):(Zof k).length=256:=by simp[Zof]
def Zic{i:Nat}(hi:i<256):(Zof k)[i]?=some (.bool (decide (48≤i∧i<48+k))):=by simp[Zof,hi]
def Zxi(k:Nat):(Zof k).all V.one=true:=by simp[Zof,V.one]
def Yiw(hk:k<10):splice (Zof k) (48+k) [.bool true]=Zof (k+1):=by
 apply Yv0
 intro j
 unfold splice
 rw[Yvz,List.getElem?_append,Yvh,Zdu,Yv3 (by omega)]
 by_cases h1:j<48+k
 ·rw[Yuu h1,Yvi,Yuu h1,Zic (by omega),Zic (by omega)]
  congr 3;rw[eq_iff_iff];omega
 ·rw[Yur h1]
  by_cases h2:j=48+k
  ·subst h2
   rw[Zic (by omega)]
   simp
  ·rw[show j-(48+k)=(j-(48+k)-1)+1 by omega]
   simp only[Yyk,Yw2,Yu3,Ywl]
   rw[show 48+k+1+(j-(48+k)-1)=j by omega]
   by_cases h3:j<256
   ·rw[Zic h3,Zic h3];congr 3;rw[eq_iff_iff];omega
   ·rw[Yva (by rw[Zdu];omega),Yva (by rw[Zdu];omega)]
def Yet(k:Nat):(Zof k).take 256=Zof k:=Yuy (by rw[Zdu];omega)
def Yiv(j k:Nat):splice (Zof j) 0 (Zof k)=Zof k:=by
 unfold splice;rw[Zdu,Ywe (by rw[Zdu];omega)];simp
attribute [simp] Zdu Zxi Yet Yiv
def Zb8(s:Str):Bool:=s.all Zkt
def Ysp:Str:=[48,49,50,51,52,53,54,55,56,57]
def Yid(hk:k<10):∃c,Ysp[k]?=some c∧u8I c=48+k:=by
 have:k=0∨k=1∨k=2∨k=3∨k=4∨k=5∨k=6∨k=7∨k=8∨k=9:=by omega
 rcases this with rfl|rfl|rfl|rfl|rfl|rfl|rfl|rfl|rfl|rfl<;>exact⟨_,rfl,rfl⟩
def Zd9{n:Int}(h1:0≤n)(h2:n<256):Zao .u8 n=n:=by
 rw[Zdi]
 simp[IntKind.wrap,IntKind.bits,IntKind.signed]
 omega
def Zje{n:Int}(h1: -9223372036854775808≤n)(h2:n<9223372036854775808):IntKind.wrap .i64 n=n:=by
 simp[IntKind.wrap,IntKind.bits,IntKind.signed]
 omega
def Zhg(l:Str)(c:UInt8):numV (l++[c])=10*numV l+(c.toNat-48):=by simp[numV]
def Zng{c:UInt8}(h:s[k]?=some c):numV (s.take (k+1))=10*numV (s.take k)+(c.toNat-48):=by
 rw[Yw0,h]
 simp only[Option.toList,Zhg]
def Zkp(h:Zb8 s=true){k:Nat}{c:UInt8}(hc:s[k]?=some c):48≤u8I c∧u8I c≤57:=by
 unfold Zb8 at h
 rw[Yvk]at h
 have:=h c (Yux hc)
 rw[Yd2]at this
 simpa using this
def Zqg{s:Str}(h:Zb8 s=true):∀k,k≤s.length→numV (s.take k)<10^k
 |0,_=>by simp[numV]
 |k+1,hk=>by
  obtain⟨c,hc⟩:=Zaf (l:=s) (k:=k) (by omega)
  have h1:=Zqg h k (by omega)
  have h2:=Zkp h hc
  unfold u8I at h2
  rw[Zng hc,Yvm]
  omega
def Zed(h:Zb8 s=true):numV s<10^s.length:=by
 have:=Zqg h s.length (Yus _)
 rwa [Yxc]at this
def Zwa{a b:Nat}(h:a≤b):10^a≤10^b:=Yvs (by decide) h
def Yix(h:k<9223372036854775808):Zdq .and .i64 (k:Int) 1=some (.int .i64 ((k%2:Nat):Int)):=by
 show some (V.int .i64 (IntKind.wrap .i64 (BitVec.ofInt 64 (k:Int)&&& BitVec.ofInt 64 1).toNat))=_
 have e:(BitVec.ofInt 64 1).toNat=2^1-1:=by decide
 rw[BitVec.toNat_and,Zjy k (by omega),e,Nat.and_two_pow_sub_one_eq_mod,Zje (by omega) (by omega)]
def Yf1:Zg2 .shr .i64 (k:Int) 1=some (.int .i64 ((k/2:Nat):Int)):=by
 unfold Zg2
 have e:min (1:Int).toNat (IntKind.bits .i64)=1:=by decide
 rw[Yur (by decide),e]
 simp only[Yup,V.int.injEq,true_and]
 rw[Int.fdiv_eq_ediv_of_nonneg _ (by decide)]
 rfl
variable {N i:Nat} {h:T O} {k v:V}
def Keeps.new{h1:T O}{n n1:Nat}(k:Keeps h n h1 n1)(o:O):Keeps h n (h1.set n1 o) (n1+1):=(k.set k.le).up (Yxt _)
abbrev FnV(C:Cx)(f:V)(args:List V)(h:T O)(n:Nat)(P:V→T O→Nat→Prop):Prop:=∀w,Call C f args ⟨h,n,w⟩ (Ret P h n w)
def Zgh{C:Cx}{f args h n w P K Q}(hf:FnV C f args h n P)(k:∀v h' n',Keeps h n h' n'→P v h' n'→Run C K (some (.val v ⟨h',n',w⟩)) Q):Run C K (Zq0 (C.call f args ⟨h,n,w⟩)) Q:=
 Zea (hf w) fun v st'=>by
  obtain⟨h',n',w'⟩:=st'
  rintro⟨rfl,hk,hp⟩
  exact k v h' n' hk hp
def Zct(p:Nat→Bool)(k:Nat):Nat→Int
 |0=> -1
 |m+1=>if p k=true then (k:Int) else Zct p (k+1) m
def Zns{p:Nat→Bool}:∀{m k:Nat},(0≤Zct p k m↔∃j,k≤j∧j<k+m∧p j=true)
 |0,k=>by simp[Zct];intro j h1 h2;omega
 |m+1,k=>by
  simp only[Zct]
  by_cases h:p k=true
  ·rw[Yuu h];exact⟨fun _=>⟨k,Yus _,by omega,h⟩,fun _=>by omega⟩
  ·rw[Yur h,Zns (m:=m) (k:=k+1)]
   constructor
   ·rintro⟨j,h1,h2,h3⟩;exact⟨j,by omega,by omega,h3⟩
   ·rintro⟨j,h1,h2,h3⟩
    refine⟨j,?_,by omega,h3⟩
    have:j≠k:=fun hj=>h (hj▸h3)
    omega
def SlF(v:V):Prop:=v=.nilslice∨v=.empty∨∃i o n c z,v=.slice i o n c z
def Sl.form{l:List V}(s:Sl h N v l):SlF v:=by
 rcases s with⟨_,h|h⟩|⟨i,o,cp,c,e,rw,h,_⟩
 ·exact .inl h
 ·exact .inr (.inl h)
 ·exact .inr (.inr ⟨_,_,_,_,_,h⟩)
def SlF.one(h:SlF v):V.one v=true:=by
 rcases h with rfl|rfl|⟨_,_,_,_,_,rfl⟩<;>rfl
def SlF.cells(h:SlF v):V.cells v=[v]:=by
 rcases h with rfl|rfl|⟨_,_,_,_,_,rfl⟩<;>rfl
def strs(l:List Str):List V:=l.map .str
def Zbl(l:List Str):(strs l).length=l.length:=by simp[strs]
def Zff{l:List Str}{j:Nat}{n:Str}(h:l[j]?=some n):(strs l)[j]?=some (.str n):=by simp[strs,h]
attribute [simp] Zbl
def Yrd(s:Stg)(inp:V):List V:=[.str s.name,.str s.op,.str s.factor,inp,.int .i64 s.cost]
def Gr(h:T O)(N:Nat)(v:V)(g:List Stg):Prop:=∃l:List (List V),Sn 5 h N v l∧l.length=g.length∧∀(j:Nat) (s:Stg),g[j]?=some s→∃inp,l[j]?=some (Yrd s inp)∧Sl h N inp (strs s.inputs)
def Gr.keep{h':T O}{N':Nat}{g:List Stg}(s:Gr h N v g)(k:Keeps h N h' N'):Gr h' N' v g:=by
 obtain⟨l,h1,h2,h3⟩:=s
 refine⟨l,h1.keep k,h2,fun j s hs=>?_⟩
 obtain⟨inp,h4,h5⟩:=h3 j s hs
 exact⟨inp,h4,h5.keep k⟩
def Gr.at{g:List Stg}(s:Gr h N v g){j:Nat}{x:Stg}(hj:g[j]?=some x):∃i o c e rw inp,Zlb v=some (i,o)∧i<N∧h.get i=some (.cells c e rw)∧slc c (o+j*5) 5=some (Yrd x inp)∧Sl h N inp (strs x.inputs):=by
 obtain⟨l,h1,h2,h3⟩:=s
 obtain⟨inp,h4,h5⟩:=h3 j x hj
 obtain⟨i,o,c,e,rw,q1,q2,q3,q4⟩:=h1.at h4
 exact⟨i,o,c,e,rw,inp,q1,q2,q3,q4,h5⟩
def Gr.slice{g:List Stg}{w:List Nat}(s:Gr h N v g){lo hi:Nat}(h1:lo≤hi)(h2:hi≤g.length)(x y:Option V)(hx:x=some (.int .i64 lo)∨x=none∧lo=0)(hy:y=some (.int .i64 hi)∨y=none∧hi=g.length):
  ∃v',Zcy ⟨h,N,w⟩ 5 (some v) (some x) (some y) (some none)=some (v',⟨h,N,w⟩)∧Gr h N v' ((g.take hi).drop lo):=by
 obtain⟨l,g1,g2,g3⟩:=s
 obtain⟨v',e1,e2⟩:=Ya2 (z:=5) (w:=w) (by decide) g1 h1 (by omega) x y hx (by rw[g2];exact hy)
 refine⟨v',e1,(l.take hi).drop lo,e2,by simp[g2],fun j s hs=>?_⟩
 have hj:lo+j<hi:=by
  apply Yv5;intro hc
  rw[Yu3,Yvi,Yur (by omega)]at hs;cases hs
 rw[Yu3,Yvi,Yuu hj]at hs
 obtain⟨inp,q1,q2⟩:=g3 _ s hs
 exact⟨inp,by rw[Yu3,Yvi,Yuu hj];exact q1,q2⟩
def Yre{a b c d e:V}:slc [a,b,c,d,e] 0 5=some [a,b,c,d,e]:=rfl
def Yrf{a b:V}:slc [a,b] 0 2=some [a,b]:=rfl
attribute [simp] Yre Yrf
def Ymg(st:St)(zero:V)(ok:Bool):Option (Option (Nat×V))→Option (V×St)
 |some (some (_,v))=>some (if ok then .tup [v,.bool true] else v,st)
 |some none=>some (if ok then .tup [zero,.bool false] else zero,st)
 |none=>none
def Zr9(st:St)(kd:Zjc)(zero:V)(ok:Bool)(k:V):Option O→Option (V×St)
 |some (.map es)=>Ymg st zero ok (findV kd k es 0)
 |_=>none
def Yhl(st:St)(kd:Zjc)(zero:V)(ok:Bool):Option V→Option V→Option (V×St)
 |some (.map i),some k=>if kd.fits k=true then Zr9 st kd zero ok k (st.h.get i) else none
 |some .nilmap,some k=>if kd.fits k=true then Ymg st zero ok (some none) else none
 |_,_=>none
def Zub{kd:Zjc}{zero:V}{m k:Src}{ok:Bool}{call:Za1}{r:T V}{st:St}:Ze8 kd zero m k ok call r st=Yhl st kd zero ok (m.ev r) (k.ev r):=by
 unfold Ze8 Yhl
 rcases m.ev r with _|m
 ·rfl
 ·rcases k.ev r with _|k
  ·cases m<;>rfl
  ·cases m<;>simp only[]<;>(try (by_cases hf:kd.fits k=true<;>simp[hf]))<;>try rfl
   ·rename_i i
    rcases st.h.get i with _|o
    ·rfl
    ·cases o<;>simp only[Zr9]
     rename_i es
     rcases findV kd k es 0 with _|_|⟨_,_⟩<;>rfl
def Ycz{st:St}{zero:V}{ok:Bool}{s:Str}:Yhl st .str zero ok (some (.map i)) (some (.str s))=Zr9 st .str zero ok (.str s) (st.h.get i):=rfl
def Znl{st:St}{kd:Zjc}{zero:V}{ok:Bool}{es:List (V×V)}:Zr9 st kd zero ok k (some (.map es))=Ymg st zero ok (findV kd k es 0):=rfl
attribute [simp] Zub Ycz Znl Zh3
def Yce(st:St)(i:Nat)(k v:V)(es:List (V×V)):Option (Option (Nat×V))→Option (V×St)
 |some (some (j,_))=>some (.tup [],st.write i (.map (es.set j (k,v))))
 |some none=>some (.tup [],st.write i (.map (es++[(k,v)])))
 |none=>none
def Zpf(st:St)(kd:Zjc)(i:Nat)(k v:V):Option O→Option (V×St)
 |some (.map es)=>Yce st i k v es (findV kd k es 0)
 |_=>none
def msetK(st:St)(kd:Zjc):Option V→Option V→Option V→Option (V×St)
 |some (.map i),some k,some v=>if kd.fits k=true then Zpf st kd i k v (st.h.get i) else none
 |_,_,_=>none
def Zua{kd:Zjc}{m k v:Src}{call:Za1}{r:T V}{st:St}:Zek kd m k v call r st=msetK st kd (m.ev r) (k.ev r) (v.ev r):=by
 unfold Zek msetK
 rcases m.ev r with _|m
 ·rfl
 ·rcases k.ev r with _|k
  ·cases m<;>rfl
  ·rcases v.ev r with _|v
   ·cases m<;>rfl
   ·cases m with
    |map i=>
     simp only[]
     by_cases hf:kd.fits k=true
     ·simp only[hf,if_true]
      rcases st.h.get i with _|o
      ·rfl
      ·cases o<;>simp only[Zpf]
       rename_i es
       rcases findV kd k es 0 with _|_|⟨_,_⟩<;>rfl
     ·simp[hf]
    |_=>rfl
def Ycf{st:St}{s:Str}:msetK st .str (some (.map i)) (some (.str s)) (some v)=Zpf st .str i (.str s) v (st.h.get i):=rfl
def Zuj{st:St}{kd:Zjc}{es:List (V×V)}:Zpf st kd i k v (some (.map es))=Yce st i k v es (findV kd k es 0):=rfl
def Zyg{st:St}{es:List (V×V)}:Yce st i k v es (some none)=some (.tup [],st.write i (.map (es++[(k,v)]))):=rfl
attribute [simp] Zua Ycf Zuj Zyg
def Keeps.then{h h1 h2:T O}{n n1 n2:Nat}(a:Keeps h n h1 n1)(b:Keeps h1 n h2 n2):Keeps h n h2 n2:=⟨b.le,fun i hi=>(b.get i hi).trans (a.get i hi)⟩
def Zfk(l:List Int):List (List V):=l.map fun x=>[.int .i64 x]
def Zdn(l:List Int):(Zfk l).length=l.length:=by simp[Zfk]
def Zk0:∀(l:List Int),(Zfk l).flatten=dI l
 |[]=>rfl
 |x::l=>by
  have:=Zk0 l
  simp only[Zfk,Yvq,List.flatten_cons,dI]at this ⊢
  rw[this];rfl
def Zde(l:List Int)(x:Int):Zfk (l++[x])=Zfk l++[[.int .i64 x]]:=by simp[Zfk]
def Own.sl{e:TypeId}{N0:Nat}{h:T O}{N:Nat}{v:V}{l:List Int}(s:Own 1 e N0 h N v (Zfk l)):Sl h N v (dI l):=by
 have:=s.sn
 have e1:Zfk l=(dI l).map fun x=>[x]:=by simp[Zfk,dI]
 rw[e1]at this
 exact Sn.one.1 this
structure Ys2 (g:List Stg):Prop where
 le:g.length≤16
 name:∀(j:Nat) (s:Stg),g[j]?=some s→j≤pos (g.take j) s.name
 inp:∀(j:Nat) (s:Stg),g[j]?=some s→∀n∈s.inputs,pos (g.take j) n<j
 cost:∀s∈g,1≤s.cost∧s.cost≤1000
variable {N:Nat} {h:T O}
def Cp(h:T O)(N:Nat)(v:V)(l:List V):Prop:=∃j c,v=.slice j 0 l.length c 1∧j<N∧h.get j=some (.cells l 9 true)∧∀k,c=some k→l.length≤k
def Cp.keep{h':T O}{N':Nat}{v:V}{l:List V}(s:Cp h N v l)(k:Keeps h N h' N'):Cp h' N' v l:=by
 obtain⟨j,c,h1,h2,h3,h4⟩:=s
 exact⟨j,c,h1,Yu0 h2 k.le,(k.get j h2).trans h3,h4⟩
def Ya0{w:List Nat}{v:V}{l:List V}(s:Sl h N v l):Zat ⟨h,N,w⟩ 1 v=some (l.length,l):=by
 rcases s with⟨rfl,rfl|rfl⟩|⟨i,o,cp,c,e,rw,rfl,h2,h3,h4,h5,h6⟩
 ·rfl
 ·rfl
 ·simp only[Zat,if_true,St.row,h3,Yxn]
  have:slc c o l.length=some l:=by
   unfold slc
   rw[Yuu h5]
   congr 1
   apply Yv0
   intro j
   rw[Yvi]
   by_cases hj:j<l.length
   ·rw[Yuu hj,Yu3];exact h4 j hj
   ·rw[Yur hj,Yva (by omega)]
  rw[this]
def PgA(h:T O)(N0 N:Nat)(u:V)(g:List Stg)(k:Nat):Prop:=∃l:List (List V),Own 5 126 N0 h N u l∧l.length=k∧∀(j:Nat) (s:Stg),j<k→g[j]?=some s→∃inp,l[j]?=some (Yrd s inp)∧Cp h N inp (strs s.inputs)
def PgA.keep{h':T O}{N0 N':Nat}{u:V}{g:List Stg}{k:Nat}(s:PgA h N0 N u g k)(kk:Keeps h N h' N'):PgA h' N0 N' u g k:=by
 obtain⟨l,h1,h2,h3⟩:=s
 refine⟨l,h1.keep kk,h2,fun j s hj hs=>?_⟩
 obtain⟨inp,h4,h5⟩:=h3 j s hj hs
 exact⟨inp,h4,h5.keep kk⟩
def Sl.setInt{h:T O}{N:Nat}{v:V}{l:List Int}{i:Nat}{c0 c1:List V}{e0 e1:TypeId}{w0 w1:Bool}(s:Sl h N v (dI l))(hr:h.get i=some (.cells c0 e0 w0))(hn:∀x∈c0,∀k n,x≠.int k n)(hc:c1.length=c0.length):Sl (h.set i (.cells c1 e1 w1)) N v (dI l):=by
 rcases s with s|⟨j,o,cp,c,e,rw,h1,h2,h3,h4,h5,h6⟩
 ·exact .inl s
 ·by_cases hj:j=i
  ·subst hj
   rw[hr]at h3
   simp only[Yup,O.cells.injEq]at h3
   obtain⟨rfl,rfl,rfl⟩:=h3
   cases l with
   |nil=>exact .inr ⟨j,o,cp,c1,e1,w1,h1,h2,by rw[T.get_set];simp,fun k hk=>by simp[dI]at hk,by rw[hc];exact h5,h6⟩
   |cons d l=>
    have:=h4 0 (by simp[dI])
    simp only[dI,Yvq,Ywm]at this
    exact absurd rfl (hn _ (Yux this) .i64 d)
  ·exact .inr ⟨j,o,cp,c,e,rw,h1,h2,by rw[T.get_set,Yur hj];exact h3,h4,h5,h6⟩
open Go Go.Proofs
set_option maxRecDepth 1000000
noncomputable abbrev A.F(n:Nat):=Zlx Tryz.prog n
def mv(a b:Nat):Zbd:=⟨some a,.mov (.tmp b),none⟩
def mc(a:Nat)(n:Int):Zbd:=⟨some a,.mov (.const (.int .i64 n)),none⟩
def ia(a z x i:Nat):Zbd:=⟨some a,.iaddrSl z (.tmp x) (.tmp i),none⟩
def ld(a x:Nat):Zbd:=⟨some a,.load none (.tmp x),none⟩
def xt(a x i:Nat):Zbd:=⟨some a,.extract (.tmp x) i,none⟩
def bi(a:Nat)(o:BinOp)(x y:Nat):Zbd:=⟨some a,.bin o (.node []) false (.tmp x) (.tmp y),none⟩
def bc(a:Nat)(o:BinOp)(x:Nat)(n:Int):Zbd:=⟨some a,.bin o (.node []) false (.tmp x) (.const (.int .i64 n)),none⟩
def ln(a x:Nat):Zbd:=⟨some a,.len 1 (.tmp x),none⟩
def so(a x:Nat):Zbd:=⟨none,.store 1 (.tmp a) (.tmp x),none⟩
def c1(a f x:Nat):Zbd:=⟨some a,.call (.const (.func f [] [])) [.tmp x],none⟩
def c2(a f x y:Nat):Zbd:=⟨some a,.call (.const (.func f [] [])) [.tmp x,.tmp y],none⟩
def lN(a n x:Nat):Zbd:=⟨some a,.load (some n) (.tmp x),none⟩
def fa(a o x:Nat):Zbd:=⟨some a,.faddr o (.tmp x),none⟩
def pf(a x y:Nat):Zbd:=⟨some a,.pick (.tmp x) (.tmp y) (.const (.bool false)),none⟩
def pt(a x y:Nat):Zbd:=⟨some a,.pick (.tmp x) (.const (.bool true)) (.tmp y),none⟩
def ei(a x:Nat)(n:Int):Zbd:=⟨some a,.bin .eql (.prim .int) true (.tmp x) (.const (.int .i64 n)),none⟩
def ni(a x:Nat)(n:Int):Zbd:=⟨some a,.bin .neq (.prim .int) true (.tmp x) (.const (.int .i64 n)),none⟩
def mN(a:Nat):Zbd:=⟨some a,.mov (.const .nilslice),none⟩
def bx(a e x:Nat):Zbd:=⟨some a,.box e (.tmp x),none⟩
def mg(a x g:Nat):Zbd:=⟨some a,.mov (.tmp x),some (g,true)⟩
def mh(a x g:Nat):Zbd:=⟨some a,.mov (.tmp x),some (g,false)⟩
def sr(l:List Zbd)(c:Zaw):Zaw:=.seq (.reg l) c
def cd(x:Nat)(a b:Zaw):Zaw:=.cond (.tmp x) a b
def ge(a:Nat)(o:MOp):Zbd:=⟨some a,o,none⟩
def gn(o:MOp):Zbd:=⟨none,o,none⟩
def gy(a g:Nat)(o:MOp):Zbd:=⟨some a,o,some (g,true)⟩
def gz(a g:Nat)(o:MOp):Zbd:=⟨some a,o,some (g,false)⟩
abbrev tq(x:Nat):Src:=.tmp x
abbrev kq(n:Int):Src:=.const (.int .i64 n)
abbrev fq(f:Nat):Src:=.const (.func f [] [])
attribute [simp] Ywm Yw2 mv mc ia ld xt bi bc ln so c1 c2 lN fa pf pt ei ni mN bx mg mh sr cd ge gn gy gz
def A.p10:O:=.cells (([1,10,100,1000,10000,100000,1000000,10000000,100000000,1000000000,10000000000,100000000000,1000000000000,10000000000000,100000000000000,1000000000000000,10000000000000000,100000000000000000,1000000000000000000,10000000000000000000]:List Int).map fun z=>.int .u64 z) 275 false
def A.TB:List (Nat×O):=[(5,A.p10)]
noncomputable def A.C:Cx:=⟨Zx8 A.TB [⟨6,[],.bool true⟩],Zlx Tryz.prog⟩
def A.t:A.C.tbl=Zlx Tryz.prog:=rfl
def A.x0{f:Nat}{a c args:List V}{st:St}(h:Nat.beq 6 f=false):A.C.x (.func f a c) args st=none:=by
 show Zx8 A.TB [⟨6,[],.bool true⟩] (.func f a c) args st=none
 unfold Zx8
 split
 ·rename_i heq
  simp only[V.func.injEq]at heq
  obtain⟨rfl,rfl,rfl⟩:=heq
  simp only[Zx7,h]
 ·rfl
noncomputable def Ysr(P:Program)(fn:Func):Zaw:=match fn.body with
 |some c=>Zcw P c
 |none=>.skip
def Zlm:Zaw→List Zaw
 |.seq a b=>Zlm a++Zlm b
 |.cond _ a b=>Zlm a++Zlm b
 |.block _ a=>Zlm a
 |.scope a=>Zlm a
 |.loop a=>a::Zlm a
 |_=>[]
def Zso:List Zaw→Zaw→Zaw×List Zaw
 |ls,.seq a b=>match Zso ls a with
  |(a,ls)=>match Zso ls b with
   |(b,ls)=>(.seq a b,ls)
 |ls,.cond s a b=>match Zso ls a with
  |(a,ls)=>match Zso ls b with
   |(b,ls)=>(.cond s a b,ls)
 |ls,.block k a=>match Zso ls a with
  |(a,ls)=>(.block k a,ls)
 |ls,.scope a=>match Zso ls a with
  |(a,ls)=>(.scope a,ls)
 |l::ls,.loop _=>(.loop l,ls)
 |ls,c=>(c,ls)
@[simp] noncomputable def A.q (f:Func) {b:Zaw} (_h:Ysr Tryz.prog f=b:=by conv=>lhs;cbv):Zaw:=b
@[simp] noncomputable def A.ql (w:Zaw) (i:Nat) (ls:List Zaw) {b:Zaw} (_h:(Zso ls ((Zlm w)[i]?.getD .skip)).1=b:=by conv=>lhs;cbv):Zaw:=b
@[simp] noncomputable def A.qb (w:Zaw) (ls:List Zaw) {b:Zaw} (_h:(Zso ls w).1=b:=by conv=>lhs;cbv):Zaw:=b
def A.kk{n k:Nat}{res:List Yoh}{b:Zaw}(hc:Zlx Tryz.prog n=some ⟨k,res,b⟩)(hx:Nat.beq 6 n=false){K:List Kf}{Q:Rs→Prop}{f c args:List V}{st:St}(h:(f++args++c).length≤k):Run A.C K (Zq0 (A.C.call (.func n f c) args st)) Q↔Run A.C (.fin res st::K) (exR (A.C.code none b ⟨Zen .nil 0 (f++args++c),k,[]⟩ ⟨st.h,st.n,[]⟩)) Q:=Yga (A.x0 (f:=n) hx) (mf:=⟨k,res,b⟩) (by rw[A.t];exact hc) h
def A.known{h:T O}{N:Nat}{w:List Nat}(hp:h.get 5=some A.p10):A.C.call (.func 6 [] []) [] ⟨h,N,w⟩=some (.bool true,⟨h,N,w⟩):=by
 have hq:oEq (h.get 5) A.p10=true:=by rw[hp];decide+kernel
 have hi:Zli ⟨h,N,w⟩ A.TB=true:=by
  show (match oEq (h.get 5) A.p10 with|true=>true|false=>false)=true
  rw[hq]
 have hx:A.C.x (.func 6 [] []) [] ⟨h,N,w⟩=some (.bool true,⟨h,N,w⟩):=by
  show (match Zli ⟨h,N,w⟩ A.TB with|true=>some (V.bool true,(⟨h,N,w⟩:St))|false=>none)=_
  rw[hi]
 rw[Cx.call_eq]
 unfold Zeh
 rw[hx]
end Go.Mx
