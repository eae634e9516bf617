/-Characters of a string, one after the ot-/
import Derived.Test.YtalhlaaapkpkiaaGreatDoorMxWord
set_option linter.all false
namespace Go.Mx
open Go
variable {i:Nat} {j:Int} {k:IntKind} {r:T V} {s:Str} {x:Src}
def Yij{p:Nat}{c:UInt8}(h:s[p]?=some c):(ByteArray.mk s.toArray).get! p=c:=by
 obtain⟨hp,he⟩:=Yuc.1 h
 show s.toArray[p]! =c
 simp[hp,he]
def Yox{p:Nat}{c:UInt8}(h:s[p]?=some c)(hc:c.toNat<128):Utf8.decode ⟨s.toArray⟩ p=(c.toNat,1):=by
 unfold Utf8.decode
 simp only[Yue,Yij h]
 rw[Ys8 hc]
def Yoy{p:Nat}{c:UInt8}(h:s[p]?=some c)(hc:128≤c.toNat):128≤(Utf8.decode ⟨s.toArray⟩ p).1:=by
 unfold Utf8.decode
 simp only[Yue,Yij h,Utf8.runeError]
 rw[Ys5 (by omega)]
 split
 ·split
  ·rename_i h;exact h
  ·exact(by decide)
 ·split
  ·split
   ·rename_i h;simp at h;show 128≤_;omega
   ·exact(by decide)
  ·split
   ·split
    ·rename_i h;simp at h;show 128≤_;omega
    ·exact(by decide)
   ·exact(by decide)
def Zmy(s:Str)(p:Nat):Int:=(Utf8.decode ⟨s.toArray⟩ p).1
def Yfo(s:Str)(p:Nat):Nat:=(Utf8.decode ⟨s.toArray⟩ p).2
def Ykh{p:Nat}{c:UInt8}(h:s[p]?=some c)(hc:u8I c<128):Zmy s p=u8I c∧Yfo s p=1:=by
 unfold Zmy Yfo
 rw[Yox h (by unfold u8I at hc;omega)]
 exact⟨rfl,rfl⟩
def Yki{p:Nat}{c:UInt8}(h:s[p]?=some c)(hc:128≤u8I c):128≤Zmy s p:=by
 unfold Zmy
 have:=Yoy h (by unfold u8I at hc;omega)
 omega
def Zni(i:Nat)(st:St):Option (Str×Nat)→Option (V×St)
 |some (s,p)=>if p<s.length then some (.tup [.bool true,.int .i64 p,.int .i32 (Utf8.decode ⟨s.toArray⟩ p).1],st.write i (.siter s (p+(Utf8.decode ⟨s.toArray⟩ p).2))) else some (.tup [.bool false],st)
 |none=>none
def Zvv:Option O→Option (Str×Nat)
 |some (.siter s p)=>some (s,p)
 |_=>none
def Yk4(st:St):Option V→Option (V×St)
 |some (.ptr i 0)=>Zni i st (Zvv (st.h.get i))
 |_=>none
def Zrj{call:Za1}{st:St}:Zdz x call r st=Yk4 st (x.ev r):=by
 unfold Zdz Yk4
 rcases x.ev r with _|v
 ·rfl
 ·cases v<;>try rfl
  rename_i i o
  cases o with
  |zero=>
   simp only[Zvv,Zni]
   rcases st.h.get i with _|o
   ·rfl
   ·cases o<;>rfl
  |succ=>rfl
def Zyf{st:St}:Yk4 st (some (.ptr i 0))=Zni i st (Zvv (st.h.get i)):=rfl
def Ztm{p:Nat}:Zvv (some (.siter s p))=some (s,p):=rfl
def Yb1{st:St}{p:Nat}(h:p<s.length):Zni i st (some (s,p))=some (.tup [.bool true,.int .i64 p,.int .i32 (Zmy s p)],st.write i (.siter s (p+Yfo s p))):=by simp[Zni,h,Zmy,Yfo]
def Zyg{st:St}:Zni i st (some (s,s.length))=some (.tup [.bool false],st):=by simp[Zni]
def Zdk(st:St):Option V→Option (Option V)→Option (Option V)→Option (V×St)
 |some (.str s),some lo,some hi=>match Zaw hi s.length s.length with
   |some h=>match Zaw lo h 0 with
    |some l=>some (.str ((s.take h).drop l),st)
    |none=>none
   |none=>none
 |_,_,_=>none
def Zp9{lo hi:Option Src}{call:Za1}{st:St}:Zbj x lo hi call r st=Zdk st (x.ev r) (evOpt r lo) (evOpt r hi):=by
 unfold Zbj Zdk;rfl
def Zfe{st:St}(h0:0≤j)(h1:j≤s.length):Zdk st (some (.str s)) (some (some (.int k j))) (some none)=some (.str (s.drop j.toNat),st):=by
 simp[Zdk,Zaw,Zd6,h0,h1]
def Zou{st:St}(h0:0≤j)(h1:j≤s.length):Zdk st (some (.str s)) (some none) (some (some (.int k j)))=some (.str (s.take j.toNat),st):=by
 simp[Zdk,Zaw,Zd6,h0,h1]
def Zot{st:St}{k':IntKind}{i:Int}(h0:0≤i)(h1:i≤j)(h2:j≤s.length):Zdk st (some (.str s)) (some (some (.int k i))) (some (some (.int k' j)))=some (.str ((s.take j.toNat).drop i.toNat),st):=by
 have h3:0≤j:=by omega
 have h4:max j 0=j:=by omega
 simp[Zdk,Zaw,Zd6,h0,h1,h2,h3,h4]
def Zn3(s:Str):List V:=s.map fun b=>.int .u8 (u8I b)
def Zzy(s:Str):(Zn3 s).length=s.length:=by simp[Zn3]
def Zzz{k:Nat}{c:UInt8}(h:s[k]?=some c):(Zn3 s)[k]?=some (.int .u8 (u8I c)):=by simp[Zn3,h]
def sbK(elem:TypeId)(st:St):Option V→Option (V×St)
 |some (.str s)=>some (.slice st.n 0 s.length none 1,st.alloc (.cells (Zn3 s) elem true))
 |_=>none
def Zp8{elem:TypeId}{call:Za1}{st:St}:Zcj elem x call r st=sbK elem st (x.ev r):=by
 unfold Zcj sbK;rfl
def Yfn{elem:TypeId}{st:St}:sbK elem st (some (.str s))=some (.slice st.n 0 s.length none 1,st.alloc (.cells (Zn3 s) elem true)):=rfl
attribute [simp] Zp8 Yfn Zzy Zrj Zyf Ztm Yb1 Zyg Zp9 Zfe Zou Zot Zc5
def Zj1:∀(s:Str) (i:Nat),Ziu 47 s i=if slashAt s<s.length then ((i+slashAt s:Nat):Int) else -1
 |[],i=>rfl
 |c::s,i=>by
  simp only[Ziu,slashAt]
  have e:(c==47)=decide (c.toNat=47):=by
   rw[Bool.eq_iff_iff]
   simp only[beq_iff_eq,decide_eq_true_eq]
   exact⟨fun h=>by rw[h];rfl,fun h=>UInt8.toNat_inj.1 h⟩
  rw[e]
  by_cases h:c.toNat=47
  ·simp[h]
  ·simp only[h,decide_false,if_false,Ytj,Zj1 s (i+1),Ys4]
   by_cases h2:slashAt s<s.length
   ·rw[Ys8 h2,Ys8 (by omega)];omega
   ·rw[Ys5 h2,Ys5 (by omega)]
variable {d:Int} {j k n:Nat} {l:List Int}
def vI:List Int→Int
 |[]=>0
 |d::l=>d+1000000000*vI l
def pI(k:Nat):Int:=1000000000^k
def Zc4(k:Nat):pI (k+1)=1000000000*pI k:=by unfold pI;rw[Int.pow_succ,Int.mul_comm]
def Yky:pI 0=1:=rfl
def Zjr(k:Nat):0<pI k:=by unfold pI;exact Int.pow_pos (by decide)
def Zv7(i j:Nat):pI (i+j)=pI i*pI j:=by unfold pI;exact Int.pow_add ..
def Zmn:∀(l m:List Int),vI (l++m)=vI l+pI l.length*vI m
 |[],m=>by simp[vI,pI]
 |d::l,m=>by
  simp only[Yvj,vI,Zmn l m,Ys4,Zc4]
  grind
def Zfy(l:List Int)(d:Int):vI (l++[d])=vI l+pI l.length*d:=by simp[Zmn,vI]
def Zps(n:Nat):vI (List.replicate n 0)=0:=by
 induction n with
 |zero=>rfl
 |succ n ih=>simp[List.replicate_succ,vI,ih]
def Zat{α:Type}{l:List α}{d:α}(h:l[k]?=some d):k<l.length:=by
 apply Yuh;intro hc;rw[Ytn hc]at h;cases h
def Zba(h:l[k]?=some d):vI (l.take (k+1))=vI (l.take k)+pI k*d:=by
 have hk:=Zat h
 rw[Yug,h]
 simp only[Option.toList]
 rw[Zfy,Yth,Yud (by omega)]
def Zje(l:List Int)(k:Nat)(hk:k≤l.length):vI l=vI (l.take k)+pI k*vI (l.drop k):=by
 have:=Zmn (l.take k) (l.drop k)
 rw[Yva,Yth,Yud hk]at this
 exact this
def Zjf:∀{l:List Int} {k:Nat} {c:Int},l[k]?=some c→∀(v:Int),vI (l.set k v)=vI l+pI k*(v-c)
 |[],k,c,h,v=>by simp at h
 |d::l,0,c,h,v=>by
  simp at h;subst h
  simp only[List.set_cons_zero,vI,Yky];omega
 |d::l,k+1,c,h,v=>by
  have:=Zjf (l:=l) (k:=k) (c:=c) (by simpa using h) v
  simp only[List.set_cons_succ,vI,this,Zc4]
  grind
def Di(l:List Int):Prop:=∀d∈l,0≤d∧d<1000000000
def Di.get(h:Di l){k:Nat}{d:Int}(hd:l[k]?=some d):0≤d∧d<1000000000:=h d (Ys9 hd)
def Di.set(h:Di l){k:Nat}{v:Int}(h0:0≤v)(h1:v<1000000000):Di (l.set k v):=fun d hd=>by
 rcases Ywo hd with hd|rfl
 ·exact h d hd
 ·exact⟨h0,h1⟩
def Di.app{m:List Int}(h:Di l)(h':Di m):Di (l++m):=fun d hd=>by
 rcases Yty.1 hd with hd|hd
 ·exact h d hd
 ·exact h' d hd
def Di.one{v:Int}(h0:0≤v)(h1:v<1000000000):Di [v]:=fun d hd=>by simp at hd;subst hd;exact⟨h0,h1⟩
def Di.nil:Di []:=fun d hd=>by simp at hd
def Di.zeros(n:Nat):Di (List.replicate n 0):=fun d hd=>by rw[Ywi]at hd;rw[hd.2];decide
def Di.take(h:Di l)(k:Nat):Di (l.take k):=fun d hd=>h d (Yuk hd)
def Di.drop(h:Di l)(k:Nat):Di (l.drop k):=fun d hd=>h d (Ywp hd)
def Zig:∀{l:List Int},Di l→0≤vI l
 |[],_=>Int.le_refl _
 |d::l,h=>by
  have h1:=h d Yt2
  have h2:=Zig (l:=l) fun e he=>h e (Ytv _ he)
  simp only[vI];omega
def Zih:∀{l:List Int},Di l→vI l<pI l.length
 |[],_=>by decide
 |d::l,h=>by
  have h1:=h d Yt2
  have h2:=Zih (l:=l) fun e he=>h e (Ytv _ he)
  simp only[vI,Ys4,Zc4];omega
def zI(l:List Int)(j:Nat):Int:=l[j]?.getD 0
def Yjv(h:l[j]?=some d):zI l j=d:=by simp[zI,h]
def Zs6(h:l.length≤j):zI l j=0:=by simp[zI,h]
def Yjw{l:List Int}(h:Di l)(j:Nat):0≤zI l j∧zI l j<1000000000:=by
 unfold zI
 cases hj:l[j]? with
 |none=>simp
 |some d=>exact h.get hj
def Zmm{l:List Int}{k:Nat}:vI (l.take (k+1))=vI (l.take k)+pI k*zI l k:=by
 unfold zI
 cases h:l[k]? with
 |some d=>exact Zba h
 |none=>
  have hk:l.length≤k:=by
   apply Yu0;intro hc;rw[Yta hc]at h;cases h
  rw[Ytd (by omega),Ytd hk];simp
def Zap{α:Type}{l:List α}{d:α}(h:l[k]?=some d):l.drop k=d::l.drop (k+1):=by
 obtain⟨hk,hs⟩:=Yuc.1 h
 rw[←hs];exact Yvl hk
def dI(l:List Int):List V:=l.map fun n=>.int .i64 n
def Zas(l:List Int):(dI l).length=l.length:=by simp[dI]
def Zbf{n:Int}(h:l[j]?=some n):(dI l)[j]?=some (.int .i64 n):=by simp[dI,h]
attribute [simp] Zas
def Zic{v:Int}(h:k<l.length):splice (dI l) k [.int .i64 v]=dI (l.set k v):=by
 unfold splice dI
 apply Yt4
 intro j
 simp only[Yux,Ytb,List.getElem?_set]
 rw[Yum,List.getElem?_append,Yth,Ytr]
 by_cases h1:j<k
 ·rw[Ys8 (by omega),Ytk,Ys8 h1,Ytb,Ys5 (by omega)]
 ·rw[Ys5 (by omega)]
  by_cases h2:j=k
  ·subst h2
   rw[show j-min j l.length=0 by omega,Ys8 rfl,Ys8 h];rfl
  ·rw[show j-min k l.length=(j-k-1)+1 by omega,Ys5 (by omega)]
   simp only[Yw0,Yvd,Ytg,Ytb]
   rw[show k+1+(j-k-1)=j by omega]
def Zqn:Zkl [.int .i64 0] n=dI (List.replicate n 0):=by rw[Yih];simp[dI]
def Zf1:List Int→List Int
 |[]=>[]
 |d::l=>match Zf1 l with
  |[]=>if d=0 then [] else [d]
  |t=>d::t
def Zkp:∀(l:List Int),Zf1 (l++[0])=Zf1 l
 |[]=>rfl
 |d::l=>by simp only[Yvj,Zf1,Zkp l]
def Zor{d:Int}(hd:d≠0):∀(l:List Int),Zf1 (l++[d])=l++[d]
 |[]=>by simp[Zf1,hd]
 |e::l=>by
  simp only[Yvj,Zf1,Zor hd l]
  cases l<;>rfl
def Zq5:∀(l:List Int),(Zf1 l).length≤l.length
 |[]=>Ys6 _
 |d::l=>by
  have ih:=Zq5 l
  simp only[Zf1]
  split
  ·split<;>simp
  ·simp only[Ys4];omega
def ds(n:Nat):List Int:=if h:n=0 then [] else ((n%1000000000:Nat):Int)::ds (n/1000000000)
termination_by n
decreasing_by exact Yv2 (by omega) (by decide)
def Zcn:ds 0=[]:=by rw[ds];simp
def Zhd(h:n≠0):ds n=((n%1000000000:Nat):Int)::ds (n/1000000000):=by rw[ds];simp[h]
def Zbb:∀(n:Nat),vI (ds n)=n:=by
 intro n
 induction n using Nat.strongRecOn with
 |_ n ih=>
  by_cases h:n=0
  ·subst h;rw[Zcn];rfl
  ·rw[Zhd h]
   simp only[vI]
   rw[ih (n/1000000000) (Yv2 (by omega) (by decide))]
   omega
def Zcd(n:Nat):Di (ds n):=by
 induction n using Nat.strongRecOn with
 |_ n ih=>
  by_cases h:n=0
  ·subst h;rw[Zcn];exact Di.nil
  ·rw[Zhd h]
   intro d hd
   rcases Yt1.1 hd with rfl|hd
   ·omega
   ·exact ih (n/1000000000) (Yv2 (by omega) (by decide)) d hd
def Zpt:∀{l:List Int},Di l→Zf1 l=ds (vI l).toNat
 |[],_=>by simp[Zf1,vI,Zcn]
 |d::l,h=>by
  have hl:Di l:=fun e he=>h e (Ytv _ he)
  have ih:=Zpt hl
  have hd:=h d Yt2
  have hn:=Zig hl
  simp only[Zf1,vI,ih]
  by_cases h0:vI l=0
  ·rw[h0]
   simp only[Int.toNat_zero,Zcn,Int.mul_zero,Int.add_zero]
   by_cases hd0:d=0
   ·simp[hd0,Zcn]
   ·rw[Zhd (by omega),Yu7 (by omega),Yvk (by omega),Zcn];simp[hd0];omega
  ·have h3:(d+1000000000*vI l).toNat≠0:=by omega
   rw[Zhd h3]
   have h1:(d+1000000000*vI l).toNat/1000000000=(vI l).toNat:=by omega
   have h2:(((d+1000000000*vI l).toNat%1000000000:Nat):Int)=d:=by omega
   rw[h1,h2]
   split
   ·rename_i hc;rw[Zhd (by omega)]at hc;cases hc
   ·rfl
def Zf0(h:Di l){n:Nat}(hn:vI l=n):Zf1 l=ds n:=by rw[Zpt h,hn];rfl
def Ymc(n:Nat):Zf1 (ds n)=ds n:=Zf0 (Zcd n) (Zbb n)
def Zds:ds n=[]↔n=0:=by
 constructor
 ·intro h
  by_cases h0:n=0
  ·exact h0
  ·rw[Zhd h0]at h;cases h
 ·intro h;rw[h,Zcn]
def Ymd(h:n≠0):∃d,(ds n)[(ds n).length-1]?=some d∧0<d:=by
 have hne:ds n≠[]:=fun hc=>h (Zds.1 hc)
 obtain⟨l,d,hd⟩:∃l d,ds n=l++[d]:=⟨(ds n).dropLast,(ds n).getLast hne,(Ywf hne).symm⟩
 refine⟨d,by rw[hd,Ytu,Yux];simp,?_⟩
 have h1:=Zcd n d (by rw[hd];exact List.mem_append_right _ Yt2)
 have:d≠0:=fun h0=>by
  have h2:=Ymc n
  rw[hd,h0,Zkp]at h2
  have:=Zq5 l
  rw[h2]at this;simp at this;omega
 omega
def Zfp{n k:Nat}(h:n<1000000000^k):(ds n).length≤k:=by
 induction k generalizing n with
 |zero=>
  have:n=0:=by simpa using h
  rw[this,Zcn];simp
 |succ k ih=>
  by_cases h0:n=0
  ·rw[h0,Zcn];simp
  ·rw[Zhd h0]
   have:=ih (n:=n/1000000000) ((Ytx (by decide)).2 (by rw[←Ytw];exact h))
   simp only[Ys4];omega
def Dn(h:T O)(N:Nat)(v:V)(n:Nat):Prop:=Sl h N v (dI (ds n))
def Dn.keep{h h':T O}{N N':Nat}{v:V}(s:Dn h N v n)(k:Keeps h N h' N'):Dn h' N' v n:=Sl.keep s k
variable {w:List Int}
def Zut{P u1 u2 U' v1 v2 V' t r:Int}(hP:0<P)(hU':0≤U')(hu2:0≤u2)(hu1:0≤u1)(hv1:0<v1)(hv2:0≤v2)(hV0:0≤V')(hV':V'<P)(h0:0≤t)(ht:t≤1000000000)(hinv:u1=t*v1+r)(hc:t*v2≤r*1000000000+u2):
  (t-1)*(V'+P*(v2+1000000000*v1))≤U'+P*(u2+1000000000*u1):=by
 by_cases ht0:t=0
 ·subst ht0
  have h1:0≤P*(v2+1000000000*v1):=Yu2 (by omega) (by omega)
  have h2:0≤P*(u2+1000000000*u1):=Yu2 (by omega) (by omega)
  omega
 ·have h1:(t-1)*V'≤1000000000*P:=by
   have:(t-1)*V'≤1000000000*V':=Yut (by omega) hV0
   omega
  have h2:P*1≤P*v1:=Ytm (by omega) (by omega)
  have h3:P*(t*v2)≤P*(r*1000000000+u2):=Ytm hc (by omega)
  have h4:0≤P*v2:=Yu2 (by omega) hv2
  have h5:(t-1)*(V'+P*(v2+1000000000*v1))=(t-1)*V'+P*(t*v2)-P*v2+1000000000*(P*(t*v1))-1000000000*(P*v1):=by grind
  have h6:U'+P*(u2+1000000000*u1)=U'+P*(r*1000000000+u2)+1000000000*(P*(t*v1)):=by subst hinv;grind
  omega
def Ylw{P u1 u2 U' v1 v2 V' t r:Int}(hP:0<P)(hU':U'<P)(hV0:0≤V')(h0:0≤t)(hinv:u1=t*v1+r)(hc:r*1000000000+u2<t*v2):
  U'+P*(u2+1000000000*u1)<t*(V'+P*(v2+1000000000*v1)):=by
 have h1:0≤t*V':=Yu2 h0 hV0
 have h3:P*(r*1000000000+u2+1)≤P*(t*v2):=Ytm (by omega) (by omega)
 have h5:t*(V'+P*(v2+1000000000*v1))=t*V'+P*(t*v2)+1000000000*(P*(t*v1)):=by grind
 have h6:U'+P*(u2+1000000000*u1)=U'+P*(r*1000000000+u2+1)-P+1000000000*(P*(t*v1)):=by subst hinv;grind
 omega
def Ybz{x:Int}(h1:1≤x)(h2:x<1000000000):500000000≤x*(1000000000/(x+1)):=by
 have hd:(x+1)*(1000000000/(x+1))+1000000000%(x+1)=1000000000:=Yvo ..
 have hr:1000000000%(x+1)<x+1:=Yvv _ (by omega)
 have hr0:0≤1000000000%(x+1):=Ywc _ (by omega)
 generalize 1000000000/(x+1)=d at*
 generalize 1000000000%(x+1)=r at*
 have e:(x+1)*d=x*d+d:=by grind
 apply Yv6
 intro hc
 by_cases hx:x≤500000000
 ·have h3:500000000-x+1≤d:=by omega
  have h4:x*(500000000-x+1)≤x*d:=Ytm h3 (by omega)
  have h5:0≤(x-1)*(500000000-x):=Yu2 (by omega) (by omega)
  have h6:(x-1)*(500000000-x)=x*(500000000-x+1)-500000000:=by grind
  omega
 ·have h3:1≤d:=by
   apply Yv6;intro h
   have:d≤0:=by omega
   have:(x+1)*d≤0:=Int.mul_nonpos_of_nonneg_of_nonpos (by omega) this
   omega
  have h4:x*1≤x*d:=Ytm h3 (by omega)
  omega
def Zgu{m:Nat}(h:∀t,m≤t→t<w.length→w[t]?=some 0):vI w=vI (w.take m):=by
 by_cases hm:m≤w.length
 ·have h1:=Zje w m hm
  have h2:w.drop m=List.replicate (w.length-m) 0:=by
   apply Yt4
   intro t
   rw[Ytg,List.getElem?_replicate]
   by_cases ht:t<w.length-m
   ·rw[Ys8 ht];exact h _ (by omega) (by omega)
   ·rw[Ys5 ht];exact Ytn (by omega)
  rw[h2,Zps]at h1
  omega
 ·rw[Ytd (by omega)]
def Yjy{k:Nat}{a c d:Int}(ha:w[k]?=some a)(hc:w[k+1]?=some c)(hd:w[k+2]?=some d)(hz:∀t,k+3≤t→t<w.length→w[t]?=some 0):
  vI w=vI (w.take k)+pI k*(a+1000000000*(d*1000000000+c)):=by
 rw[Zgu hz,show k+3=(k+2)+1 by omega,Zba hd,Zba hc,Zba ha,Zc4 (k+1),Zc4 k]
 grind
def Yjz{k:Nat}{a c:Int}(ha:w[k]?=some a)(hc:w[k+1]?=some c)(hl:w.length=k+2):
  vI w=vI (w.take k)+pI k*(a+1000000000*c):=by
 have h1:vI w=vI (w.take (k+1+1)):=by rw[Ytd (by omega)]
 rw[h1,Zba hc,Zba ha,Zc4 k]
 grind
def Ye6{n:Nat}{t:Int}(hd:Di (w.take n))(ht:w[n]?=some t)(hz:∀j,n<j→j<w.length→w[j]?=some 0)(h1:vI w<pI n):(0≤vI w→t=0)∧(vI w<0→t<0):=by
 have hl:=Zat ht
 have h2:vI w=vI (w.take n)+pI n*t:=by
  rw[Zgu (m:=n+1) (fun j h1 h2=>hz j (by omega) h2),Zba ht]
 have h3:=Zig hd
 have h4:=Zih hd
 rw[Yth,Yud (by omega)]at h4
 have h5:=Zjr n
 constructor
 ·intro h
  have h6:¬t≤ -1:=fun hc=>by
   have:=Ytm hc (Yu8 h5)
   omega
  have h7:¬1≤t:=fun hc=>by
   have:=Ytm hc (Yu8 h5)
   omega
  omega
 ·intro h
  apply Ywr
  intro hc
  have:=Yu2 (Yu8 h5) hc
  omega
variable {N k:Nat} {s:Str}
def Yr4:(N=N+1)=False:=eq_false (by omega)
def Yrv:(N+1=N)=False:=eq_false (by omega)
def Ysm:(N+1<N)=False:=eq_false (by omega)
def Yr3:(N=N+1+1)=False:=eq_false (by omega)
def Yru:(N+1+1=N)=False:=eq_false (by omega)
def Ysl:(N+1+1<N)=False:=eq_false (by omega)
def Yr2:(N=N+1+1+1)=False:=eq_false (by omega)
def Yrt:(N+1+1+1=N)=False:=eq_false (by omega)
def Ysk:(N+1+1+1<N)=False:=eq_false (by omega)
def Yr1:(N=N+1+1+1+1)=False:=eq_false (by omega)
def Yrs:(N+1+1+1+1=N)=False:=eq_false (by omega)
def Ysj:(N+1+1+1+1<N)=False:=eq_false (by omega)
def Yr0:(N=N+1+1+1+1+1)=False:=eq_false (by omega)
def Yrr:(N+1+1+1+1+1=N)=False:=eq_false (by omega)
def Ysi:(N+1+1+1+1+1<N)=False:=eq_false (by omega)
def Yrz:(N=N+1+1+1+1+1+1)=False:=eq_false (by omega)
def Yrq:(N+1+1+1+1+1+1=N)=False:=eq_false (by omega)
def Ysh:(N+1+1+1+1+1+1<N)=False:=eq_false (by omega)
def Yry:(N=N+1+1+1+1+1+1+1)=False:=eq_false (by omega)
def Yrp:(N+1+1+1+1+1+1+1=N)=False:=eq_false (by omega)
def Ysg:(N+1+1+1+1+1+1+1<N)=False:=eq_false (by omega)
def Yrx:(N=N+1+1+1+1+1+1+1+1)=False:=eq_false (by omega)
def Yro:(N+1+1+1+1+1+1+1+1=N)=False:=eq_false (by omega)
def Ysf:(N+1+1+1+1+1+1+1+1<N)=False:=eq_false (by omega)
def Yrw:(N=N+1+1+1+1+1+1+1+1+1)=False:=eq_false (by omega)
def Yrn:(N+1+1+1+1+1+1+1+1+1=N)=False:=eq_false (by omega)
def Yse:(N+1+1+1+1+1+1+1+1+1<N)=False:=eq_false (by omega)
def Yqb:(N=N+1+1+1+1+1+1+1+1+1+1)=False:=eq_false (by omega)
def Yp5:(N+1+1+1+1+1+1+1+1+1+1=N)=False:=eq_false (by omega)
def Yqn:(N+1+1+1+1+1+1+1+1+1+1<N)=False:=eq_false (by omega)
def Yqa:(N=N+1+1+1+1+1+1+1+1+1+1+1)=False:=eq_false (by omega)
def Yp4:(N+1+1+1+1+1+1+1+1+1+1+1=N)=False:=eq_false (by omega)
def Yqm:(N+1+1+1+1+1+1+1+1+1+1+1<N)=False:=eq_false (by omega)
def Yp9:(N=N+1+1+1+1+1+1+1+1+1+1+1+1)=False:=eq_false (by omega)
def Yp3:(N+1+1+1+1+1+1+1+1+1+1+1+1=N)=False:=eq_false (by omega)
def Yql:(N+1+1+1+1+1+1+1+1+1+1+1+1<N)=False:=eq_false (by omega)
def Yp8:(N=N+1+1+1+1+1+1+1+1+1+1+1+1+1)=False:=eq_false (by omega)
def Yp2:(N+1+1+1+1+1+1+1+1+1+1+1+1+1=N)=False:=eq_false (by omega)
def Yqk:(N+1+1+1+1+1+1+1+1+1+1+1+1+1<N)=False:=eq_false (by omega)
def Yp7:(N=N+1+1+1+1+1+1+1+1+1+1+1+1+1+1)=False:=eq_false (by omega)
def Yp1:(N+1+1+1+1+1+1+1+1+1+1+1+1+1+1=N)=False:=eq_false (by omega)
def Yqj:(N+1+1+1+1+1+1+1+1+1+1+1+1+1+1<N)=False:=eq_false (by omega)
def Yp6:(N=N+1+1+1+1+1+1+1+1+1+1+1+1+1+1+1)=False:=eq_false (by omega)
def Yp0:(N+1+1+1+1+1+1+1+1+1+1+1+1+1+1+1=N)=False:=eq_false (by omega)
def Yqi:(N+1+1+1+1+1+1+1+1+1+1+1+1+1+1+1<N)=False:=eq_false (by omega)
attribute [simp] Yr4 Yrv Ysm Yr3 Yru Ysl Yr2 Yrt Ysk Yr1 Yrs Ysj Yr0 Yrr Ysi Yrz Yrq Ysh Yry Yrp Ysg Yrx Yro Ysf Yrw Yrn Yse Yqb Yp5 Yqn Yqa Yp4 Yqm Yp9 Yp3 Yql Yp8 Yp2 Yqk Yp7 Yp1 Yqj Yp6 Yp0 Yqi
def Ysd:(N<N+1)=True:=eq_true (by omega)
def Ysc:(N<N+1+1)=True:=eq_true (by omega)
def Ysb:(N<N+1+1+1)=True:=eq_true (by omega)
def Ysa:(N<N+1+1+1+1)=True:=eq_true (by omega)
def Yr9:(N<N+1+1+1+1+1)=True:=eq_true (by omega)
def Yr8:(N<N+1+1+1+1+1+1)=True:=eq_true (by omega)
def Yr7:(N<N+1+1+1+1+1+1+1)=True:=eq_true (by omega)
def Yr6:(N<N+1+1+1+1+1+1+1+1)=True:=eq_true (by omega)
def Yr5:(N<N+1+1+1+1+1+1+1+1+1)=True:=eq_true (by omega)
def Yqh:(N<N+1+1+1+1+1+1+1+1+1+1)=True:=eq_true (by omega)
def Yqg:(N<N+1+1+1+1+1+1+1+1+1+1+1)=True:=eq_true (by omega)
def Yqf:(N<N+1+1+1+1+1+1+1+1+1+1+1+1)=True:=eq_true (by omega)
def Yqe:(N<N+1+1+1+1+1+1+1+1+1+1+1+1+1)=True:=eq_true (by omega)
def Yqd:(N<N+1+1+1+1+1+1+1+1+1+1+1+1+1+1)=True:=eq_true (by omega)
def Yqc:(N<N+1+1+1+1+1+1+1+1+1+1+1+1+1+1+1)=True:=eq_true (by omega)
attribute [simp] Ysd Ysc Ysb Ysa Yr9 Yr8 Yr7 Yr6 Yr5 Yqh Yqg Yqf Yqe Yqd Yqc
def Call.eq{C:Cx}{g:V}{args:List V}{st st':St}{u:V}(h:Call C g args st (fun v s=>v=u∧s=st')):C.call g args st=some (u,st'):=by
 obtain⟨v,s,e,rfl,rfl⟩:=h.ex
 exact e
def Zqf{C:Cx}{K:List Kf}{Q:Rs→Prop}{fr:Fr}{st:St}{i j:Nat}(h:¬j=i):Run C (.block i::K) (some (.ex (.exit j) fr st)) Q↔Run C K (some (.ex (.exit j) fr st)) Q:=Zqg (by
 cases hb:Nat.beq j i with
 |false=>rfl
 |true=>exact absurd (Ywx hb) h)
attribute [simp] Zqf
def Zwp(c:Int):Bool:=decide (97≤c∧c≤122∨65≤c∧c≤90)
def Yoe(c:UInt8):Zwp (c.toNat:Int)=Ypk c:=by
 unfold Zwp Ypk
 rw[decide_eq_decide]
 omega
def Zam:List Int→Int
 |[]=>0
 |e::l=>if e=0 then Zam l else e
def Zag{α:Type}{l:List α}(h:k<l.length):∃d,l[k]?=some d:=⟨_,Yta h⟩
def Yi3(c:UInt8):Ypk c=Zwp (u8I c):=(Yoe c).symm
def Zsn(c:UInt8):Zj6 c=decide (48≤u8I c∧u8I c≤57):=by
 unfold Zj6 u8I;rw[decide_eq_decide];omega
def Ynh(c:UInt8):decide (c.toNat=95)=decide (u8I c=95):=by
 unfold u8I;rw[decide_eq_decide];omega
def Zoa(k:Nat):List V:=(List.range 256).map fun i=>.bool (decide (48≤i∧i<48+k))
def Zdu(k:Nat):(Zoa k).length=256:=by simp[Zoa]
def Zh2{i:Nat}(hi:i<256):(Zoa k)[i]?=some (.bool (decide (48≤i∧i<48+k))):=by simp[Zoa,hi]
def Zxf(k:Nat):(Zoa k).all V.one=true:=by simp[Zoa,V.one]
def Yh9(hk:k<10):splice (Zoa k) (48+k) [.bool true]=Zoa (k+1):=by
 apply Yt4
 intro j
 unfold splice
 rw[Yum,List.getElem?_append,Yth,Zdu,Yud (by omega)]
 by_cases h1:j<48+k
 ·rw[Ys8 h1,Ytk,Ys8 h1,Zh2 (by omega),Zh2 (by omega)]
  congr 3;rw[eq_iff_iff];omega
 ·rw[Ys5 h1]
  by_cases h2:j=48+k
  ·subst h2
   rw[Zh2 (by omega)]
   simp
  ·rw[show j-(48+k)=(j-(48+k)-1)+1 by omega]
   simp only[Yw0,Yvd,Ytg,Yux]
   rw[show 48+k+1+(j-(48+k)-1)=j by omega]
   by_cases h3:j<256
   ·rw[Zh2 h3,Zh2 h3];congr 3;rw[eq_iff_iff];omega
   ·rw[Ytn (by rw[Zdu];omega),Ytn (by rw[Zdu];omega)]
def Yek(k:Nat):(Zoa k).take 256=Zoa k:=Ytd (by rw[Zdu];omega)
def Yh8(j k:Nat):splice (Zoa j) 0 (Zoa k)=Zoa k:=by
 unfold splice;rw[Zdu,Yui (by rw[Zdu];omega)];simp
attribute [simp] Zdu Zxf Yek Yh8
def Zb7(s:Str):Bool:=s.all Zj6
def Yq1:Str:=[48,49,50,51,52,53,54,55,56,57]
def Yhp(hk:k<10):∃c,Yq1[k]?=some c∧u8I c=48+k:=by
 have:k=0∨k=1∨k=2∨k=3∨k=4∨k=5∨k=6∨k=7∨k=8∨k=9:=by omega
 rcases this with rfl|rfl|rfl|rfl|rfl|rfl|rfl|rfl|rfl|rfl<;>exact⟨_,rfl,rfl⟩
def Zd7{n:Int}(h1:0≤n)(h2:n<256):Zaq .u8 n=n:=by
 rw[Zdh]
 simp[IntKind.wrap,IntKind.bits,IntKind.signed]
 omega
def Zja{n:Int}(h1: -9223372036854775808≤n)(h2:n<9223372036854775808):IntKind.wrap .i64 n=n:=by
 simp[IntKind.wrap,IntKind.bits,IntKind.signed]
 omega
def Zg5(l:Str)(c:UInt8):numV (l++[c])=10*numV l+(c.toNat-48):=by simp[numV]
def Znh{c:UInt8}(h:s[k]?=some c):numV (s.take (k+1))=10*numV (s.take k)+(c.toNat-48):=by
 rw[Yug,h]
 simp only[Option.toList,Zg5]
def Zkh(h:Zb7 s=true){k:Nat}{c:UInt8}(hc:s[k]?=some c):48≤u8I c∧u8I c≤57:=by
 unfold Zb7 at h
 rw[Yt8]at h
 have:=h c (Ys9 hc)
 rw[Zsn]at this
 simpa using this
def Zqa{s:Str}(h:Zb7 s=true):∀k,k≤s.length→numV (s.take k)<10^k
 |0,_=>by simp[numV]
 |k+1,hk=>by
  obtain⟨c,hc⟩:=Zag (l:=s) (k:=k) (by omega)
  have h1:=Zqa h k (by omega)
  have h2:=Zkh h hc
  unfold u8I at h2
  rw[Znh hc,Ytw]
  omega
def Zea(h:Zb7 s=true):numV s<10^s.length:=by
 have:=Zqa h s.length (Ys6 _)
 rwa [Yuu]at this
def Zv9{a b:Nat}(h:a≤b):10^a≤10^b:=Yt6 (by decide) h
def Yib(h:k<9223372036854775808):Zdq .and .i64 (k:Int) 1=some (.int .i64 ((k%2:Nat):Int)):=by
 show some (V.int .i64 (IntKind.wrap .i64 (BitVec.ofInt 64 (k:Int)&&& BitVec.ofInt 64 1).toNat))=_
 have e:(BitVec.ofInt 64 1).toNat=2^1-1:=by decide
 rw[BitVec.toNat_and,Zjt k (by omega),e,Nat.and_two_pow_sub_one_eq_mod,Zja (by omega) (by omega)]
def Yfj:Zgp .shr .i64 (k:Int) 1=some (.int .i64 ((k/2:Nat):Int)):=by
 unfold Zgp
 have e:min (1:Int).toNat (IntKind.bits .i64)=1:=by decide
 rw[Ys5 (by decide),e]
 simp only[Ys3,V.int.injEq,true_and]
 rw[Int.fdiv_eq_ediv_of_nonneg _ (by decide)]
 rfl
variable {N i:Nat} {h:T O} {k v:V}
def Keeps.new{h1:T O}{n n1:Nat}(k:Keeps h n h1 n1)(o:O):Keeps h n (h1.set n1 o) (n1+1):=(k.set k.le).up (Yvz _)
abbrev FnV(C:Cx)(f:V)(args:List V)(h:T O)(n:Nat)(P:V→T O→Nat→Prop):Prop:=∀w,Call C f args ⟨h,n,w⟩ (Ret P h n w)
def Zgz{C:Cx}{f args h n w P K Q}(hf:FnV C f args h n P)(k:∀v h' n',Keeps h n h' n'→P v h' n'→Run C K (some (.val v ⟨h',n',w⟩)) Q):Run C K (Zqw (C.call f args ⟨h,n,w⟩)) Q:=
 Zd8 (hf w) fun v st'=>by
  obtain⟨h',n',w'⟩:=st'
  rintro⟨rfl,hk,hp⟩
  exact k v h' n' hk hp
def Zcl(p:Nat→Bool)(k:Nat):Nat→Int
 |0=> -1
 |m+1=>if p k=true then (k:Int) else Zcl p (k+1) m
def Zsi{p:Nat→Bool}:∀{m k:Nat},(0≤Zcl p k m↔∃j,k≤j∧j<k+m∧p j=true)
 |0,k=>by simp[Zcl];intro j h1 h2;omega
 |m+1,k=>by
  simp only[Zcl]
  by_cases h:p k=true
  ·rw[Ys8 h];exact⟨fun _=>⟨k,Ys6 _,by omega,h⟩,fun _=>by omega⟩
  ·rw[Ys5 h,Zsi (m:=m) (k:=k+1)]
   constructor
   ·rintro⟨j,h1,h2,h3⟩;exact⟨j,by omega,by omega,h3⟩
   ·rintro⟨j,h1,h2,h3⟩
    refine⟨j,?_,by omega,h3⟩
    have:j≠k:=fun hj=>h (hj▸h3)
    omega
def SlF(v:V):Prop:=v=.nilslice∨v=.empty∨∃i o n c z,v=.slice i o n c z
def Sl.form{l:List V}(s:Sl h N v l):SlF v:=by
 rcases s with⟨_,h|h⟩|⟨i,o,cp,c,e,rw,h,_⟩
 ·exact .inl h
 ·exact .inr (.inl h)
 ·exact .inr (.inr ⟨_,_,_,_,_,h⟩)
def SlF.one(h:SlF v):V.one v=true:=by
 rcases h with rfl|rfl|⟨_,_,_,_,_,rfl⟩<;>rfl
def SlF.cells(h:SlF v):V.cells v=[v]:=by
 rcases h with rfl|rfl|⟨_,_,_,_,_,rfl⟩<;>rfl
def strs(l:List Str):List V:=l.map .str
def Zbv(l:List Str):(strs l).length=l.length:=by simp[strs]
def Zb3{l:List Str}{j:Nat}{n:Str}(h:l[j]?=some n):(strs l)[j]?=some (.str n):=by simp[strs,h]
attribute [simp] Zbv
def Zb2(s:Stg)(inp:V):List V:=[.str s.name,.str s.op,.str s.factor,inp,.int .i64 s.cost]
def Gr(h:T O)(N:Nat)(v:V)(g:List Stg):Prop:=∃l:List (List V),Sn 5 h N v l∧l.length=g.length∧∀(j:Nat) (s:Stg),g[j]?=some s→∃inp,l[j]?=some (Zb2 s inp)∧Sl h N inp (strs s.inputs)
def Gr.keep{h':T O}{N':Nat}{g:List Stg}(s:Gr h N v g)(k:Keeps h N h' N'):Gr h' N' v g:=by
 obtain⟨l,h1,h2,h3⟩:=s
 refine⟨l,h1.keep k,h2,fun j s hs=>?_⟩
 obtain⟨inp,h4,h5⟩:=h3 j s hs
 exact⟨inp,h4,h5.keep k⟩
def Gr.len{g:List Stg}(s:Gr h N v g):Zo9 v=some g.length:=by
 obtain⟨l,h1,h2,h3⟩:=s
 rw[h1.len,h2]
def Gr.at{g:List Stg}(s:Gr h N v g){j:Nat}{x:Stg}(hj:g[j]?=some x):∃i o c e rw inp,Zlv v=some (i,o)∧i<N∧h.get i=some (.cells c e rw)∧slc c (o+j*5) 5=some (Zb2 x inp)∧Sl h N inp (strs x.inputs):=by
 obtain⟨l,h1,h2,h3⟩:=s
 obtain⟨inp,h4,h5⟩:=h3 j x hj
 obtain⟨i,o,c,e,rw,q1,q2,q3,q4⟩:=h1.at h4
 exact⟨i,o,c,e,rw,inp,q1,q2,q3,q4,h5⟩
def Gr.slice{g:List Stg}{w:List Nat}(s:Gr h N v g){lo hi:Nat}(h1:lo≤hi)(h2:hi≤g.length)(x y:Option V)(hx:x=some (.int .i64 lo)∨x=none∧lo=0)(hy:y=some (.int .i64 hi)∨y=none∧hi=g.length):
  ∃v',Zci ⟨h,N,w⟩ 5 (some v) (some x) (some y) (some none)=some (v',⟨h,N,w⟩)∧Gr h N v' ((g.take hi).drop lo):=by
 obtain⟨l,g1,g2,g3⟩:=s
 obtain⟨v',e1,e2⟩:=Zq9 (z:=5) (w:=w) (by decide) g1 h1 (by omega) x y hx (by rw[g2];exact hy)
 refine⟨v',e1,(l.take hi).drop lo,e2,by simp[g2],fun j s hs=>?_⟩
 have hj:lo+j<hi:=by
  apply Yuh;intro hc
  rw[Ytg,Ytk,Ys5 (by omega)]at hs;cases hs
 rw[Ytg,Ytk,Ys8 hj]at hs
 obtain⟨inp,q1,q2⟩:=g3 _ s hs
 exact⟨inp,by rw[Ytg,Ytk,Ys8 hj];exact q1,q2⟩
def Zms{c:List V}{o:Nat}{s:Stg}{inp:V}(h:slc c o 5=some (Zb2 s inp)):Zal c o (some 5)=some (.agg (Zb2 s inp))∧c[o]?=some (.str s.name)∧c[o+1]?=some (.str s.op)∧c[o+2]?=some (.str s.factor)∧c[o+3]?=some inp∧c[o+4]?=some (.int .i64 s.cost):=
 ⟨Ybk h,Zkq h (f:=0) (by omega),Zkq h (f:=1) (by omega),Zkq h (f:=2) (by omega),Zkq h (f:=3) (by omega),Zkq h (f:=4) (by omega)⟩
def Zpe{n:Str}:∀(g:List Stg) (k:Nat) {p:Nat→Bool},(∀(j:Nat) (s:Stg),g[j]?=some s→p (k+j)=decide (s.name=n))→Zcl p k g.length=if pos g n<g.length then ((k+pos g n:Nat):Int) else -1
 |[],k,p,_=>by simp[Zcl,pos]
 |s::g,k,p,h=>by
  have h0:=h 0 s rfl
  simp only[Yue]at h0
  have ih:=Zpe (n:=n) g (k+1) (p:=p) fun j s hs=>by
   rw[show k+1+j=k+(j+1) by omega];exact h (j+1) s (by simpa using hs)
  simp only[Ys4,Zcl,h0,pos,decide_eq_true_eq]
  by_cases hn:s.name=n
  ·simp[hn]
  ·simp only[hn,if_false,ih]
   by_cases h2:pos g n<g.length
   ·rw[Ys8 h2,Ys8 (by omega)];omega
   ·rw[Ys5 h2,Ys5 (by omega)]
def Ypv{a b c d e:V}:slc [a,b,c,d,e] 0 5=some [a,b,c,d,e]:=rfl
def Ypw{a b:V}:slc [a,b] 0 2=some [a,b]:=rfl
attribute [simp] Ypv Ypw
def Gr.form{g:List Stg}(s:Gr h N v g):SlF v:=by
 obtain⟨l,h1,_⟩:=s
 rcases h1 with⟨_,h|h⟩|⟨i,o,cp,c,e,rw,h,_⟩
 ·exact .inl h
 ·exact .inr (.inl h)
 ·exact .inr (.inr ⟨_,_,_,_,_,h⟩)
def Ycu(st:St)(zero:V)(ok:Bool):Option (Option (Nat×V))→Option (V×St)
 |some (some (_,v))=>some (if ok then .tup [v,.bool true] else v,st)
 |some none=>some (if ok then .tup [zero,.bool false] else zero,st)
 |none=>none
def Zwn(st:St)(kd:Zk5)(zero:V)(ok:Bool)(k:V):Option O→Option (V×St)
 |some (.map es)=>Ycu st zero ok (findV kd k es 0)
 |_=>none
def Ylp(st:St)(kd:Zk5)(zero:V)(ok:Bool):Option V→Option V→Option (V×St)
 |some (.map i),some k=>if kd.fits k=true then Zwn st kd zero ok k (st.h.get i) else none
 |some .nilmap,some k=>if kd.fits k=true then Ycu st zero ok (some none) else none
 |_,_=>none
def Zt3{kd:Zk5}{zero:V}{m k:Src}{ok:Bool}{call:Za1}{r:T V}{st:St}:Zez kd zero m k ok call r st=Ylp st kd zero ok (m.ev r) (k.ev r):=by
 unfold Zez Ylp
 rcases m.ev r with _|m
 ·rfl
 ·rcases k.ev r with _|k
  ·cases m<;>rfl
  ·cases m<;>simp only[]<;>(try (by_cases hf:kd.fits k=true<;>simp[hf]))<;>try rfl
   ·rename_i i
    rcases st.h.get i with _|o
    ·rfl
    ·cases o<;>simp only[Zwn]
     rename_i es
     rcases findV kd k es 0 with _|_|⟨_,_⟩<;>rfl
def Ycv{st:St}{zero:V}{ok:Bool}{s:Str}:Ylp st .str zero ok (some (.map i)) (some (.str s))=Zwn st .str zero ok (.str s) (st.h.get i):=rfl
def Zup{st:St}{kd:Zk5}{zero:V}{ok:Bool}{es:List (V×V)}:Zwn st kd zero ok k (some (.map es))=Ycu st zero ok (findV kd k es 0):=rfl
attribute [simp] Zt3 Ycv Zup Zhv
def Yla(st:St)(i:Nat)(k v:V)(es:List (V×V)):Option (Option (Nat×V))→Option (V×St)
 |some (some (j,_))=>some (.tup [],st.write i (.map (es.set j (k,v))))
 |some none=>some (.tup [],st.write i (.map (es++[(k,v)])))
 |none=>none
def Zwh(st:St)(kd:Zk5)(i:Nat)(k v:V):Option O→Option (V×St)
 |some (.map es)=>Yla st i k v es (findV kd k es 0)
 |_=>none
def msetK(st:St)(kd:Zk5):Option V→Option V→Option V→Option (V×St)
 |some (.map i),some k,some v=>if kd.fits k=true then Zwh st kd i k v (st.h.get i) else none
 |_,_,_=>none
def Zt2{kd:Zk5}{m k v:Src}{call:Za1}{r:T V}{st:St}:Zeg kd m k v call r st=msetK st kd (m.ev r) (k.ev r) (v.ev r):=by
 unfold Zeg msetK
 rcases m.ev r with _|m
 ·rfl
 ·rcases k.ev r with _|k
  ·cases m<;>rfl
  ·rcases v.ev r with _|v
   ·cases m<;>rfl
   ·cases m with
    |map i=>
     simp only[]
     by_cases hf:kd.fits k=true
     ·simp only[hf,if_true]
      rcases st.h.get i with _|o
      ·rfl
      ·cases o<;>simp only[Zwh]
       rename_i es
       rcases findV kd k es 0 with _|_|⟨_,_⟩<;>rfl
     ·simp[hf]
    |_=>rfl
def Yb4{st:St}{s:Str}:msetK st .str (some (.map i)) (some (.str s)) (some v)=Zwh st .str i (.str s) v (st.h.get i):=rfl
def Zud{st:St}{kd:Zk5}{es:List (V×V)}:Zwh st kd i k v (some (.map es))=Yla st i k v es (findV kd k es 0):=rfl
def Zyh{st:St}{es:List (V×V)}:Yla st i k v es (some none)=some (.tup [],st.write i (.map (es++[(k,v)]))):=rfl
attribute [simp] Zt2 Yb4 Zud Zyh
def Zl4{g:List Stg}{s:Stg}{o:Opn}{E4 E6:Int}(ho:opOf s.op=some o∨opOf s.op=none)(h4:opOf s.op=some o→E4=(Zct o s.factor:Nat))(h6:E6=if s.inputs.length<o.lo∨o.hi<s.inputs.length then 2 else 0):
  Zam [if Zgr s.name=false then 8 else 0,if 0≤Zh4 g s.name then 9 else 0,if opOf s.op=none then 13 else 0,E4,if 16<(s.inputs.length:Int) then 5 else 0,E6,if ∃x,x∈s.inputs∧g.length≤pos g x then 10 else 0,if s.cost<1∨1000<s.cost then 3 else 0]=(chkStage g s:Nat):=by
 have e2:(0≤Zh4 g s.name)↔pos g s.name<g.length:=by
  unfold Zh4;split<;>omega
 have e5:(16<(s.inputs.length:Int))↔16<s.inputs.length:=by omega
 have e7:(s.inputs.any (fun n=>decide (g.length≤pos g n))=true)↔∃x,x∈s.inputs∧g.length≤pos g x:=by simp
 unfold chkStage
 simp only[Zam,e2,e5,e7]
 by_cases c1:Zgr s.name=false
 ·simp[c1]
 by_cases c2:pos g s.name<g.length
 ·simp[c1,c2]
 rcases ho with ho|ho
 ·rw[ho]
  rw[h4 ho,h6]
  simp only[c1,c2,if_false,if_true]
  by_cases c4:Zct o s.factor=0
  ·by_cases c5:16<s.inputs.length
   ·simp[c4,c5]
   ·by_cases c6:s.inputs.length<o.lo∨o.hi<s.inputs.length
    ·simp[c4,c5,c6]
    ·by_cases c7:∃x,x∈s.inputs∧g.length≤pos g x
     ·simp[c4,c5,c6,c7]
     ·by_cases c8:s.cost<1∨1000<s.cost
      ·simp[c4,c5,c6,c7,c8]
      ·simp[c4,c5,c6,c7,c8]
  ·simp[c4]
 ·rw[ho];simp[c1,c2]
def Keeps.then{h h1 h2:T O}{n n1 n2:Nat}(a:Keeps h n h1 n1)(b:Keeps h1 n h2 n2):Keeps h n h2 n2:=⟨b.le,fun i hi=>(b.get i hi).trans (a.get i hi)⟩
def Ze8(l:List Int):List (List V):=l.map fun x=>[.int .i64 x]
def Zdn(l:List Int):(Ze8 l).length=l.length:=by simp[Ze8]
def Zkt:∀(l:List Int),(Ze8 l).flatten=dI l
 |[]=>rfl
 |x::l=>by
  have:=Zkt l
  simp only[Ze8,Yuq,List.flatten_cons,dI]at this ⊢
  rw[this];rfl
def Zdd(l:List Int)(x:Int):Ze8 (l++[x])=Ze8 l++[[.int .i64 x]]:=by simp[Ze8]
def Own.sl{e:TypeId}{N0:Nat}{h:T O}{N:Nat}{v:V}{l:List Int}(s:Own 1 e N0 h N v (Ze8 l)):Sl h N v (dI l):=by
 have:=s.sn
 have e1:Ze8 l=(dI l).map fun x=>[x]:=by simp[Ze8,dI]
 rw[e1]at this
 exact Sn.one.1 this
structure Yjq (g:List Stg):Prop where
 le:g.length≤16
 name:∀(j:Nat) (s:Stg),g[j]?=some s→j≤pos (g.take j) s.name
 inp:∀(j:Nat) (s:Stg),g[j]?=some s→∀n∈s.inputs,pos (g.take j) n<j
 cost:∀s∈g,1≤s.cost∧s.cost≤1000
def Zi4{g:List Stg}{s:Stg}(h:chkStage g s=0):g.length≤pos g s.name∧(∀n∈s.inputs,pos g n<g.length)∧1≤s.cost∧s.cost≤1000:=by
 unfold chkStage at h
 split at h
 ·cases h
 split at h
 ·cases h
 split at h
 ·cases h
 split at h
 ·rename_i h1;exact absurd h h1
 split at h
 ·cases h
 split at h
 ·cases h
 split at h
 ·cases h
 split at h
 ·cases h
 rename_i h1 h2 _ _ _ _ _ _ h3 h4
 refine⟨by omega,fun n hn=>?_,by omega,by omega⟩
 simp only[List.any_eq_true,decide_eq_true_eq,not_exists,not_and]at h3
 have:=h3 n hn
 omega
def Zu5:∀{t b:List Stg},Zqq b t=0→∀(j:Nat) (s:Stg),t[j]?=some s→chkStage (b++t.take j) s=0
 |[],_,_,j,s,h=>by simp at h
 |x::t,b,h,0,s,hs=>by
  simp only[Zqq]at h
  simp at hs;subst hs
  by_cases h0:chkStage b x=0
  ·simpa using h0
  ·rw[Ys8 h0]at h;exact absurd h h0
 |x::t,b,h,j+1,s,hs=>by
  simp only[Zqq]at h
  by_cases h0:chkStage b x=0
  ·rw[Ys5 (by simp[h0])]at h
   have:=Zu5 h j s (by simpa using hs)
   simpa using this
  ·rw[Ys8 h0]at h;exact absurd h h0
def Zu6{g:List Stg}(h:chkGraph g=0):Yjq g∧g≠[]:=by
 unfold chkGraph at h
 split at h
 ·cases h
 split at h
 ·cases h
 rename_i h1 h2
 have hk:=Zu5 h
 simp only[List.nil_append]at hk
 have hlen:∀(j:Nat) (s:Stg),g[j]?=some s→(g.take j).length=j:=fun j s hs=>by
  have:=Zat hs
  simp;omega
 refine⟨⟨by omega,fun j s hs=>?_,fun j s hs n hn=>?_,fun s hs=>?_⟩,fun h=>by rw[h]at h1;simp at h1⟩
 ·have:=(Zi4 (hk j s hs)).1;rw[hlen j s hs]at this;exact this
 ·have:=(Zi4 (hk j s hs)).2.1 n hn;rw[hlen j s hs]at this;exact this
 ·obtain⟨j,hj⟩:=Yvh hs
  exact(Zi4 (hk j s hj)).2.2
def Zv4:∀{g:List Stg} {n:Str} {j:Nat},pos (g.take j) n<(g.take j).length→pos g n=pos (g.take j) n
 |[],_,j,h=>by simp at h
 |x::g,n,0,h=>by simp at h
 |x::g,n,j+1,h=>by
  simp only[List.take_succ_cons,pos]at h ⊢
  by_cases hn:x.name=n
  ·simp[hn]
  ·simp only[hn,if_false,Ys4]at h ⊢
   rw[Zv4 (g:=g) (n:=n) (j:=j) (by omega)]
end Go.Mx
