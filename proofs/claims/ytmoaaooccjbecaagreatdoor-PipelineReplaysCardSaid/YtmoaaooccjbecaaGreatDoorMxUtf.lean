/-Characters of a string, one after the ot-/
import Derived.Test.YtmoaaooccjbecaaGreatDoorMxWord
set_option linter.all false
namespace Go.Mx
open Go
variable {i:Nat} {j:Int} {k:IntKind} {r:T V} {s:Str} {x:Src}
def Yim{p:Nat}{c:UInt8}(h:s[p]?=some c):(ByteArray.mk s.toArray).get! p=c:=by
 obtain⟨hp,he⟩:=Yui.1 h
 show s.toArray[p]! =c
 simp[hp,he]
def Yo8{p:Nat}{c:UInt8}(h:s[p]?=some c)(hc:c.toNat<128):Utf8.decode ⟨s.toArray⟩ p=(c.toNat,1):=by
 unfold Utf8.decode
 simp only[Yus,Yim h]
 rw[Ytg hc]
def Yo9{p:Nat}{c:UInt8}(h:s[p]?=some c)(hc:128≤c.toNat):128≤(Utf8.decode ⟨s.toArray⟩ p).1:=by
 unfold Utf8.decode
 simp only[Yus,Yim h,Utf8.runeError]
 rw[Yte (by omega)]
 split
 ·split
  ·rename_i h;exact h
  ·exact(by decide)
 ·split
  ·split
   ·rename_i h;simp at h;show 128≤_;omega
   ·exact(by decide)
  ·split
   ·split
    ·rename_i h;simp at h;show 128≤_;omega
    ·exact(by decide)
   ·exact(by decide)
def Zmp(s:Str)(p:Nat):Int:=(Utf8.decode ⟨s.toArray⟩ p).1
def Yfr(s:Str)(p:Nat):Nat:=(Utf8.decode ⟨s.toArray⟩ p).2
def Yki{p:Nat}{c:UInt8}(h:s[p]?=some c)(hc:u8I c<128):Zmp s p=u8I c∧Yfr s p=1:=by
 unfold Zmp Yfr
 rw[Yo8 h (by unfold u8I at hc;omega)]
 exact⟨rfl,rfl⟩
def Ykj{p:Nat}{c:UInt8}(h:s[p]?=some c)(hc:128≤u8I c):128≤Zmp s p:=by
 unfold Zmp
 have:=Yo9 h (by unfold u8I at hc;omega)
 omega
def Zm9(i:Nat)(st:St):Option (Str×Nat)→Option (V×St)
 |some (s,p)=>if p<s.length then some (.tup [.bool true,.int .i64 p,.int .i32 (Utf8.decode ⟨s.toArray⟩ p).1],st.write i (.siter s (p+(Utf8.decode ⟨s.toArray⟩ p).2))) else some (.tup [.bool false],st)
 |none=>none
def Zvv:Option O→Option (Str×Nat)
 |some (.siter s p)=>some (s,p)
 |_=>none
def Yk9(st:St):Option V→Option (V×St)
 |some (.ptr i 0)=>Zm9 i st (Zvv (st.h.get i))
 |_=>none
def Zrg{call:Za1}{st:St}:Zd5 x call r st=Yk9 st (x.ev r):=by
 unfold Zd5 Yk9
 rcases x.ev r with _|v
 ·rfl
 ·cases v<;>try rfl
  rename_i i o
  cases o with
  |zero=>
   simp only[Zvv,Zm9]
   rcases st.h.get i with _|o
   ·rfl
   ·cases o<;>rfl
  |succ=>rfl
def Zye{st:St}:Yk9 st (some (.ptr i 0))=Zm9 i st (Zvv (st.h.get i)):=rfl
def Zti{p:Nat}:Zvv (some (.siter s p))=some (s,p):=rfl
def Yb2{st:St}{p:Nat}(h:p<s.length):Zm9 i st (some (s,p))=some (.tup [.bool true,.int .i64 p,.int .i32 (Zmp s p)],st.write i (.siter s (p+Yfr s p))):=by simp[Zm9,h,Zmp,Yfr]
def Zyf{st:St}:Zm9 i st (some (s,s.length))=some (.tup [.bool false],st):=by simp[Zm9]
def Zcl(st:St):Option V→Option (Option V)→Option (Option V)→Option (V×St)
 |some (.str s),some lo,some hi=>match Zax hi s.length s.length with
   |some h=>match Zax lo h 0 with
    |some l=>some (.str ((s.take h).drop l),st)
    |none=>none
   |none=>none
 |_,_,_=>none
def Zp2{lo hi:Option Src}{call:Za1}{st:St}:Zbq x lo hi call r st=Zcl st (x.ev r) (evOpt r lo) (evOpt r hi):=by
 unfold Zbq Zcl;rfl
def Zd1{st:St}(h0:0≤j)(h1:j≤s.length):Zcl st (some (.str s)) (some (some (.int k j))) (some none)=some (.str (s.drop j.toNat),st):=by
 simp[Zcl,Zax,Zeb,h0,h1]
def Zkv{st:St}(h0:0≤j)(h1:j≤s.length):Zcl st (some (.str s)) (some none) (some (some (.int k j)))=some (.str (s.take j.toNat),st):=by
 simp[Zcl,Zax,Zeb,h0,h1]
def Zom{st:St}{k':IntKind}{i:Int}(h0:0≤i)(h1:i≤j)(h2:j≤s.length):Zcl st (some (.str s)) (some (some (.int k i))) (some (some (.int k' j)))=some (.str ((s.take j.toNat).drop i.toNat),st):=by
 have h3:0≤j:=by omega
 have h4:max j 0=j:=by omega
 simp[Zcl,Zax,Zeb,h0,h1,h2,h3,h4]
def Znw(s:Str):List V:=s.map fun b=>.int .u8 (u8I b)
def Zzz(s:Str):(Znw s).length=s.length:=by simp[Znw]
def Zz0{k:Nat}{c:UInt8}(h:s[k]?=some c):(Znw s)[k]?=some (.int .u8 (u8I c)):=by simp[Znw,h]
def sbK(elem:TypeId)(st:St):Option V→Option (V×St)
 |some (.str s)=>some (.slice st.n 0 s.length none 1,st.alloc (.cells (Znw s) elem true))
 |_=>none
def Zp1{elem:TypeId}{call:Za1}{st:St}:Zcm elem x call r st=sbK elem st (x.ev r):=by
 unfold Zcm sbK;rfl
def Yfp{elem:TypeId}{st:St}:sbK elem st (some (.str s))=some (.slice st.n 0 s.length none 1,st.alloc (.cells (Znw s) elem true)):=rfl
attribute [simp] Zp1 Yfp Zzz Zrg Zye Zti Yb2 Zyf Zp2 Zd1 Zkv Zom Zda
def Zka:∀(s:Str) (i:Nat),Ziy 47 s i=if slashAt s<s.length then ((i+slashAt s:Nat):Int) else -1
 |[],i=>rfl
 |c::s,i=>by
  simp only[Ziy,slashAt]
  have e:(c==47)=decide (c.toNat=47):=by
   rw[Bool.eq_iff_iff]
   simp only[beq_iff_eq,decide_eq_true_eq]
   exact⟨fun h=>by rw[h];rfl,fun h=>UInt8.toNat_inj.1 h⟩
  rw[e]
  by_cases h:c.toNat=47
  ·simp[h]
  ·simp only[h,decide_false,if_false,Ytr,Zka s (i+1),Ytd]
   by_cases h2:slashAt s<s.length
   ·rw[Ytg h2,Ytg (by omega)];omega
   ·rw[Yte h2,Yte (by omega)]
variable {d:Int} {j k n:Nat} {l:List Int}
def vI:List Int→Int
 |[]=>0
 |d::l=>d+1000000000*vI l
def pI(k:Nat):Int:=1000000000^k
def Zc9(k:Nat):pI (k+1)=1000000000*pI k:=by unfold pI;rw[Int.pow_succ,Int.mul_comm]
def Yk2:pI 0=1:=rfl
def Zj0(k:Nat):0<pI k:=by unfold pI;exact Int.pow_pos (by decide)
def Zv8(i j:Nat):pI (i+j)=pI i*pI j:=by unfold pI;exact Int.pow_add ..
def Zmh:∀(l m:List Int),vI (l++m)=vI l+pI l.length*vI m
 |[],m=>by simp[vI,pI]
 |d::l,m=>by
  simp only[Yvr,vI,Zmh l m,Ytd,Zc9]
  grind
def Zf5(l:List Int)(d:Int):vI (l++[d])=vI l+pI l.length*d:=by simp[Zmh,vI]
def Zpm(n:Nat):vI (List.replicate n 0)=0:=by
 induction n with
 |zero=>rfl
 |succ n ih=>simp[List.replicate_succ,vI,ih]
def Zar{α:Type}{l:List α}{d:α}(h:l[k]?=some d):k<l.length:=by
 apply Yun;intro hc;rw[Ytq hc]at h;cases h
def Zbe(h:l[k]?=some d):vI (l.take (k+1))=vI (l.take k)+pI k*d:=by
 have hk:=Zar h
 rw[Yt8,h]
 simp only[Option.toList]
 rw[Zf5,Ytu,Yuv (by omega)]
def Zjf(l:List Int)(k:Nat)(hk:k≤l.length):vI l=vI (l.take k)+pI k*vI (l.drop k):=by
 have:=Zmh (l.take k) (l.drop k)
 rw[Yvj,Ytu,Yuv hk]at this
 exact this
def Zjg:∀{l:List Int} {k:Nat} {c:Int},l[k]?=some c→∀(v:Int),vI (l.set k v)=vI l+pI k*(v-c)
 |[],k,c,h,v=>by simp at h
 |d::l,0,c,h,v=>by
  simp at h;subst h
  simp only[List.set_cons_zero,vI,Yk2];omega
 |d::l,k+1,c,h,v=>by
  have:=Zjg (l:=l) (k:=k) (c:=c) (by simpa using h) v
  simp only[List.set_cons_succ,vI,this,Zc9]
  grind
def Di(l:List Int):Prop:=∀d∈l,0≤d∧d<1000000000
def Di.get(h:Di l){k:Nat}{d:Int}(hd:l[k]?=some d):0≤d∧d<1000000000:=h d (Yti hd)
def Di.set(h:Di l){k:Nat}{v:Int}(h0:0≤v)(h1:v<1000000000):Di (l.set k v):=fun d hd=>by
 rcases List.mem_or_eq_of_mem_set hd with hd|rfl
 ·exact h d hd
 ·exact⟨h0,h1⟩
def Di.app{m:List Int}(h:Di l)(h':Di m):Di (l++m):=fun d hd=>by
 rcases Yt9.1 hd with hd|hd
 ·exact h d hd
 ·exact h' d hd
def Di.one{v:Int}(h0:0≤v)(h1:v<1000000000):Di [v]:=fun d hd=>by simp at hd;subst hd;exact⟨h0,h1⟩
def Di.nil:Di []:=fun d hd=>by simp at hd
def Di.zeros(n:Nat):Di (List.replicate n 0):=fun d hd=>by rw[Yws]at hd;rw[hd.2];decide
def Di.take(h:Di l)(k:Nat):Di (l.take k):=fun d hd=>h d (Yu3 hd)
def Di.drop(h:Di l)(k:Nat):Di (l.drop k):=fun d hd=>h d (Ywx hd)
def Zik:∀{l:List Int},Di l→0≤vI l
 |[],_=>Int.le_refl _
 |d::l,h=>by
  have h1:=h d Yuj
  have h2:=Zik (l:=l) fun e he=>h e (Yub _ he)
  simp only[vI];omega
def Zil:∀{l:List Int},Di l→vI l<pI l.length
 |[],_=>by decide
 |d::l,h=>by
  have h1:=h d Yuj
  have h2:=Zil (l:=l) fun e he=>h e (Yub _ he)
  simp only[vI,Ytd,Zc9];omega
def zI(l:List Int)(j:Nat):Int:=l[j]?.getD 0
def Yjy(h:l[j]?=some d):zI l j=d:=by simp[zI,h]
def Zs3(h:l.length≤j):zI l j=0:=by simp[zI,h]
def Yjz{l:List Int}(h:Di l)(j:Nat):0≤zI l j∧zI l j<1000000000:=by
 unfold zI
 cases hj:l[j]? with
 |none=>simp
 |some d=>exact h.get hj
def Zmg{l:List Int}{k:Nat}:vI (l.take (k+1))=vI (l.take k)+pI k*zI l k:=by
 unfold zI
 cases h:l[k]? with
 |some d=>exact Zbe h
 |none=>
  have hk:l.length≤k:=by
   apply Yu0;intro hc;rw[Ytj hc]at h;cases h
  rw[Yto (by omega),Yto hk];simp
def Zao{α:Type}{l:List α}{d:α}(h:l[k]?=some d):l.drop k=d::l.drop (k+1):=by
 obtain⟨hk,hs⟩:=Yui.1 h
 rw[←hs];exact Yvt hk
def dI(l:List Int):List V:=l.map fun n=>.int .i64 n
def Zat(l:List Int):(dI l).length=l.length:=by simp[dI]
def Zbl{n:Int}(h:l[j]?=some n):(dI l)[j]?=some (.int .i64 n):=by simp[dI,h]
attribute [simp] Zat
def Zif{v:Int}(h:k<l.length):splice (dI l) k [.int .i64 v]=dI (l.set k v):=by
 unfold splice dI
 apply Yua
 intro j
 simp only[Yu8,Ytl,List.getElem?_set]
 rw[Yuq,List.getElem?_append,Ytu,Ytx]
 by_cases h1:j<k
 ·rw[Ytg (by omega),Yt0,Ytg h1,Ytl,Yte (by omega)]
 ·rw[Yte (by omega)]
  by_cases h2:j=k
  ·subst h2
   rw[show j-min j l.length=0 by omega,Ytg rfl,Ytg h];rfl
  ·rw[show j-min k l.length=(j-k-1)+1 by omega,Yte (by omega)]
   simp only[Yw8,Yvm,Ytp,Ytl]
   rw[show k+1+(j-k-1)=j by omega]
def Zqg:Zkq [.int .i64 0] n=dI (List.replicate n 0):=by rw[Yik];simp[dI]
def Zf8:List Int→List Int
 |[]=>[]
 |d::l=>match Zf8 l with
  |[]=>if d=0 then [] else [d]
  |t=>d::t
def Zku:∀(l:List Int),Zf8 (l++[0])=Zf8 l
 |[]=>rfl
 |d::l=>by simp only[Yvr,Zf8,Zku l]
def Zok{d:Int}(hd:d≠0):∀(l:List Int),Zf8 (l++[d])=l++[d]
 |[]=>by simp[Zf8,hd]
 |e::l=>by
  simp only[Yvr,Zf8,Zok hd l]
  cases l<;>rfl
def Zqz:∀(l:List Int),(Zf8 l).length≤l.length
 |[]=>Ytf _
 |d::l=>by
  have ih:=Zqz l
  simp only[Zf8]
  split
  ·split<;>simp
  ·simp only[Ytd];omega
def ds(n:Nat):List Int:=if h:n=0 then [] else ((n%1000000000:Nat):Int)::ds (n/1000000000)
termination_by n
decreasing_by exact Ywc (by omega) (by decide)
def Zcq:ds 0=[]:=by rw[ds];simp
def Zhk(h:n≠0):ds n=((n%1000000000:Nat):Int)::ds (n/1000000000):=by rw[ds];simp[h]
def Zbi:∀(n:Nat),vI (ds n)=n:=by
 intro n
 induction n using Nat.strongRecOn with
 |_ n ih=>
  by_cases h:n=0
  ·subst h;rw[Zcq];rfl
  ·rw[Zhk h]
   simp only[vI]
   rw[ih (n/1000000000) (Ywc (by omega) (by decide))]
   omega
def Zcf(n:Nat):Di (ds n):=by
 induction n using Nat.strongRecOn with
 |_ n ih=>
  by_cases h:n=0
  ·subst h;rw[Zcq];exact Di.nil
  ·rw[Zhk h]
   intro d hd
   rcases Yt7.1 hd with rfl|hd
   ·omega
   ·exact ih (n/1000000000) (Ywc (by omega) (by decide)) d hd
def Zpn:∀{l:List Int},Di l→Zf8 l=ds (vI l).toNat
 |[],_=>by simp[Zf8,vI,Zcq]
 |d::l,h=>by
  have hl:Di l:=fun e he=>h e (Yub _ he)
  have ih:=Zpn hl
  have hd:=h d Yuj
  have hn:=Zik hl
  simp only[Zf8,vI,ih]
  by_cases h0:vI l=0
  ·rw[h0]
   simp only[Int.toNat_zero,Zcq,Int.mul_zero,Int.add_zero]
   by_cases hd0:d=0
   ·simp[hd0,Zcq]
   ·rw[Zhk (by omega),Yvg (by omega),Yvs (by omega),Zcq];simp[hd0];omega
  ·have h3:(d+1000000000*vI l).toNat≠0:=by omega
   rw[Zhk h3]
   have h1:(d+1000000000*vI l).toNat/1000000000=(vI l).toNat:=by omega
   have h2:(((d+1000000000*vI l).toNat%1000000000:Nat):Int)=d:=by omega
   rw[h1,h2]
   split
   ·rename_i hc;rw[Zhk (by omega)]at hc;cases hc
   ·rfl
def Zf7(h:Di l){n:Nat}(hn:vI l=n):Zf8 l=ds n:=by rw[Zpn h,hn];rfl
def Ymf(n:Nat):Zf8 (ds n)=ds n:=Zf7 (Zcf n) (Zbi n)
def Zdv:ds n=[]↔n=0:=by
 constructor
 ·intro h
  by_cases h0:n=0
  ·exact h0
  ·rw[Zhk h0]at h;cases h
 ·intro h;rw[h,Zcq]
def Ymg(h:n≠0):∃d,(ds n)[(ds n).length-1]?=some d∧0<d:=by
 have hne:ds n≠[]:=fun hc=>h (Zdv.1 hc)
 obtain⟨l,d,hd⟩:∃l d,ds n=l++[d]:=⟨(ds n).dropLast,(ds n).getLast hne,(Ywp hne).symm⟩
 refine⟨d,by rw[hd,Yt1,Yu8];simp,?_⟩
 have h1:=Zcf n d (by rw[hd];exact List.mem_append_right _ Yuj)
 have:d≠0:=fun h0=>by
  have h2:=Ymf n
  rw[hd,h0,Zku]at h2
  have:=Zqz l
  rw[h2]at this;simp at this;omega
 omega
def Zfy{n k:Nat}(h:n<1000000000^k):(ds n).length≤k:=by
 induction k generalizing n with
 |zero=>
  have:n=0:=by simpa using h
  rw[this,Zcq];simp
 |succ k ih=>
  by_cases h0:n=0
  ·rw[h0,Zcq];simp
  ·rw[Zhk h0]
   have:=ih (n:=n/1000000000) ((Yt6 (by decide)).2 (by rw[←Yt5];exact h))
   simp only[Ytd];omega
def Dn(h:T O)(N:Nat)(v:V)(n:Nat):Prop:=Sl h N v (dI (ds n))
def Dn.keep{h h':T O}{N N':Nat}{v:V}(s:Dn h N v n)(k:Keeps h N h' N'):Dn h' N' v n:=Sl.keep s k
variable {w:List Int}
def Zuo{P u1 u2 U' v1 v2 V' t r:Int}(hP:0<P)(hU':0≤U')(hu2:0≤u2)(hu1:0≤u1)(hv1:0<v1)(hv2:0≤v2)(hV0:0≤V')(hV':V'<P)(h0:0≤t)(ht:t≤1000000000)(hinv:u1=t*v1+r)(hc:t*v2≤r*1000000000+u2):
  (t-1)*(V'+P*(v2+1000000000*v1))≤U'+P*(u2+1000000000*u1):=by
 by_cases ht0:t=0
 ·subst ht0
  have h1:0≤P*(v2+1000000000*v1):=Yvd (by omega) (by omega)
  have h2:0≤P*(u2+1000000000*u1):=Yvd (by omega) (by omega)
  omega
 ·have h1:(t-1)*V'≤1000000000*P:=by
   have:(t-1)*V'≤1000000000*V':=Yu5 (by omega) hV0
   omega
  have h2:P*1≤P*v1:=Ytv (by omega) (by omega)
  have h3:P*(t*v2)≤P*(r*1000000000+u2):=Ytv hc (by omega)
  have h4:0≤P*v2:=Yvd (by omega) hv2
  have h5:(t-1)*(V'+P*(v2+1000000000*v1))=(t-1)*V'+P*(t*v2)-P*v2+1000000000*(P*(t*v1))-1000000000*(P*v1):=by grind
  have h6:U'+P*(u2+1000000000*u1)=U'+P*(r*1000000000+u2)+1000000000*(P*(t*v1)):=by subst hinv;grind
  omega
def Yl0{P u1 u2 U' v1 v2 V' t r:Int}(hP:0<P)(hU':U'<P)(hV0:0≤V')(h0:0≤t)(hinv:u1=t*v1+r)(hc:r*1000000000+u2<t*v2):
  U'+P*(u2+1000000000*u1)<t*(V'+P*(v2+1000000000*v1)):=by
 have h1:0≤t*V':=Yvd h0 hV0
 have h3:P*(r*1000000000+u2+1)≤P*(t*v2):=Ytv (by omega) (by omega)
 have h5:t*(V'+P*(v2+1000000000*v1))=t*V'+P*(t*v2)+1000000000*(P*(t*v1)):=by grind
 have h6:U'+P*(u2+1000000000*u1)=U'+P*(r*1000000000+u2+1)-P+1000000000*(P*(t*v1)):=by subst hinv;grind
 omega
def Yb0{x:Int}(h1:1≤x)(h2:x<1000000000):500000000≤x*(1000000000/(x+1)):=by
 have hd:(x+1)*(1000000000/(x+1))+1000000000%(x+1)=1000000000:=Yvw ..
 have hr:1000000000%(x+1)<x+1:=Yv6 _ (by omega)
 have hr0:0≤1000000000%(x+1):=Ywm _ (by omega)
 generalize 1000000000/(x+1)=d at*
 generalize 1000000000%(x+1)=r at*
 have e:(x+1)*d=x*d+d:=by grind
 apply Ywh
 intro hc
 by_cases hx:x≤500000000
 ·have h3:500000000-x+1≤d:=by omega
  have h4:x*(500000000-x+1)≤x*d:=Ytv h3 (by omega)
  have h5:0≤(x-1)*(500000000-x):=Yvd (by omega) (by omega)
  have h6:(x-1)*(500000000-x)=x*(500000000-x+1)-500000000:=by grind
  omega
 ·have h3:1≤d:=by
   apply Ywh;intro h
   have:d≤0:=by omega
   have:(x+1)*d≤0:=Int.mul_nonpos_of_nonneg_of_nonpos (by omega) this
   omega
  have h4:x*1≤x*d:=Ytv h3 (by omega)
  omega
def Zg0{m:Nat}(h:∀t,m≤t→t<w.length→w[t]?=some 0):vI w=vI (w.take m):=by
 by_cases hm:m≤w.length
 ·have h1:=Zjf w m hm
  have h2:w.drop m=List.replicate (w.length-m) 0:=by
   apply Yua
   intro t
   rw[Ytp,List.getElem?_replicate]
   by_cases ht:t<w.length-m
   ·rw[Ytg ht];exact h _ (by omega) (by omega)
   ·rw[Yte ht];exact Ytq (by omega)
  rw[h2,Zpm]at h1
  omega
 ·rw[Yto (by omega)]
def Yj1{k:Nat}{a c d:Int}(ha:w[k]?=some a)(hc:w[k+1]?=some c)(hd:w[k+2]?=some d)(hz:∀t,k+3≤t→t<w.length→w[t]?=some 0):
  vI w=vI (w.take k)+pI k*(a+1000000000*(d*1000000000+c)):=by
 rw[Zg0 hz,show k+3=(k+2)+1 by omega,Zbe hd,Zbe hc,Zbe ha,Zc9 (k+1),Zc9 k]
 grind
def Yj2{k:Nat}{a c:Int}(ha:w[k]?=some a)(hc:w[k+1]?=some c)(hl:w.length=k+2):
  vI w=vI (w.take k)+pI k*(a+1000000000*c):=by
 have h1:vI w=vI (w.take (k+1+1)):=by rw[Yto (by omega)]
 rw[h1,Zbe hc,Zbe ha,Zc9 k]
 grind
def Yfa{n:Nat}{t:Int}(hd:Di (w.take n))(ht:w[n]?=some t)(hz:∀j,n<j→j<w.length→w[j]?=some 0)(h1:vI w<pI n):(0≤vI w→t=0)∧(vI w<0→t<0):=by
 have hl:=Zar ht
 have h2:vI w=vI (w.take n)+pI n*t:=by
  rw[Zg0 (m:=n+1) (fun j h1 h2=>hz j (by omega) h2),Zbe ht]
 have h3:=Zik hd
 have h4:=Zil hd
 rw[Ytu,Yuv (by omega)]at h4
 have h5:=Zj0 n
 constructor
 ·intro h
  have h6:¬t≤ -1:=fun hc=>by
   have:=Ytv hc (Yvh h5)
   omega
  have h7:¬1≤t:=fun hc=>by
   have:=Ytv hc (Yvh h5)
   omega
  omega
 ·intro h
  apply Yv7
  intro hc
  have:=Yvd (Yvh h5) hc
  omega
variable {N k:Nat} {s:Str}
def Ysd:(N=N+1)=False:=eq_false (by omega)
def Yr4:(N+1=N)=False:=eq_false (by omega)
def Ysv:(N+1<N)=False:=eq_false (by omega)
def Ysc:(N=N+1+1)=False:=eq_false (by omega)
def Yr3:(N+1+1=N)=False:=eq_false (by omega)
def Ysu:(N+1+1<N)=False:=eq_false (by omega)
def Ysb:(N=N+1+1+1)=False:=eq_false (by omega)
def Yr2:(N+1+1+1=N)=False:=eq_false (by omega)
def Yst:(N+1+1+1<N)=False:=eq_false (by omega)
def Ysa:(N=N+1+1+1+1)=False:=eq_false (by omega)
def Yr1:(N+1+1+1+1=N)=False:=eq_false (by omega)
def Yss:(N+1+1+1+1<N)=False:=eq_false (by omega)
def Yr9:(N=N+1+1+1+1+1)=False:=eq_false (by omega)
def Yr0:(N+1+1+1+1+1=N)=False:=eq_false (by omega)
def Ysr:(N+1+1+1+1+1<N)=False:=eq_false (by omega)
def Yr8:(N=N+1+1+1+1+1+1)=False:=eq_false (by omega)
def Yrz:(N+1+1+1+1+1+1=N)=False:=eq_false (by omega)
def Ysq:(N+1+1+1+1+1+1<N)=False:=eq_false (by omega)
def Yr7:(N=N+1+1+1+1+1+1+1)=False:=eq_false (by omega)
def Yry:(N+1+1+1+1+1+1+1=N)=False:=eq_false (by omega)
def Ysp:(N+1+1+1+1+1+1+1<N)=False:=eq_false (by omega)
def Yr6:(N=N+1+1+1+1+1+1+1+1)=False:=eq_false (by omega)
def Yrx:(N+1+1+1+1+1+1+1+1=N)=False:=eq_false (by omega)
def Yso:(N+1+1+1+1+1+1+1+1<N)=False:=eq_false (by omega)
def Yr5:(N=N+1+1+1+1+1+1+1+1+1)=False:=eq_false (by omega)
def Yrw:(N+1+1+1+1+1+1+1+1+1=N)=False:=eq_false (by omega)
def Ysn:(N+1+1+1+1+1+1+1+1+1<N)=False:=eq_false (by omega)
def Yql:(N=N+1+1+1+1+1+1+1+1+1+1)=False:=eq_false (by omega)
def Yqf:(N+1+1+1+1+1+1+1+1+1+1=N)=False:=eq_false (by omega)
def Yqx:(N+1+1+1+1+1+1+1+1+1+1<N)=False:=eq_false (by omega)
def Yqk:(N=N+1+1+1+1+1+1+1+1+1+1+1)=False:=eq_false (by omega)
def Yqe:(N+1+1+1+1+1+1+1+1+1+1+1=N)=False:=eq_false (by omega)
def Yqw:(N+1+1+1+1+1+1+1+1+1+1+1<N)=False:=eq_false (by omega)
def Yqj:(N=N+1+1+1+1+1+1+1+1+1+1+1+1)=False:=eq_false (by omega)
def Yqd:(N+1+1+1+1+1+1+1+1+1+1+1+1=N)=False:=eq_false (by omega)
def Yqv:(N+1+1+1+1+1+1+1+1+1+1+1+1<N)=False:=eq_false (by omega)
def Yqi:(N=N+1+1+1+1+1+1+1+1+1+1+1+1+1)=False:=eq_false (by omega)
def Yqc:(N+1+1+1+1+1+1+1+1+1+1+1+1+1=N)=False:=eq_false (by omega)
def Yqu:(N+1+1+1+1+1+1+1+1+1+1+1+1+1<N)=False:=eq_false (by omega)
def Yqh:(N=N+1+1+1+1+1+1+1+1+1+1+1+1+1+1)=False:=eq_false (by omega)
def Yqb:(N+1+1+1+1+1+1+1+1+1+1+1+1+1+1=N)=False:=eq_false (by omega)
def Yqt:(N+1+1+1+1+1+1+1+1+1+1+1+1+1+1<N)=False:=eq_false (by omega)
def Yqg:(N=N+1+1+1+1+1+1+1+1+1+1+1+1+1+1+1)=False:=eq_false (by omega)
def Yqa:(N+1+1+1+1+1+1+1+1+1+1+1+1+1+1+1=N)=False:=eq_false (by omega)
def Yqs:(N+1+1+1+1+1+1+1+1+1+1+1+1+1+1+1<N)=False:=eq_false (by omega)
attribute [simp] Ysd Yr4 Ysv Ysc Yr3 Ysu Ysb Yr2 Yst Ysa Yr1 Yss Yr9 Yr0 Ysr Yr8 Yrz Ysq Yr7 Yry Ysp Yr6 Yrx Yso Yr5 Yrw Ysn Yql Yqf Yqx Yqk Yqe Yqw Yqj Yqd Yqv Yqi Yqc Yqu Yqh Yqb Yqt Yqg Yqa Yqs
def Ysm:(N<N+1)=True:=eq_true (by omega)
def Ysl:(N<N+1+1)=True:=eq_true (by omega)
def Ysk:(N<N+1+1+1)=True:=eq_true (by omega)
def Ysj:(N<N+1+1+1+1)=True:=eq_true (by omega)
def Ysi:(N<N+1+1+1+1+1)=True:=eq_true (by omega)
def Ysh:(N<N+1+1+1+1+1+1)=True:=eq_true (by omega)
def Ysg:(N<N+1+1+1+1+1+1+1)=True:=eq_true (by omega)
def Ysf:(N<N+1+1+1+1+1+1+1+1)=True:=eq_true (by omega)
def Yse:(N<N+1+1+1+1+1+1+1+1+1)=True:=eq_true (by omega)
def Yqr:(N<N+1+1+1+1+1+1+1+1+1+1)=True:=eq_true (by omega)
def Yqq:(N<N+1+1+1+1+1+1+1+1+1+1+1)=True:=eq_true (by omega)
def Yqp:(N<N+1+1+1+1+1+1+1+1+1+1+1+1)=True:=eq_true (by omega)
def Yqo:(N<N+1+1+1+1+1+1+1+1+1+1+1+1+1)=True:=eq_true (by omega)
def Yqn:(N<N+1+1+1+1+1+1+1+1+1+1+1+1+1+1)=True:=eq_true (by omega)
def Yqm:(N<N+1+1+1+1+1+1+1+1+1+1+1+1+1+1+1)=True:=eq_true (by omega)
attribute [simp] Ysm Ysl Ysk Ysj Ysi Ysh Ysg Ysf Yse Yqr Yqq Yqp Yqo Yqn Yqm
def Call.eq{C:Cx}{g:V}{args:List V}{st st':St}{u:V}(h:Call C g args st (fun v s=>v=u∧s=st')):C.call g args st=some (u,st'):=by
 obtain⟨v,s,e,rfl,rfl⟩:=h.ex
 exact e
def Zp8{C:Cx}{K:List Kf}{Q:Rs→Prop}{fr:Fr}{st:St}{i j:Nat}(h:¬j=i):Run C (.block i::K) (some (.ex (.exit j) fr st)) Q↔Run C K (some (.ex (.exit j) fr st)) Q:=Zp9 (by
 cases hb:Nat.beq j i with
 |false=>rfl
 |true=>exact absurd (Yw5 hb) h)
attribute [simp] Zp8
def Zwn(c:Int):Bool:=decide (97≤c∧c≤122∨65≤c∧c≤90)
def Yoq(c:UInt8):Zwn (c.toNat:Int)=Ypv c:=by
 unfold Zwn Ypv
 rw[decide_eq_decide]
 omega
def Zak:List Int→Int
 |[]=>0
 |e::l=>if e=0 then Zak l else e
def Zag{α:Type}{l:List α}(h:k<l.length):∃d,l[k]?=some d:=⟨_,Ytj h⟩
def Yi8(c:UInt8):Ypv c=Zwn (u8I c):=(Yoq c).symm
def Zsl(c:UInt8):Zke c=decide (48≤u8I c∧u8I c≤57):=by
 unfold Zke u8I;rw[decide_eq_decide];omega
def Ynn(c:UInt8):decide (c.toNat=95)=decide (u8I c=95):=by
 unfold u8I;rw[decide_eq_decide];omega
def Zn4(k:Nat):List V:=(List.range 256).map fun i=>.bool (decide (48≤i∧i<48+k))
def Zdx(k:Nat):(Zn4 k).length=256:=by simp[Zn4]
def Zh7{i:Nat}(hi:i<256):(Zn4 k)[i]?=some (.bool (decide (48≤i∧i<48+k))):=by simp[Zn4,hi]
def Zxb(k:Nat):(Zn4 k).all V.one=true:=by simp[Zn4,V.one]
def Yic(hk:k<10):splice (Zn4 k) (48+k) [.bool true]=Zn4 (k+1):=by
 apply Yua
 intro j
 unfold splice
 rw[Yuq,List.getElem?_append,Ytu,Zdx,Yuv (by omega)]
 by_cases h1:j<48+k
 ·rw[Ytg h1,Yt0,Ytg h1,Zh7 (by omega),Zh7 (by omega)]
  congr 3;rw[eq_iff_iff];omega
 ·rw[Yte h1]
  by_cases h2:j=48+k
  ·subst h2
   rw[Zh7 (by omega)]
   simp
  ·rw[show j-(48+k)=(j-(48+k)-1)+1 by omega]
   simp only[Yw8,Yvm,Ytp,Yu8]
   rw[show 48+k+1+(j-(48+k)-1)=j by omega]
   by_cases h3:j<256
   ·rw[Zh7 h3,Zh7 h3];congr 3;rw[eq_iff_iff];omega
   ·rw[Ytq (by rw[Zdx];omega),Ytq (by rw[Zdx];omega)]
def Yem(k:Nat):(Zn4 k).take 256=Zn4 k:=Yto (by rw[Zdx];omega)
def Yib(j k:Nat):splice (Zn4 j) 0 (Zn4 k)=Zn4 k:=by
 unfold splice;rw[Zdx,Yut (by rw[Zdx];omega)];simp
attribute [simp] Zdx Zxb Yem Yib
def Zcd(s:Str):Bool:=s.all Zke
def Yra:Str:=[48,49,50,51,52,53,54,55,56,57]
def Yht(hk:k<10):∃c,Yra[k]?=some c∧u8I c=48+k:=by
 have:k=0∨k=1∨k=2∨k=3∨k=4∨k=5∨k=6∨k=7∨k=8∨k=9:=by omega
 rcases this with rfl|rfl|rfl|rfl|rfl|rfl|rfl|rfl|rfl|rfl<;>exact⟨_,rfl,rfl⟩
def Zec{n:Int}(h1:0≤n)(h2:n<256):Zap .u8 n=n:=by
 rw[Zdm]
 simp[IntKind.wrap,IntKind.bits,IntKind.signed]
 omega
def Zjb{n:Int}(h1: -9223372036854775808≤n)(h2:n<9223372036854775808):IntKind.wrap .i64 n=n:=by
 simp[IntKind.wrap,IntKind.bits,IntKind.signed]
 omega
def Zhb(l:Str)(c:UInt8):numV (l++[c])=10*numV l+(c.toNat-48):=by simp[numV]
def Zm8{c:UInt8}(h:s[k]?=some c):numV (s.take (k+1))=10*numV (s.take k)+(c.toNat-48):=by
 rw[Yt8,h]
 simp only[Option.toList,Zhb]
def Zkm(h:Zcd s=true){k:Nat}{c:UInt8}(hc:s[k]?=some c):48≤u8I c∧u8I c≤57:=by
 unfold Zcd at h
 rw[Yue]at h
 have:=h c (Yti hc)
 rw[Zsl]at this
 simpa using this
def Zp3{s:Str}(h:Zcd s=true):∀k,k≤s.length→numV (s.take k)<10^k
 |0,_=>by simp[numV]
 |k+1,hk=>by
  obtain⟨c,hc⟩:=Zag (l:=s) (k:=k) (by omega)
  have h1:=Zp3 h k (by omega)
  have h2:=Zkm h hc
  unfold u8I at h2
  rw[Zm8 hc,Yt5]
  omega
def Zef(h:Zcd s=true):numV s<10^s.length:=by
 have:=Zp3 h s.length (Ytf _)
 rwa [Yuf]at this
def Zwa{a b:Nat}(h:a≤b):10^a≤10^b:=Yuh (by decide) h
def Yie(h:k<9223372036854775808):Zdt .and .i64 (k:Int) 1=some (.int .i64 ((k%2:Nat):Int)):=by
 show some (V.int .i64 (IntKind.wrap .i64 (BitVec.ofInt 64 (k:Int)&&& BitVec.ofInt 64 1).toNat))=_
 have e:(BitVec.ofInt 64 1).toNat=2^1-1:=by decide
 rw[BitVec.toNat_and,Zj2 k (by omega),e,Nat.and_two_pow_sub_one_eq_mod,Zjb (by omega) (by omega)]
def Yfl:Zgw .shr .i64 (k:Int) 1=some (.int .i64 ((k/2:Nat):Int)):=by
 unfold Zgw
 have e:min (1:Int).toNat (IntKind.bits .i64)=1:=by decide
 rw[Yte (by decide),e]
 simp only[Ytc,V.int.injEq,true_and]
 rw[Int.fdiv_eq_ediv_of_nonneg _ (by decide)]
 rfl
variable {N i:Nat} {h:T O} {k v:V}
def Keeps.new{h1:T O}{n n1:Nat}(k:Keeps h n h1 n1)(o:O):Keeps h n (h1.set n1 o) (n1+1):=(k.set k.le).up (Yv1 _)
abbrev FnV(C:Cx)(f:V)(args:List V)(h:T O)(n:Nat)(P:V→T O→Nat→Prop):Prop:=∀w,Call C f args ⟨h,n,w⟩ (Ret P h n w)
def Zg5{C:Cx}{f args h n w P K Q}(hf:FnV C f args h n P)(k:∀v h' n',Keeps h n h' n'→P v h' n'→Run C K (some (.val v ⟨h',n',w⟩)) Q):Run C K (Zqr (C.call f args ⟨h,n,w⟩)) Q:=
 Zed (hf w) fun v st'=>by
  obtain⟨h',n',w'⟩:=st'
  rintro⟨rfl,hk,hp⟩
  exact k v h' n' hk hp
def Za6(p:Nat→Bool)(k:Nat):Nat→Int
 |0=> -1
 |m+1=>if p k=true then (k:Int) else Za6 p (k+1) m
def Zsf{p:Nat→Bool}:∀{m k:Nat},(0≤Za6 p k m↔∃j,k≤j∧j<k+m∧p j=true)
 |0,k=>by simp[Za6];intro j h1 h2;omega
 |m+1,k=>by
  simp only[Za6]
  by_cases h:p k=true
  ·rw[Ytg h];exact⟨fun _=>⟨k,Ytf _,by omega,h⟩,fun _=>by omega⟩
  ·rw[Yte h,Zsf (m:=m) (k:=k+1)]
   constructor
   ·rintro⟨j,h1,h2,h3⟩;exact⟨j,by omega,by omega,h3⟩
   ·rintro⟨j,h1,h2,h3⟩
    refine⟨j,?_,by omega,h3⟩
    have:j≠k:=fun hj=>h (hj▸h3)
    omega
def SlF(v:V):Prop:=v=.nilslice∨v=.empty∨∃i o n c z,v=.slice i o n c z
def Sl.form{l:List V}(s:Sl h N v l):SlF v:=by
 rcases s with⟨_,h|h⟩|⟨i,o,cp,c,e,rw,h,_⟩
 ·exact .inl h
 ·exact .inr (.inl h)
 ·exact .inr (.inr ⟨_,_,_,_,_,h⟩)
def SlF.one(h:SlF v):V.one v=true:=by
 rcases h with rfl|rfl|⟨_,_,_,_,_,rfl⟩<;>rfl
def SlF.cells(h:SlF v):V.cells v=[v]:=by
 rcases h with rfl|rfl|⟨_,_,_,_,_,rfl⟩<;>rfl
def strs(l:List Str):List V:=l.map .str
def Za7(l:List Str):(strs l).length=l.length:=by simp[strs]
def Zbo{l:List Str}{j:Nat}{n:Str}(h:l[j]?=some n):(strs l)[j]?=some (.str n):=by simp[strs,h]
attribute [simp] Za7
def Zce(s:Stg)(inp:V):List V:=[.str s.name,.str s.op,.str s.factor,inp,.int .i64 s.cost]
def Gr(h:T O)(N:Nat)(v:V)(g:List Stg):Prop:=∃l:List (List V),Sn 5 h N v l∧l.length=g.length∧∀(j:Nat) (s:Stg),g[j]?=some s→∃inp,l[j]?=some (Zce s inp)∧Sl h N inp (strs s.inputs)
def Gr.keep{h':T O}{N':Nat}{g:List Stg}(s:Gr h N v g)(k:Keeps h N h' N'):Gr h' N' v g:=by
 obtain⟨l,h1,h2,h3⟩:=s
 refine⟨l,h1.keep k,h2,fun j s hs=>?_⟩
 obtain⟨inp,h4,h5⟩:=h3 j s hs
 exact⟨inp,h4,h5.keep k⟩
def Gr.len{g:List Stg}(s:Gr h N v g):Zo2 v=some g.length:=by
 obtain⟨l,h1,h2,h3⟩:=s
 rw[h1.len,h2]
def Gr.at{g:List Stg}(s:Gr h N v g){j:Nat}{x:Stg}(hj:g[j]?=some x):∃i o c e rw inp,Zn2 v=some (i,o)∧i<N∧h.get i=some (.cells c e rw)∧slc c (o+j*5) 5=some (Zce x inp)∧Sl h N inp (strs x.inputs):=by
 obtain⟨l,h1,h2,h3⟩:=s
 obtain⟨inp,h4,h5⟩:=h3 j x hj
 obtain⟨i,o,c,e,rw,q1,q2,q3,q4⟩:=h1.at h4
 exact⟨i,o,c,e,rw,inp,q1,q2,q3,q4,h5⟩
def Gr.slice{g:List Stg}{w:List Nat}(s:Gr h N v g){lo hi:Nat}(h1:lo≤hi)(h2:hi≤g.length)(x y:Option V)(hx:x=some (.int .i64 lo)∨x=none∧lo=0)(hy:y=some (.int .i64 hi)∨y=none∧hi=g.length):
  ∃v',Zcz ⟨h,N,w⟩ 5 (some v) (some x) (some y) (some none)=some (v',⟨h,N,w⟩)∧Gr h N v' ((g.take hi).drop lo):=by
 obtain⟨l,g1,g2,g3⟩:=s
 obtain⟨v',e1,e2⟩:=Yat (z:=5) (w:=w) (by decide) g1 h1 (by omega) x y hx (by rw[g2];exact hy)
 refine⟨v',e1,(l.take hi).drop lo,e2,by simp[g2],fun j s hs=>?_⟩
 have hj:lo+j<hi:=by
  apply Yun;intro hc
  rw[Ytp,Yt0,Yte (by omega)]at hs;cases hs
 rw[Ytp,Yt0,Ytg hj]at hs
 obtain⟨inp,q1,q2⟩:=g3 _ s hs
 exact⟨inp,by rw[Ytp,Yt0,Ytg hj];exact q1,q2⟩
def Zjp{c:List V}{o:Nat}{s:Stg}{inp:V}(h:slc c o 5=some (Zce s inp)):Zam c o (some 5)=some (.agg (Zce s inp))∧c[o]?=some (.str s.name)∧c[o+1]?=some (.str s.op)∧c[o+2]?=some (.str s.factor)∧c[o+3]?=some inp∧c[o+4]?=some (.int .i64 s.cost):=
 ⟨Zrc h,Zf9 h (f:=0) (by omega),Zf9 h (f:=1) (by omega),Zf9 h (f:=2) (by omega),Zf9 h (f:=3) (by omega),Zf9 h (f:=4) (by omega)⟩
def Zo6{n:Str}:∀(g:List Stg) (k:Nat) {p:Nat→Bool},(∀(j:Nat) (s:Stg),g[j]?=some s→p (k+j)=decide (s.name=n))→Za6 p k g.length=if pos g n<g.length then ((k+pos g n:Nat):Int) else -1
 |[],k,p,_=>by simp[Za6,pos]
 |s::g,k,p,h=>by
  have h0:=h 0 s rfl
  simp only[Yus]at h0
  have ih:=Zo6 (n:=n) g (k+1) (p:=p) fun j s hs=>by
   rw[show k+1+j=k+(j+1) by omega];exact h (j+1) s (by simpa using hs)
  simp only[Ytd,Za6,h0,pos,decide_eq_true_eq]
  by_cases hn:s.name=n
  ·simp[hn]
  ·simp only[hn,if_false,ih]
   by_cases h2:pos g n<g.length
   ·rw[Ytg h2,Ytg (by omega)];omega
   ·rw[Yte h2,Yte (by omega)]
def Yp5{a b c d e:V}:slc [a,b,c,d,e] 0 5=some [a,b,c,d,e]:=rfl
def Yp6{a b:V}:slc [a,b] 0 2=some [a,b]:=rfl
attribute [simp] Yp5 Yp6
def Gr.form{g:List Stg}(s:Gr h N v g):SlF v:=by
 obtain⟨l,h1,_⟩:=s
 rcases h1 with⟨_,h|h⟩|⟨i,o,cp,c,e,rw,h,_⟩
 ·exact .inl h
 ·exact .inr (.inl h)
 ·exact .inr (.inr ⟨_,_,_,_,_,h⟩)
def Ycu(st:St)(zero:V)(ok:Bool):Option (Option (Nat×V))→Option (V×St)
 |some (some (_,v))=>some (if ok then .tup [v,.bool true] else v,st)
 |some none=>some (if ok then .tup [zero,.bool false] else zero,st)
 |none=>none
def Zwl(st:St)(kd:Zk7)(zero:V)(ok:Bool)(k:V):Option O→Option (V×St)
 |some (.map es)=>Ycu st zero ok (findV kd k es 0)
 |_=>none
def Ylt(st:St)(kd:Zk7)(zero:V)(ok:Bool):Option V→Option V→Option (V×St)
 |some (.map i),some k=>if kd.fits k=true then Zwl st kd zero ok k (st.h.get i) else none
 |some .nilmap,some k=>if kd.fits k=true then Ycu st zero ok (some none) else none
 |_,_=>none
def Zt0{kd:Zk7}{zero:V}{m k:Src}{ok:Bool}{call:Za1}{r:T V}{st:St}:Ze9 kd zero m k ok call r st=Ylt st kd zero ok (m.ev r) (k.ev r):=by
 unfold Ze9 Ylt
 rcases m.ev r with _|m
 ·rfl
 ·rcases k.ev r with _|k
  ·cases m<;>rfl
  ·cases m<;>simp only[]<;>(try (by_cases hf:kd.fits k=true<;>simp[hf]))<;>try rfl
   ·rename_i i
    rcases st.h.get i with _|o
    ·rfl
    ·cases o<;>simp only[Zwl]
     rename_i es
     rcases findV kd k es 0 with _|_|⟨_,_⟩<;>rfl
def Ycv{st:St}{zero:V}{ok:Bool}{s:Str}:Ylt st .str zero ok (some (.map i)) (some (.str s))=Zwl st .str zero ok (.str s) (st.h.get i):=rfl
def Zuk{st:St}{kd:Zk7}{zero:V}{ok:Bool}{es:List (V×V)}:Zwl st kd zero ok k (some (.map es))=Ycu st zero ok (findV kd k es 0):=rfl
attribute [simp] Zt0 Ycv Zuk Zhz
def Yle(st:St)(i:Nat)(k v:V)(es:List (V×V)):Option (Option (Nat×V))→Option (V×St)
 |some (some (j,_))=>some (.tup [],st.write i (.map (es.set j (k,v))))
 |some none=>some (.tup [],st.write i (.map (es++[(k,v)])))
 |none=>none
def Zwf(st:St)(kd:Zk7)(i:Nat)(k v:V):Option O→Option (V×St)
 |some (.map es)=>Yle st i k v es (findV kd k es 0)
 |_=>none
def msetK(st:St)(kd:Zk7):Option V→Option V→Option V→Option (V×St)
 |some (.map i),some k,some v=>if kd.fits k=true then Zwf st kd i k v (st.h.get i) else none
 |_,_,_=>none
def Ztz{kd:Zk7}{m k v:Src}{call:Za1}{r:T V}{st:St}:Zel kd m k v call r st=msetK st kd (m.ev r) (k.ev r) (v.ev r):=by
 unfold Zel msetK
 rcases m.ev r with _|m
 ·rfl
 ·rcases k.ev r with _|k
  ·cases m<;>rfl
  ·rcases v.ev r with _|v
   ·cases m<;>rfl
   ·cases m with
    |map i=>
     simp only[]
     by_cases hf:kd.fits k=true
     ·simp only[hf,if_true]
      rcases st.h.get i with _|o
      ·rfl
      ·cases o<;>simp only[Zwf]
       rename_i es
       rcases findV kd k es 0 with _|_|⟨_,_⟩<;>rfl
     ·simp[hf]
    |_=>rfl
def Yb5{st:St}{s:Str}:msetK st .str (some (.map i)) (some (.str s)) (some v)=Zwf st .str i (.str s) v (st.h.get i):=rfl
def Zt9{st:St}{kd:Zk7}{es:List (V×V)}:Zwf st kd i k v (some (.map es))=Yle st i k v es (findV kd k es 0):=rfl
def Zyg{st:St}{es:List (V×V)}:Yle st i k v es (some none)=some (.tup [],st.write i (.map (es++[(k,v)]))):=rfl
attribute [simp] Ztz Yb5 Zt9 Zyg
def Zl1{g:List Stg}{s:Stg}{o:Opn}{E4 E6:Int}(ho:opOf s.op=some o∨opOf s.op=none)(h4:opOf s.op=some o→E4=(Zco o s.factor:Nat))(h6:E6=if s.inputs.length<o.lo∨o.hi<s.inputs.length then 2 else 0):
  Zak [if Zgy s.name=false then 8 else 0,if 0≤Zh8 g s.name then 9 else 0,if opOf s.op=none then 13 else 0,E4,if 16<(s.inputs.length:Int) then 5 else 0,E6,if ∃x,x∈s.inputs∧g.length≤pos g x then 10 else 0,if s.cost<1∨1000<s.cost then 3 else 0]=(chkStage g s:Nat):=by
 have e2:(0≤Zh8 g s.name)↔pos g s.name<g.length:=by
  unfold Zh8;split<;>omega
 have e5:(16<(s.inputs.length:Int))↔16<s.inputs.length:=by omega
 have e7:(s.inputs.any (fun n=>decide (g.length≤pos g n))=true)↔∃x,x∈s.inputs∧g.length≤pos g x:=by simp
 unfold chkStage
 simp only[Zak,e2,e5,e7]
 by_cases c1:Zgy s.name=false
 ·simp[c1]
 by_cases c2:pos g s.name<g.length
 ·simp[c1,c2]
 rcases ho with ho|ho
 ·rw[ho]
  rw[h4 ho,h6]
  simp only[c1,c2,if_false,if_true]
  by_cases c4:Zco o s.factor=0
  ·by_cases c5:16<s.inputs.length
   ·simp[c4,c5]
   ·by_cases c6:s.inputs.length<o.lo∨o.hi<s.inputs.length
    ·simp[c4,c5,c6]
    ·by_cases c7:∃x,x∈s.inputs∧g.length≤pos g x
     ·simp[c4,c5,c6,c7]
     ·by_cases c8:s.cost<1∨1000<s.cost
      ·simp[c4,c5,c6,c7,c8]
      ·simp[c4,c5,c6,c7,c8]
  ·simp[c4]
 ·rw[ho];simp[c1,c2]
def Keeps.then{h h1 h2:T O}{n n1 n2:Nat}(a:Keeps h n h1 n1)(b:Keeps h1 n h2 n2):Keeps h n h2 n2:=⟨b.le,fun i hi=>(b.get i hi).trans (a.get i hi)⟩
def Zc7(l:List Int):List (List V):=l.map fun x=>[.int .i64 x]
def Zc0(l:List Int):(Zc7 l).length=l.length:=by simp[Zc7]
def Zkx:∀(l:List Int),(Zc7 l).flatten=dI l
 |[]=>rfl
 |x::l=>by
  have:=Zkx l
  simp only[Zc7,Yuy,List.flatten_cons,dI]at this ⊢
  rw[this];rfl
def Zdj(l:List Int)(x:Int):Zc7 (l++[x])=Zc7 l++[[.int .i64 x]]:=by simp[Zc7]
def Own.sl{e:TypeId}{N0:Nat}{h:T O}{N:Nat}{v:V}{l:List Int}(s:Own 1 e N0 h N v (Zc7 l)):Sl h N v (dI l):=by
 have:=s.sn
 have e1:Zc7 l=(dI l).map fun x=>[x]:=by simp[Zc7,dI]
 rw[e1]at this
 exact Sn.one.1 this
structure Yjt (g:List Stg):Prop where
 le:g.length≤16
 name:∀(j:Nat) (s:Stg),g[j]?=some s→j≤pos (g.take j) s.name
 inp:∀(j:Nat) (s:Stg),g[j]?=some s→∀n∈s.inputs,pos (g.take j) n<j
 cost:∀s∈g,1≤s.cost∧s.cost≤1000
def Zi6{g:List Stg}{s:Stg}(h:chkStage g s=0):g.length≤pos g s.name∧(∀n∈s.inputs,pos g n<g.length)∧1≤s.cost∧s.cost≤1000:=by
 unfold chkStage at h
 split at h
 ·cases h
 split at h
 ·cases h
 split at h
 ·cases h
 split at h
 ·rename_i h1;exact absurd h h1
 split at h
 ·cases h
 split at h
 ·cases h
 split at h
 ·cases h
 split at h
 ·cases h
 rename_i h1 h2 _ _ _ _ _ _ h3 h4
 refine⟨by omega,fun n hn=>?_,by omega,by omega⟩
 simp only[List.any_eq_true,decide_eq_true_eq,not_exists,not_and]at h3
 have:=h3 n hn
 omega
def Zu4:∀{t b:List Stg},Zqj b t=0→∀(j:Nat) (s:Stg),t[j]?=some s→chkStage (b++t.take j) s=0
 |[],_,_,j,s,h=>by simp at h
 |x::t,b,h,0,s,hs=>by
  simp only[Zqj]at h
  simp at hs;subst hs
  by_cases h0:chkStage b x=0
  ·simpa using h0
  ·rw[Ytg h0]at h;exact absurd h h0
 |x::t,b,h,j+1,s,hs=>by
  simp only[Zqj]at h
  by_cases h0:chkStage b x=0
  ·rw[Yte (by simp[h0])]at h
   have:=Zu4 h j s (by simpa using hs)
   simpa using this
  ·rw[Ytg h0]at h;exact absurd h h0
def Zu5{g:List Stg}(h:chkGraph g=0):Yjt g∧g≠[]:=by
 unfold chkGraph at h
 split at h
 ·cases h
 split at h
 ·cases h
 rename_i h1 h2
 have hk:=Zu4 h
 simp only[List.nil_append]at hk
 have hlen:∀(j:Nat) (s:Stg),g[j]?=some s→(g.take j).length=j:=fun j s hs=>by
  have:=Zar hs
  simp;omega
 refine⟨⟨by omega,fun j s hs=>?_,fun j s hs n hn=>?_,fun s hs=>?_⟩,fun h=>by rw[h]at h1;simp at h1⟩
 ·have:=(Zi6 (hk j s hs)).1;rw[hlen j s hs]at this;exact this
 ·have:=(Zi6 (hk j s hs)).2.1 n hn;rw[hlen j s hs]at this;exact this
 ·obtain⟨j,hj⟩:=Yuw hs
  exact(Zi6 (hk j s hj)).2.2
def Zv5:∀{g:List Stg} {n:Str} {j:Nat},pos (g.take j) n<(g.take j).length→pos g n=pos (g.take j) n
 |[],_,j,h=>by simp at h
 |x::g,n,0,h=>by simp at h
 |x::g,n,j+1,h=>by
  simp only[List.take_succ_cons,pos]at h ⊢
  by_cases hn:x.name=n
  ·simp[hn]
  ·simp only[hn,if_false,Ytd]at h ⊢
   rw[Zv5 (g:=g) (n:=n) (j:=j) (by omega)]
end Go.Mx
