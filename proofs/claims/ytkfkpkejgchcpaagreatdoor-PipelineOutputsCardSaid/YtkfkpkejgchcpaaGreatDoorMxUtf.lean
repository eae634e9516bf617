/-Characters of a string, one after the ot-/
import Derived.Test.YtkfkpkejgchcpaaGreatDoorMxWord
set_option linter.all false
namespace Go.Mx
open Go
variable {i:Nat} {j:Int} {k:IntKind} {r:T V} {s:Str} {x:Src}
def Yho{p:Nat}{c:UInt8}(h:s[p]?=some c):(ByteArray.mk s.toArray).get! p=c:=by
 obtain⟨hp,he⟩:=Ytg.1 h
 show s.toArray[p]! =c
 simp[hp,he]
def Yny{p:Nat}{c:UInt8}(h:s[p]?=some c)(hc:c.toNat<128):Utf8.decode ⟨s.toArray⟩ p=(c.toNat,1):=by
 unfold Utf8.decode
 simp only[Ytb,Yho h]
 rw[Yr6 hc]
def Ynz{p:Nat}{c:UInt8}(h:s[p]?=some c)(hc:128≤c.toNat):128≤(Utf8.decode ⟨s.toArray⟩ p).1:=by
 unfold Utf8.decode
 simp only[Ytb,Yho h,Utf8.runeError]
 rw[Yr3 (by omega)]
 split
 ·split
  ·rename_i h;exact h
  ·exact(by decide)
 ·split
  ·split
   ·rename_i h;simp at h;show 128≤_;omega
   ·exact(by decide)
  ·split
   ·split
    ·rename_i h;simp at h;show 128≤_;omega
    ·exact(by decide)
   ·exact(by decide)
def Zme(s:Str)(p:Nat):Int:=(Utf8.decode ⟨s.toArray⟩ p).1
def Yey(s:Str)(p:Nat):Nat:=(Utf8.decode ⟨s.toArray⟩ p).2
def Yjl{p:Nat}{c:UInt8}(h:s[p]?=some c)(hc:u8I c<128):Zme s p=u8I c∧Yey s p=1:=by
 unfold Zme Yey
 rw[Yny h (by unfold u8I at hc;omega)]
 exact⟨rfl,rfl⟩
def Yjm{p:Nat}{c:UInt8}(h:s[p]?=some c)(hc:128≤u8I c):128≤Zme s p:=by
 unfold Zme
 have:=Ynz h (by unfold u8I at hc;omega)
 omega
def Zmy(i:Nat)(st:St):Option (Str×Nat)→Option (V×St)
 |some (s,p)=>if p<s.length then some (.tup [.bool true,.int .i64 p,.int .i32 (Utf8.decode ⟨s.toArray⟩ p).1],st.write i (.siter s (p+(Utf8.decode ⟨s.toArray⟩ p).2))) else some (.tup [.bool false],st)
 |none=>none
def Zu7:Option O→Option (Str×Nat)
 |some (.siter s p)=>some (s,p)
 |_=>none
def Yj7(st:St):Option V→Option (V×St)
 |some (.ptr i 0)=>Zmy i st (Zu7 (st.h.get i))
 |_=>none
def Zq2{call:Za1}{st:St}:Zdz x call r st=Yj7 st (x.ev r):=by
 unfold Zdz Yj7
 rcases x.ev r with _|v
 ·rfl
 ·cases v<;>try rfl
  rename_i i o
  cases o with
  |zero=>
   simp only[Zu7,Zmy]
   rcases st.h.get i with _|o
   ·rfl
   ·cases o<;>rfl
  |succ=>rfl
def Zxl{st:St}:Yj7 st (some (.ptr i 0))=Zmy i st (Zu7 (st.h.get i)):=rfl
def Zs0{p:Nat}:Zu7 (some (.siter s p))=some (s,p):=rfl
def Yba{st:St}{p:Nat}(h:p<s.length):Zmy i st (some (s,p))=some (.tup [.bool true,.int .i64 p,.int .i32 (Zme s p)],st.write i (.siter s (p+Yey s p))):=by simp[Zmy,h,Zme,Yey]
def Zxm{st:St}:Zmy i st (some (s,s.length))=some (.tup [.bool false],st):=by simp[Zmy]
def Zch(st:St):Option V→Option (Option V)→Option (Option V)→Option (V×St)
 |some (.str s),some lo,some hi=>match Zav hi s.length s.length with
   |some h=>match Zav lo h 0 with
    |some l=>some (.str ((s.take h).drop l),st)
    |none=>none
   |none=>none
 |_,_,_=>none
def Zps{lo hi:Option Src}{call:Za1}{st:St}:Zbj x lo hi call r st=Zch st (x.ev r) (evOpt r lo) (evOpt r hi):=by
 unfold Zbj Zch;rfl
def Zdx{st:St}(h0:0≤j)(h1:j≤s.length):Zch st (some (.str s)) (some (some (.int k j))) (some none)=some (.str (s.drop j.toNat),st):=by
 simp[Zch,Zav,Zd5,h0,h1]
def Zkj{st:St}(h0:0≤j)(h1:j≤s.length):Zch st (some (.str s)) (some none) (some (some (.int k j)))=some (.str (s.take j.toNat),st):=by
 simp[Zch,Zav,Zd5,h0,h1]
def Zoc{st:St}{k':IntKind}{i:Int}(h0:0≤i)(h1:i≤j)(h2:j≤s.length):Zch st (some (.str s)) (some (some (.int k i))) (some (some (.int k' j)))=some (.str ((s.take j.toNat).drop i.toNat),st):=by
 have h3:0≤j:=by omega
 have h4:max j 0=j:=by omega
 simp[Zch,Zav,Zd5,h0,h1,h2,h3,h4]
def Znm(s:Str):List V:=s.map fun b=>.int .u8 (u8I b)
def Zy3(s:Str):(Znm s).length=s.length:=by simp[Znm]
def Zy4{k:Nat}{c:UInt8}(h:s[k]?=some c):(Znm s)[k]?=some (.int .u8 (u8I c)):=by simp[Znm,h]
def sbK(elem:TypeId)(st:St):Option V→Option (V×St)
 |some (.str s)=>some (.slice st.n 0 s.length none 1,st.alloc (.cells (Znm s) elem true))
 |_=>none
def Zpr{elem:TypeId}{call:Za1}{st:St}:Zci elem x call r st=sbK elem st (x.ev r):=by
 unfold Zci sbK;rfl
def Yew{elem:TypeId}{st:St}:sbK elem st (some (.str s))=some (.slice st.n 0 s.length none 1,st.alloc (.cells (Znm s) elem true)):=rfl
attribute [simp] Zpr Yew Zy3 Zq2 Zxl Zs0 Yba Zxm Zps Zdx Zkj Zoc Zc6
def Zjw:∀(s:Str) (i:Nat),Zin 47 s i=if slashAt s<s.length then ((i+slashAt s:Nat):Int) else -1
 |[],i=>rfl
 |c::s,i=>by
  simp only[Zin,slashAt]
  have e:(c==47)=decide (c.toNat=47):=by
   rw[Bool.eq_iff_iff]
   simp only[beq_iff_eq,decide_eq_true_eq]
   exact⟨fun h=>by rw[h];rfl,fun h=>UInt8.toNat_inj.1 h⟩
  rw[e]
  by_cases h:c.toNat=47
  ·simp[h]
  ·simp only[h,decide_false,if_false,Yse,Zjw s (i+1),Yr2]
   by_cases h2:slashAt s<s.length
   ·rw[Yr6 h2,Yr6 (by omega)];omega
   ·rw[Yr3 h2,Yr3 (by omega)]
variable {d:Int} {j k n:Nat} {l:List Int}
def vI:List Int→Int
 |[]=>0
 |d::l=>d+1000000000*vI l
def pI(k:Nat):Int:=1000000000^k
def Zc5(k:Nat):pI (k+1)=1000000000*pI k:=by unfold pI;rw[Int.pow_succ,Int.mul_comm]
def Yj0:pI 0=1:=rfl
def Zjm(k:Nat):0<pI k:=by unfold pI;exact Int.pow_pos (by decide)
def Zvi(i j:Nat):pI (i+j)=pI i*pI j:=by unfold pI;exact Int.pow_add ..
def Zl6:∀(l m:List Int),vI (l++m)=vI l+pI l.length*vI m
 |[],m=>by simp[vI,pI]
 |d::l,m=>by
  simp only[Yue,vI,Zl6 l m,Yr2,Zc5]
  grind
def Zfv(l:List Int)(d:Int):vI (l++[d])=vI l+pI l.length*d:=by simp[Zl6,vI]
def Zpa(n:Nat):vI (List.replicate n 0)=0:=by
 induction n with
 |zero=>rfl
 |succ n ih=>simp[List.replicate_succ,vI,ih]
def Zaz{α:Type}{l:List α}{d:α}(h:l[k]?=some d):k<l.length:=by
 apply Ytc;intro hc;rw[Ysk hc]at h;cases h
def Zba(h:l[k]?=some d):vI (l.take (k+1))=vI (l.take k)+pI k*d:=by
 have hk:=Zaz h
 rw[Yta,h]
 simp only[Option.toList]
 rw[Zfv,Ysi,Ytf (by omega)]
def Zi3(l:List Int)(k:Nat)(hk:k≤l.length):vI l=vI (l.take k)+pI k*vI (l.drop k):=by
 have:=Zl6 (l.take k) (l.drop k)
 rw[Yt6,Ysi,Ytf hk]at this
 exact this
def Zi4:∀{l:List Int} {k:Nat} {c:Int},l[k]?=some c→∀(v:Int),vI (l.set k v)=vI l+pI k*(v-c)
 |[],k,c,h,v=>by simp at h
 |d::l,0,c,h,v=>by
  simp at h;subst h
  simp only[List.set_cons_zero,vI,Yj0];omega
 |d::l,k+1,c,h,v=>by
  have:=Zi4 (l:=l) (k:=k) (c:=c) (by simpa using h) v
  simp only[List.set_cons_succ,vI,this,Zc5]
  grind
def Di(l:List Int):Prop:=∀d∈l,0≤d∧d<1000000000
def Di.get(h:Di l){k:Nat}{d:Int}(hd:l[k]?=some d):0≤d∧d<1000000000:=h d (Yr8 hd)
def Di.set(h:Di l){k:Nat}{v:Int}(h0:0≤v)(h1:v<1000000000):Di (l.set k v):=fun d hd=>by
 rcases List.mem_or_eq_of_mem_set hd with hd|rfl
 ·exact h d hd
 ·exact⟨h0,h1⟩
def Di.app{m:List Int}(h:Di l)(h':Di m):Di (l++m):=fun d hd=>by
 rcases Ysv.1 hd with hd|hd
 ·exact h d hd
 ·exact h' d hd
def Di.one{v:Int}(h0:0≤v)(h1:v<1000000000):Di [v]:=fun d hd=>by simp at hd;subst hd;exact⟨h0,h1⟩
def Di.nil:Di []:=fun d hd=>by simp at hd
def Di.zeros(n:Nat):Di (List.replicate n 0):=fun d hd=>by rw[Yve]at hd;rw[hd.2];decide
def Di.take(h:Di l)(k:Nat):Di (l.take k):=fun d hd=>h d (Ytn hd)
def Di.drop(h:Di l)(k:Nat):Di (l.drop k):=fun d hd=>h d (Yvk hd)
def Zh9:∀{l:List Int},Di l→0≤vI l
 |[],_=>Int.le_refl _
 |d::l,h=>by
  have h1:=h d Ys0
  have h2:=Zh9 (l:=l) fun e he=>h e (Ysu _ he)
  simp only[vI];omega
def Zia:∀{l:List Int},Di l→vI l<pI l.length
 |[],_=>by decide
 |d::l,h=>by
  have h1:=h d Ys0
  have h2:=Zia (l:=l) fun e he=>h e (Ysu _ he)
  simp only[vI,Yr2,Zc5];omega
def zI(l:List Int)(j:Nat):Int:=l[j]?.getD 0
def Yi0(h:l[j]?=some d):zI l j=d:=by simp[zI,h]
def Zsl(h:l.length≤j):zI l j=0:=by simp[zI,h]
def Yi1{l:List Int}(h:Di l)(j:Nat):0≤zI l j∧zI l j<1000000000:=by
 unfold zI
 cases hj:l[j]? with
 |none=>simp
 |some d=>exact h.get hj
def Zl5{l:List Int}{k:Nat}:vI (l.take (k+1))=vI (l.take k)+pI k*zI l k:=by
 unfold zI
 cases h:l[k]? with
 |some d=>exact Zba h
 |none=>
  have hk:l.length≤k:=by
   apply Yto;intro hc;rw[Yr7 hc]at h;cases h
  rw[Ysd (by omega),Ysd hk];simp
def Zaq{α:Type}{l:List α}{d:α}(h:l[k]?=some d):l.drop k=d::l.drop (k+1):=by
 obtain⟨hk,hs⟩:=Ytg.1 h
 rw[←hs];exact Yug hk
def dI(l:List Int):List V:=l.map fun n=>.int .i64 n
def Zat(l:List Int):(dI l).length=l.length:=by simp[dI]
def Zbe{n:Int}(h:l[j]?=some n):(dI l)[j]?=some (.int .i64 n):=by simp[dI,h]
attribute [simp] Zat
def Zh5{v:Int}(h:k<l.length):splice (dI l) k [.int .i64 v]=dI (l.set k v):=by
 unfold splice dI
 apply Ys1
 intro j
 simp only[Ytu,Ysa,List.getElem?_set]
 rw[Yth,List.getElem?_append,Ysi,Ysw]
 by_cases h1:j<k
 ·rw[Yr6 (by omega),Yso,Yr6 h1,Ysa,Yr3 (by omega)]
 ·rw[Yr3 (by omega)]
  by_cases h2:j=k
  ·subst h2
   rw[show j-min j l.length=0 by omega,Yr6 rfl,Yr6 h];rfl
  ·rw[show j-min k l.length=(j-k-1)+1 by omega,Yr3 (by omega)]
   simp only[Yvx,Yt9,Ysc,Ysa]
   rw[show k+1+(j-k-1)=j by omega]
def Zp7:Zke [.int .i64 0] n=dI (List.replicate n 0):=by rw[Yhm];simp[dI]
def Zfy:List Int→List Int
 |[]=>[]
 |d::l=>match Zfy l with
  |[]=>if d=0 then [] else [d]
  |t=>d::t
def Zki:∀(l:List Int),Zfy (l++[0])=Zfy l
 |[]=>rfl
 |d::l=>by simp only[Yue,Zfy,Zki l]
def Zoa{d:Int}(hd:d≠0):∀(l:List Int),Zfy (l++[d])=l++[d]
 |[]=>by simp[Zfy,hd]
 |e::l=>by
  simp only[Yue,Zfy,Zoa hd l]
  cases l<;>rfl
def Zqp:∀(l:List Int),(Zfy l).length≤l.length
 |[]=>Yr4 _
 |d::l=>by
  have ih:=Zqp l
  simp only[Zfy]
  split
  ·split<;>simp
  ·simp only[Yr2];omega
def ds(n:Nat):List Int:=if h:n=0 then [] else ((n%1000000000:Nat):Int)::ds (n/1000000000)
termination_by n
decreasing_by exact Yu0 (by omega) (by decide)
def Zcn:ds 0=[]:=by rw[ds];simp
def Zha(h:n≠0):ds n=((n%1000000000:Nat):Int)::ds (n/1000000000):=by rw[ds];simp[h]
def Zbb:∀(n:Nat),vI (ds n)=n:=by
 intro n
 induction n using Nat.strongRecOn with
 |_ n ih=>
  by_cases h:n=0
  ·subst h;rw[Zcn];rfl
  ·rw[Zha h]
   simp only[vI]
   rw[ih (n/1000000000) (Yu0 (by omega) (by decide))]
   omega
def Zca(n:Nat):Di (ds n):=by
 induction n using Nat.strongRecOn with
 |_ n ih=>
  by_cases h:n=0
  ·subst h;rw[Zcn];exact Di.nil
  ·rw[Zha h]
   intro d hd
   rcases Ysz.1 hd with rfl|hd
   ·omega
   ·exact ih (n/1000000000) (Yu0 (by omega) (by decide)) d hd
def Zpb:∀{l:List Int},Di l→Zfy l=ds (vI l).toNat
 |[],_=>by simp[Zfy,vI,Zcn]
 |d::l,h=>by
  have hl:Di l:=fun e he=>h e (Ysu _ he)
  have ih:=Zpb hl
  have hd:=h d Ys0
  have hn:=Zh9 hl
  simp only[Zfy,vI,ih]
  by_cases h0:vI l=0
  ·rw[h0]
   simp only[Int.toNat_zero,Zcn,Int.mul_zero,Int.add_zero]
   by_cases hd0:d=0
   ·simp[hd0,Zcn]
   ·rw[Zha (by omega),Yt3 (by omega),Yuf (by omega),Zcn];simp[hd0];omega
  ·have h3:(d+1000000000*vI l).toNat≠0:=by omega
   rw[Zha h3]
   have h1:(d+1000000000*vI l).toNat/1000000000=(vI l).toNat:=by omega
   have h2:(((d+1000000000*vI l).toNat%1000000000:Nat):Int)=d:=by omega
   rw[h1,h2]
   split
   ·rename_i hc;rw[Zha (by omega)]at hc;cases hc
   ·rfl
def Zfx(h:Di l){n:Nat}(hn:vI l=n):Zfy l=ds n:=by rw[Zpb h,hn];rfl
def Yld(n:Nat):Zfy (ds n)=ds n:=Zfx (Zca n) (Zbb n)
def Zdr:ds n=[]↔n=0:=by
 constructor
 ·intro h
  by_cases h0:n=0
  ·exact h0
  ·rw[Zha h0]at h;cases h
 ·intro h;rw[h,Zcn]
def Yle(h:n≠0):∃d,(ds n)[(ds n).length-1]?=some d∧0<d:=by
 have hne:ds n≠[]:=fun hc=>h (Zdr.1 hc)
 obtain⟨l,d,hd⟩:∃l d,ds n=l++[d]:=⟨(ds n).dropLast,(ds n).getLast hne,(Yvb hne).symm⟩
 refine⟨d,by rw[hd,Ysn,Ytu];simp,?_⟩
 have h1:=Zca n d (by rw[hd];exact List.mem_append_right _ Ys0)
 have:d≠0:=fun h0=>by
  have h2:=Yld n
  rw[hd,h0,Zki]at h2
  have:=Zqp l
  rw[h2]at this;simp at this;omega
 omega
def Zfo{n k:Nat}(h:n<1000000000^k):(ds n).length≤k:=by
 induction k generalizing n with
 |zero=>
  have:n=0:=by simpa using h
  rw[this,Zcn];simp
 |succ k ih=>
  by_cases h0:n=0
  ·rw[h0,Zcn];simp
  ·rw[Zha h0]
   have:=ih (n:=n/1000000000) ((Yst (by decide)).2 (by rw[←Ysr];exact h))
   simp only[Yr2];omega
def Dn(h:T O)(N:Nat)(v:V)(n:Nat):Prop:=Sl h N v (dI (ds n))
def Dn.keep{h h':T O}{N N':Nat}{v:V}(s:Dn h N v n)(k:Keeps h N h' N'):Dn h' N' v n:=Sl.keep s k
variable {w:List Int}
def Zt4{P u1 u2 U' v1 v2 V' t r:Int}(hP:0<P)(hU':0≤U')(hu2:0≤u2)(hu1:0≤u1)(hv1:0<v1)(hv2:0≤v2)(hV0:0≤V')(hV':V'<P)(h0:0≤t)(ht:t≤1000000000)(hinv:u1=t*v1+r)(hc:t*v2≤r*1000000000+u2):
  (t-1)*(V'+P*(v2+1000000000*v1))≤U'+P*(u2+1000000000*u1):=by
 by_cases ht0:t=0
 ·subst ht0
  have h1:0≤P*(v2+1000000000*v1):=Ytz (by omega) (by omega)
  have h2:0≤P*(u2+1000000000*u1):=Ytz (by omega) (by omega)
  omega
 ·have h1:(t-1)*V'≤1000000000*P:=by
   have:(t-1)*V'≤1000000000*V':=Ytq (by omega) hV0
   omega
  have h2:P*1≤P*v1:=Ysj (by omega) (by omega)
  have h3:P*(t*v2)≤P*(r*1000000000+u2):=Ysj hc (by omega)
  have h4:0≤P*v2:=Ytz (by omega) hv2
  have h5:(t-1)*(V'+P*(v2+1000000000*v1))=(t-1)*V'+P*(t*v2)-P*v2+1000000000*(P*(t*v1))-1000000000*(P*v1):=by grind
  have h6:U'+P*(u2+1000000000*u1)=U'+P*(r*1000000000+u2)+1000000000*(P*(t*v1)):=by subst hinv;grind
  omega
def Yky{P u1 u2 U' v1 v2 V' t r:Int}(hP:0<P)(hU':U'<P)(hV0:0≤V')(h0:0≤t)(hinv:u1=t*v1+r)(hc:r*1000000000+u2<t*v2):
  U'+P*(u2+1000000000*u1)<t*(V'+P*(v2+1000000000*v1)):=by
 have h1:0≤t*V':=Ytz h0 hV0
 have h3:P*(r*1000000000+u2+1)≤P*(t*v2):=Ysj (by omega) (by omega)
 have h5:t*(V'+P*(v2+1000000000*v1))=t*V'+P*(t*v2)+1000000000*(P*(t*v1)):=by grind
 have h6:U'+P*(u2+1000000000*u1)=U'+P*(r*1000000000+u2+1)-P+1000000000*(P*(t*v1)):=by subst hinv;grind
 omega
def Ya8{x:Int}(h1:1≤x)(h2:x<1000000000):500000000≤x*(1000000000/(x+1)):=by
 have hd:(x+1)*(1000000000/(x+1))+1000000000%(x+1)=1000000000:=Yui ..
 have hr:1000000000%(x+1)<x+1:=Yus _ (by omega)
 have hr0:0≤1000000000%(x+1):=Yu8 _ (by omega)
 generalize 1000000000/(x+1)=d at*
 generalize 1000000000%(x+1)=r at*
 have e:(x+1)*d=x*d+d:=by grind
 apply Yu4
 intro hc
 by_cases hx:x≤500000000
 ·have h3:500000000-x+1≤d:=by omega
  have h4:x*(500000000-x+1)≤x*d:=Ysj h3 (by omega)
  have h5:0≤(x-1)*(500000000-x):=Ytz (by omega) (by omega)
  have h6:(x-1)*(500000000-x)=x*(500000000-x+1)-500000000:=by grind
  omega
 ·have h3:1≤d:=by
   apply Yu4;intro h
   have:d≤0:=by omega
   have:(x+1)*d≤0:=Int.mul_nonpos_of_nonneg_of_nonpos (by omega) this
   omega
  have h4:x*1≤x*d:=Ysj h3 (by omega)
  omega
def Zgp{m:Nat}(h:∀t,m≤t→t<w.length→w[t]?=some 0):vI w=vI (w.take m):=by
 by_cases hm:m≤w.length
 ·have h1:=Zi3 w m hm
  have h2:w.drop m=List.replicate (w.length-m) 0:=by
   apply Ys1
   intro t
   rw[Ysc,List.getElem?_replicate]
   by_cases ht:t<w.length-m
   ·rw[Yr6 ht];exact h _ (by omega) (by omega)
   ·rw[Yr3 ht];exact Ysk (by omega)
  rw[h2,Zpa]at h1
  omega
 ·rw[Ysd (by omega)]
def Yi3{k:Nat}{a c d:Int}(ha:w[k]?=some a)(hc:w[k+1]?=some c)(hd:w[k+2]?=some d)(hz:∀t,k+3≤t→t<w.length→w[t]?=some 0):
  vI w=vI (w.take k)+pI k*(a+1000000000*(d*1000000000+c)):=by
 rw[Zgp hz,show k+3=(k+2)+1 by omega,Zba hd,Zba hc,Zba ha,Zc5 (k+1),Zc5 k]
 grind
def Yi4{k:Nat}{a c:Int}(ha:w[k]?=some a)(hc:w[k+1]?=some c)(hl:w.length=k+2):
  vI w=vI (w.take k)+pI k*(a+1000000000*c):=by
 have h1:vI w=vI (w.take (k+1+1)):=by rw[Ysd (by omega)]
 rw[h1,Zba hc,Zba ha,Zc5 k]
 grind
def Yei{n:Nat}{t:Int}(hd:Di (w.take n))(ht:w[n]?=some t)(hz:∀j,n<j→j<w.length→w[j]?=some 0)(h1:vI w<pI n):(0≤vI w→t=0)∧(vI w<0→t<0):=by
 have hl:=Zaz ht
 have h2:vI w=vI (w.take n)+pI n*t:=by
  rw[Zgp (m:=n+1) (fun j h1 h2=>hz j (by omega) h2),Zba ht]
 have h3:=Zh9 hd
 have h4:=Zia hd
 rw[Ysi,Ytf (by omega)]at h4
 have h5:=Zjm n
 constructor
 ·intro h
  have h6:¬t≤ -1:=fun hc=>by
   have:=Ysj hc (Yt4 h5)
   omega
  have h7:¬1≤t:=fun hc=>by
   have:=Ysj hc (Yt4 h5)
   omega
  omega
 ·intro h
  apply Yvn
  intro hc
  have:=Ytz (Yt4 h5) hc
  omega
variable {N k:Nat} {s:Str}
def Yq2:(N=N+1)=False:=eq_false (by omega)
def Yqt:(N+1=N)=False:=eq_false (by omega)
def Yrk:(N+1<N)=False:=eq_false (by omega)
def Yq1:(N=N+1+1)=False:=eq_false (by omega)
def Yqs:(N+1+1=N)=False:=eq_false (by omega)
def Yrj:(N+1+1<N)=False:=eq_false (by omega)
def Yq0:(N=N+1+1+1)=False:=eq_false (by omega)
def Yqr:(N+1+1+1=N)=False:=eq_false (by omega)
def Yri:(N+1+1+1<N)=False:=eq_false (by omega)
def Yqz:(N=N+1+1+1+1)=False:=eq_false (by omega)
def Yqq:(N+1+1+1+1=N)=False:=eq_false (by omega)
def Yrh:(N+1+1+1+1<N)=False:=eq_false (by omega)
def Yqy:(N=N+1+1+1+1+1)=False:=eq_false (by omega)
def Yqp:(N+1+1+1+1+1=N)=False:=eq_false (by omega)
def Yrg:(N+1+1+1+1+1<N)=False:=eq_false (by omega)
def Yqx:(N=N+1+1+1+1+1+1)=False:=eq_false (by omega)
def Yqo:(N+1+1+1+1+1+1=N)=False:=eq_false (by omega)
def Yrf:(N+1+1+1+1+1+1<N)=False:=eq_false (by omega)
def Yqw:(N=N+1+1+1+1+1+1+1)=False:=eq_false (by omega)
def Yqn:(N+1+1+1+1+1+1+1=N)=False:=eq_false (by omega)
def Yre:(N+1+1+1+1+1+1+1<N)=False:=eq_false (by omega)
def Yqv:(N=N+1+1+1+1+1+1+1+1)=False:=eq_false (by omega)
def Yqm:(N+1+1+1+1+1+1+1+1=N)=False:=eq_false (by omega)
def Yrd:(N+1+1+1+1+1+1+1+1<N)=False:=eq_false (by omega)
def Yqu:(N=N+1+1+1+1+1+1+1+1+1)=False:=eq_false (by omega)
def Yql:(N+1+1+1+1+1+1+1+1+1=N)=False:=eq_false (by omega)
def Yrc:(N+1+1+1+1+1+1+1+1+1<N)=False:=eq_false (by omega)
def Ypa:(N=N+1+1+1+1+1+1+1+1+1+1)=False:=eq_false (by omega)
def Yo4:(N+1+1+1+1+1+1+1+1+1+1=N)=False:=eq_false (by omega)
def Ypm:(N+1+1+1+1+1+1+1+1+1+1<N)=False:=eq_false (by omega)
def Yo9:(N=N+1+1+1+1+1+1+1+1+1+1+1)=False:=eq_false (by omega)
def Yo3:(N+1+1+1+1+1+1+1+1+1+1+1=N)=False:=eq_false (by omega)
def Ypl:(N+1+1+1+1+1+1+1+1+1+1+1<N)=False:=eq_false (by omega)
def Yo8:(N=N+1+1+1+1+1+1+1+1+1+1+1+1)=False:=eq_false (by omega)
def Yo2:(N+1+1+1+1+1+1+1+1+1+1+1+1=N)=False:=eq_false (by omega)
def Ypk:(N+1+1+1+1+1+1+1+1+1+1+1+1<N)=False:=eq_false (by omega)
def Yo7:(N=N+1+1+1+1+1+1+1+1+1+1+1+1+1)=False:=eq_false (by omega)
def Yo1:(N+1+1+1+1+1+1+1+1+1+1+1+1+1=N)=False:=eq_false (by omega)
def Ypj:(N+1+1+1+1+1+1+1+1+1+1+1+1+1<N)=False:=eq_false (by omega)
def Yo6:(N=N+1+1+1+1+1+1+1+1+1+1+1+1+1+1)=False:=eq_false (by omega)
def Yo0:(N+1+1+1+1+1+1+1+1+1+1+1+1+1+1=N)=False:=eq_false (by omega)
def Ypi:(N+1+1+1+1+1+1+1+1+1+1+1+1+1+1<N)=False:=eq_false (by omega)
def Yo5:(N=N+1+1+1+1+1+1+1+1+1+1+1+1+1+1+1)=False:=eq_false (by omega)
def Yoz:(N+1+1+1+1+1+1+1+1+1+1+1+1+1+1+1=N)=False:=eq_false (by omega)
def Yph:(N+1+1+1+1+1+1+1+1+1+1+1+1+1+1+1<N)=False:=eq_false (by omega)
attribute [simp] Yq2 Yqt Yrk Yq1 Yqs Yrj Yq0 Yqr Yri Yqz Yqq Yrh Yqy Yqp Yrg Yqx Yqo Yrf Yqw Yqn Yre Yqv Yqm Yrd Yqu Yql Yrc Ypa Yo4 Ypm Yo9 Yo3 Ypl Yo8 Yo2 Ypk Yo7 Yo1 Ypj Yo6 Yo0 Ypi Yo5 Yoz Yph
def Yrb:(N<N+1)=True:=eq_true (by omega)
def Yra:(N<N+1+1)=True:=eq_true (by omega)
def Yq9:(N<N+1+1+1)=True:=eq_true (by omega)
def Yq8:(N<N+1+1+1+1)=True:=eq_true (by omega)
def Yq7:(N<N+1+1+1+1+1)=True:=eq_true (by omega)
def Yq6:(N<N+1+1+1+1+1+1)=True:=eq_true (by omega)
def Yq5:(N<N+1+1+1+1+1+1+1)=True:=eq_true (by omega)
def Yq4:(N<N+1+1+1+1+1+1+1+1)=True:=eq_true (by omega)
def Yq3:(N<N+1+1+1+1+1+1+1+1+1)=True:=eq_true (by omega)
def Ypg:(N<N+1+1+1+1+1+1+1+1+1+1)=True:=eq_true (by omega)
def Ypf:(N<N+1+1+1+1+1+1+1+1+1+1+1)=True:=eq_true (by omega)
def Ype:(N<N+1+1+1+1+1+1+1+1+1+1+1+1)=True:=eq_true (by omega)
def Ypd:(N<N+1+1+1+1+1+1+1+1+1+1+1+1+1)=True:=eq_true (by omega)
def Ypc:(N<N+1+1+1+1+1+1+1+1+1+1+1+1+1+1)=True:=eq_true (by omega)
def Ypb:(N<N+1+1+1+1+1+1+1+1+1+1+1+1+1+1+1)=True:=eq_true (by omega)
attribute [simp] Yrb Yra Yq9 Yq8 Yq7 Yq6 Yq5 Yq4 Yq3 Ypg Ypf Ype Ypd Ypc Ypb
def Call.eq{C:Cx}{g:V}{args:List V}{st st':St}{u:V}(h:Call C g args st (fun v s=>v=u∧s=st')):C.call g args st=some (u,st'):=by
 obtain⟨v,s,e,rfl,rfl⟩:=h.ex
 exact e
def Zpy{C:Cx}{K:List Kf}{Q:Rs→Prop}{fr:Fr}{st:St}{i j:Nat}(h:¬j=i):Run C (.block i::K) (some (.ex (.exit j) fr st)) Q↔Run C K (some (.ex (.exit j) fr st)) Q:=Zpz (by
 cases hb:Nat.beq j i with
 |false=>rfl
 |true=>exact absurd (Yvu hb) h)
attribute [simp] Zpy
def Zvx(c:Int):Bool:=decide (97≤c∧c≤122∨65≤c∧c≤90)
def Yng(c:UInt8):Zvx (c.toNat:Int)=Yok c:=by
 unfold Zvx Yok
 rw[decide_eq_decide]
 omega
def Zan:List Int→Int
 |[]=>0
 |e::l=>if e=0 then Zan l else e
def Zag{α:Type}{l:List α}(h:k<l.length):∃d,l[k]?=some d:=⟨_,Yr7 h⟩
def Yh9(c:UInt8):Yok c=Zvx (u8I c):=(Yng c).symm
def Zr5(c:UInt8):Zj1 c=decide (48≤u8I c∧u8I c≤57):=by
 unfold Zj1 u8I;rw[decide_eq_decide];omega
def Ymi(c:UInt8):decide (c.toNat=95)=decide (u8I c=95):=by
 unfold u8I;rw[decide_eq_decide];omega
def Znt(k:Nat):List V:=(List.range 256).map fun i=>.bool (decide (48≤i∧i<48+k))
def Zdt(k:Nat):(Znt k).length=256:=by simp[Znt]
def Zhx{i:Nat}(hi:i<256):(Znt k)[i]?=some (.bool (decide (48≤i∧i<48+k))):=by simp[Znt,hi]
def Zwm(k:Nat):(Znt k).all V.one=true:=by simp[Znt,V.one]
def Yhe(hk:k<10):splice (Znt k) (48+k) [.bool true]=Znt (k+1):=by
 apply Ys1
 intro j
 unfold splice
 rw[Yth,List.getElem?_append,Ysi,Zdt,Ytf (by omega)]
 by_cases h1:j<48+k
 ·rw[Yr6 h1,Yso,Yr6 h1,Zhx (by omega),Zhx (by omega)]
  congr 3;rw[eq_iff_iff];omega
 ·rw[Yr3 h1]
  by_cases h2:j=48+k
  ·subst h2
   rw[Zhx (by omega)]
   simp
  ·rw[show j-(48+k)=(j-(48+k)-1)+1 by omega]
   simp only[Yvx,Yt9,Ysc,Ytu]
   rw[show 48+k+1+(j-(48+k)-1)=j by omega]
   by_cases h3:j<256
   ·rw[Zhx h3,Zhx h3];congr 3;rw[eq_iff_iff];omega
   ·rw[Ysk (by rw[Zdt];omega),Ysk (by rw[Zdt];omega)]
def Yds(k:Nat):(Znt k).take 256=Znt k:=Ysd (by rw[Zdt];omega)
def Yhd(j k:Nat):splice (Znt j) 0 (Znt k)=Znt k:=by
 unfold splice;rw[Zdt,Ytd (by rw[Zdt];omega)];simp
attribute [simp] Zdt Zwm Yds Yhd
def Zb8(s:Str):Bool:=s.all Zj1
def Yp0:Str:=[48,49,50,51,52,53,54,55,56,57]
def Ygw(hk:k<10):∃c,Yp0[k]?=some c∧u8I c=48+k:=by
 have:k=0∨k=1∨k=2∨k=3∨k=4∨k=5∨k=6∨k=7∨k=8∨k=9:=by omega
 rcases this with rfl|rfl|rfl|rfl|rfl|rfl|rfl|rfl|rfl|rfl<;>exact⟨_,rfl,rfl⟩
def Zd6{n:Int}(h1:0≤n)(h2:n<256):Zap .u8 n=n:=by
 rw[Zdh]
 simp[IntKind.wrap,IntKind.bits,IntKind.signed]
 omega
def Ziz{n:Int}(h1: -9223372036854775808≤n)(h2:n<9223372036854775808):IntKind.wrap .i64 n=n:=by
 simp[IntKind.wrap,IntKind.bits,IntKind.signed]
 omega
def Zg0(l:Str)(c:UInt8):numV (l++[c])=10*numV l+(c.toNat-48):=by simp[numV]
def Zmx{c:UInt8}(h:s[k]?=some c):numV (s.take (k+1))=10*numV (s.take k)+(c.toNat-48):=by
 rw[Yta,h]
 simp only[Option.toList,Zg0]
def Zka(h:Zb8 s=true){k:Nat}{c:UInt8}(hc:s[k]?=some c):48≤u8I c∧u8I c≤57:=by
 unfold Zb8 at h
 rw[Ys4]at h
 have:=h c (Yr8 hc)
 rw[Zr5]at this
 simpa using this
def Zpt{s:Str}(h:Zb8 s=true):∀k,k≤s.length→numV (s.take k)<10^k
 |0,_=>by simp[numV]
 |k+1,hk=>by
  obtain⟨c,hc⟩:=Zag (l:=s) (k:=k) (by omega)
  have h1:=Zpt h k (by omega)
  have h2:=Zka h hc
  unfold u8I at h2
  rw[Zmx hc,Ysr]
  omega
def Zd9(h:Zb8 s=true):numV s<10^s.length:=by
 have:=Zpt h s.length (Yr4 _)
 rwa [Ytr]at this
def Zvk{a b:Nat}(h:a≤b):10^a≤10^b:=Ys2 (by decide) h
def Yhg(h:k<9223372036854775808):Zdp .and .i64 (k:Int) 1=some (.int .i64 ((k%2:Nat):Int)):=by
 show some (V.int .i64 (IntKind.wrap .i64 (BitVec.ofInt 64 (k:Int)&&& BitVec.ofInt 64 1).toNat))=_
 have e:(BitVec.ofInt 64 1).toNat=2^1-1:=by decide
 rw[BitVec.toNat_and,Zjo k (by omega),e,Nat.and_two_pow_sub_one_eq_mod,Ziz (by omega) (by omega)]
def Yes:Zgk .shr .i64 (k:Int) 1=some (.int .i64 ((k/2:Nat):Int)):=by
 unfold Zgk
 have e:min (1:Int).toNat (IntKind.bits .i64)=1:=by decide
 rw[Yr3 (by decide),e]
 simp only[Yr1,V.int.injEq,true_and]
 rw[Int.fdiv_eq_ediv_of_nonneg _ (by decide)]
 rfl
variable {N i:Nat} {h:T O} {k v:V}
def Keeps.new{h1:T O}{n n1:Nat}(k:Keeps h n h1 n1)(o:O):Keeps h n (h1.set n1 o) (n1+1):=(k.set k.le).up (Yuw _)
abbrev FnV(C:Cx)(f:V)(args:List V)(h:T O)(n:Nat)(P:V→T O→Nat→Prop):Prop:=∀w,Call C f args ⟨h,n,w⟩ (Ret P h n w)
def Zkn{C:Cx}{f args h n w P K Q}(hf:FnV C f args h n P)(k:∀v h' n',Keeps h n h' n'→P v h' n'→Run C K (some (.val v ⟨h',n',w⟩)) Q):Run C K (Zqh (C.call f args ⟨h,n,w⟩)) Q:=
 Zd7 (hf w) fun v st'=>by
  obtain⟨h',n',w'⟩:=st'
  rintro⟨rfl,hk,hp⟩
  exact k v h' n' hk hp
def Zck(p:Nat→Bool)(k:Nat):Nat→Int
 |0=> -1
 |m+1=>if p k=true then (k:Int) else Zck p (k+1) m
def Zr0{p:Nat→Bool}:∀{m k:Nat},(0≤Zck p k m↔∃j,k≤j∧j<k+m∧p j=true)
 |0,k=>by simp[Zck];intro j h1 h2;omega
 |m+1,k=>by
  simp only[Zck]
  by_cases h:p k=true
  ·rw[Yr6 h];exact⟨fun _=>⟨k,Yr4 _,by omega,h⟩,fun _=>by omega⟩
  ·rw[Yr3 h,Zr0 (m:=m) (k:=k+1)]
   constructor
   ·rintro⟨j,h1,h2,h3⟩;exact⟨j,by omega,by omega,h3⟩
   ·rintro⟨j,h1,h2,h3⟩
    refine⟨j,?_,by omega,h3⟩
    have:j≠k:=fun hj=>h (hj▸h3)
    omega
def SlF(v:V):Prop:=v=.nilslice∨v=.empty∨∃i o n c z,v=.slice i o n c z
def Sl.form{l:List V}(s:Sl h N v l):SlF v:=by
 rcases s with⟨_,h|h⟩|⟨i,o,cp,c,e,rw,h,_⟩
 ·exact .inl h
 ·exact .inr (.inl h)
 ·exact .inr (.inr ⟨_,_,_,_,_,h⟩)
def SlF.one(h:SlF v):V.one v=true:=by
 rcases h with rfl|rfl|⟨_,_,_,_,_,rfl⟩<;>rfl
def SlF.cells(h:SlF v):V.cells v=[v]:=by
 rcases h with rfl|rfl|⟨_,_,_,_,_,rfl⟩<;>rfl
def strs(l:List Str):List V:=l.map .str
def Zby(l:List Str):(strs l).length=l.length:=by simp[strs]
def Zb5{l:List Str}{j:Nat}{n:Str}(h:l[j]?=some n):(strs l)[j]?=some (.str n):=by simp[strs,h]
attribute [simp] Zby
def Zb9(s:Stg)(inp:V):List V:=[.str s.name,.str s.op,.str s.factor,inp,.int .i64 s.cost]
def Gr(h:T O)(N:Nat)(v:V)(g:List Stg):Prop:=∃l:List (List V),Sn 5 h N v l∧l.length=g.length∧∀(j:Nat) (s:Stg),g[j]?=some s→∃inp,l[j]?=some (Zb9 s inp)∧Sl h N inp (strs s.inputs)
def Gr.keep{h':T O}{N':Nat}{g:List Stg}(s:Gr h N v g)(k:Keeps h N h' N'):Gr h' N' v g:=by
 obtain⟨l,h1,h2,h3⟩:=s
 refine⟨l,h1.keep k,h2,fun j s hs=>?_⟩
 obtain⟨inp,h4,h5⟩:=h3 j s hs
 exact⟨inp,h4,h5.keep k⟩
def Gr.len{g:List Stg}(s:Gr h N v g):Zot v=some g.length:=by
 obtain⟨l,h1,h2,h3⟩:=s
 rw[h1.len,h2]
def Gr.at{g:List Stg}(s:Gr h N v g){j:Nat}{x:Stg}(hj:g[j]?=some x):∃i o c e rw inp,Zns v=some (i,o)∧i<N∧h.get i=some (.cells c e rw)∧slc c (o+j*5) 5=some (Zb9 x inp)∧Sl h N inp (strs x.inputs):=by
 obtain⟨l,h1,h2,h3⟩:=s
 obtain⟨inp,h4,h5⟩:=h3 j x hj
 obtain⟨i,o,c,e,rw,q1,q2,q3,q4⟩:=h1.at h4
 exact⟨i,o,c,e,rw,inp,q1,q2,q3,q4,h5⟩
def Gr.slice{g:List Stg}{w:List Nat}(s:Gr h N v g){lo hi:Nat}(h1:lo≤hi)(h2:hi≤g.length)(x y:Option V)(hx:x=some (.int .i64 lo)∨x=none∧lo=0)(hy:y=some (.int .i64 hi)∨y=none∧hi=g.length):
  ∃v',Zcx ⟨h,N,w⟩ 5 (some v) (some x) (some y) (some none)=some (v',⟨h,N,w⟩)∧Gr h N v' ((g.take hi).drop lo):=by
 obtain⟨l,g1,g2,g3⟩:=s
 obtain⟨v',e1,e2⟩:=Zzz (z:=5) (w:=w) (by decide) g1 h1 (by omega) x y hx (by rw[g2];exact hy)
 refine⟨v',e1,(l.take hi).drop lo,e2,by simp[g2],fun j s hs=>?_⟩
 have hj:lo+j<hi:=by
  apply Ytc;intro hc
  rw[Ysc,Yso,Yr3 (by omega)]at hs;cases hs
 rw[Ysc,Yso,Yr6 hj]at hs
 obtain⟨inp,q1,q2⟩:=g3 _ s hs
 exact⟨inp,by rw[Ysc,Yso,Yr6 hj];exact q1,q2⟩
def Zjd{c:List V}{o:Nat}{s:Stg}{inp:V}(h:slc c o 5=some (Zb9 s inp)):Zam c o (some 5)=some (.agg (Zb9 s inp))∧c[o]?=some (.str s.name)∧c[o+1]?=some (.str s.op)∧c[o+2]?=some (.str s.factor)∧c[o+3]?=some inp∧c[o+4]?=some (.int .i64 s.cost):=
 ⟨Yar h,Zkk h (f:=0) (by omega),Zkk h (f:=1) (by omega),Zkk h (f:=2) (by omega),Zkk h (f:=3) (by omega),Zkk h (f:=4) (by omega)⟩
def Zox{n:Str}:∀(g:List Stg) (k:Nat) {p:Nat→Bool},(∀(j:Nat) (s:Stg),g[j]?=some s→p (k+j)=decide (s.name=n))→Zck p k g.length=if pos g n<g.length then ((k+pos g n:Nat):Int) else -1
 |[],k,p,_=>by simp[Zck,pos]
 |s::g,k,p,h=>by
  have h0:=h 0 s rfl
  simp only[Ytb]at h0
  have ih:=Zox (n:=n) g (k+1) (p:=p) fun j s hs=>by
   rw[show k+1+j=k+(j+1) by omega];exact h (j+1) s (by simpa using hs)
  simp only[Yr2,Zck,h0,pos,decide_eq_true_eq]
  by_cases hn:s.name=n
  ·simp[hn]
  ·simp only[hn,if_false,ih]
   by_cases h2:pos g n<g.length
   ·rw[Yr6 h2,Yr6 (by omega)];omega
   ·rw[Yr3 h2,Yr3 (by omega)]
def You{a b c d e:V}:slc [a,b,c,d,e] 0 5=some [a,b,c,d,e]:=rfl
def Yov{a b:V}:slc [a,b] 0 2=some [a,b]:=rfl
attribute [simp] You Yov
def Gr.form{g:List Stg}(s:Gr h N v g):SlF v:=by
 obtain⟨l,h1,_⟩:=s
 rcases h1 with⟨_,h|h⟩|⟨i,o,cp,c,e,rw,h,_⟩
 ·exact .inl h
 ·exact .inr (.inl h)
 ·exact .inr (.inr ⟨_,_,_,_,_,h⟩)
def Yb2(st:St)(zero:V)(ok:Bool):Option (Option (Nat×V))→Option (V×St)
 |some (some (_,v))=>some (if ok then .tup [v,.bool true] else v,st)
 |some none=>some (if ok then .tup [zero,.bool false] else zero,st)
 |none=>none
def Zvv(st:St)(kd:Zky)(zero:V)(ok:Bool)(k:V):Option O→Option (V×St)
 |some (.map es)=>Yb2 st zero ok (findV kd k es 0)
 |_=>none
def Ykr(st:St)(kd:Zky)(zero:V)(ok:Bool):Option V→Option V→Option (V×St)
 |some (.map i),some k=>if kd.fits k=true then Zvv st kd zero ok k (st.h.get i) else none
 |some .nilmap,some k=>if kd.fits k=true then Yb2 st zero ok (some none) else none
 |_,_=>none
def Ztg{kd:Zky}{zero:V}{m k:Src}{ok:Bool}{call:Za1}{r:T V}{st:St}:Zey kd zero m k ok call r st=Ykr st kd zero ok (m.ev r) (k.ev r):=by
 unfold Zey Ykr
 rcases m.ev r with _|m
 ·rfl
 ·rcases k.ev r with _|k
  ·cases m<;>rfl
  ·cases m<;>simp only[]<;>(try (by_cases hf:kd.fits k=true<;>simp[hf]))<;>try rfl
   ·rename_i i
    rcases st.h.get i with _|o
    ·rfl
    ·cases o<;>simp only[Zvv]
     rename_i es
     rcases findV kd k es 0 with _|_|⟨_,_⟩<;>rfl
def Yb3{st:St}{zero:V}{ok:Bool}{s:Str}:Ykr st .str zero ok (some (.map i)) (some (.str s))=Zvv st .str zero ok (.str s) (st.h.get i):=rfl
def Zt0{st:St}{kd:Zky}{zero:V}{ok:Bool}{es:List (V×V)}:Zvv st kd zero ok k (some (.map es))=Yb2 st zero ok (findV kd k es 0):=rfl
attribute [simp] Ztg Yb3 Zt0 Zhq
def Ykc(st:St)(i:Nat)(k v:V)(es:List (V×V)):Option (Option (Nat×V))→Option (V×St)
 |some (some (j,_))=>some (.tup [],st.write i (.map (es.set j (k,v))))
 |some none=>some (.tup [],st.write i (.map (es++[(k,v)])))
 |none=>none
def Zvp(st:St)(kd:Zky)(i:Nat)(k v:V):Option O→Option (V×St)
 |some (.map es)=>Ykc st i k v es (findV kd k es 0)
 |_=>none
def msetK(st:St)(kd:Zky):Option V→Option V→Option V→Option (V×St)
 |some (.map i),some k,some v=>if kd.fits k=true then Zvp st kd i k v (st.h.get i) else none
 |_,_,_=>none
def Ztf{kd:Zky}{m k v:Src}{call:Za1}{r:T V}{st:St}:Zef kd m k v call r st=msetK st kd (m.ev r) (k.ev r) (v.ev r):=by
 unfold Zef msetK
 rcases m.ev r with _|m
 ·rfl
 ·rcases k.ev r with _|k
  ·cases m<;>rfl
  ·rcases v.ev r with _|v
   ·cases m<;>rfl
   ·cases m with
    |map i=>
     simp only[]
     by_cases hf:kd.fits k=true
     ·simp only[hf,if_true]
      rcases st.h.get i with _|o
      ·rfl
      ·cases o<;>simp only[Zvp]
       rename_i es
       rcases findV kd k es 0 with _|_|⟨_,_⟩<;>rfl
     ·simp[hf]
    |_=>rfl
def Ybd{st:St}{s:Str}:msetK st .str (some (.map i)) (some (.str s)) (some v)=Zvp st .str i (.str s) v (st.h.get i):=rfl
def Ztp{st:St}{kd:Zky}{es:List (V×V)}:Zvp st kd i k v (some (.map es))=Ykc st i k v es (findV kd k es 0):=rfl
def Zxn{st:St}{es:List (V×V)}:Ykc st i k v es (some none)=some (.tup [],st.write i (.map (es++[(k,v)]))):=rfl
attribute [simp] Ztf Ybd Ztp Zxn
def Zlq{g:List Stg}{s:Stg}{o:Opn}{E4 E6:Int}(ho:opOf s.op=some o∨opOf s.op=none)(h4:opOf s.op=some o→E4=(Zcl o s.factor:Nat))(h6:E6=if s.inputs.length<o.lo∨o.hi<s.inputs.length then 2 else 0):
  Zan [if Zgm s.name=false then 8 else 0,if 0≤Zhy g s.name then 9 else 0,if opOf s.op=none then 13 else 0,E4,if 16<(s.inputs.length:Int) then 5 else 0,E6,if ∃x,x∈s.inputs∧g.length≤pos g x then 10 else 0,if s.cost<1∨1000<s.cost then 3 else 0]=(chkStage g s:Nat):=by
 have e2:(0≤Zhy g s.name)↔pos g s.name<g.length:=by
  unfold Zhy;split<;>omega
 have e5:(16<(s.inputs.length:Int))↔16<s.inputs.length:=by omega
 have e7:(s.inputs.any (fun n=>decide (g.length≤pos g n))=true)↔∃x,x∈s.inputs∧g.length≤pos g x:=by simp
 unfold chkStage
 simp only[Zan,e2,e5,e7]
 by_cases c1:Zgm s.name=false
 ·simp[c1]
 by_cases c2:pos g s.name<g.length
 ·simp[c1,c2]
 rcases ho with ho|ho
 ·rw[ho]
  rw[h4 ho,h6]
  simp only[c1,c2,if_false,if_true]
  by_cases c4:Zcl o s.factor=0
  ·by_cases c5:16<s.inputs.length
   ·simp[c4,c5]
   ·by_cases c6:s.inputs.length<o.lo∨o.hi<s.inputs.length
    ·simp[c4,c5,c6]
    ·by_cases c7:∃x,x∈s.inputs∧g.length≤pos g x
     ·simp[c4,c5,c6,c7]
     ·by_cases c8:s.cost<1∨1000<s.cost
      ·simp[c4,c5,c6,c7,c8]
      ·simp[c4,c5,c6,c7,c8]
  ·simp[c4]
 ·rw[ho];simp[c1,c2]
def Keeps.then{h h1 h2:T O}{n n1 n2:Nat}(a:Keeps h n h1 n1)(b:Keeps h1 n h2 n2):Keeps h n h2 n2:=⟨b.le,fun i hi=>(b.get i hi).trans (a.get i hi)⟩
def Zfb(l:List Int):List (List V):=l.map fun x=>[.int .i64 x]
def Zdm(l:List Int):(Zfb l).length=l.length:=by simp[Zfb]
def Zko:∀(l:List Int),(Zfb l).flatten=dI l
 |[]=>rfl
 |x::l=>by
  have:=Zko l
  simp only[Zfb,Yts,List.flatten_cons,dI]at this ⊢
  rw[this];rfl
def Zde(l:List Int)(x:Int):Zfb (l++[x])=Zfb l++[[.int .i64 x]]:=by simp[Zfb]
def Own.sl{e:TypeId}{N0:Nat}{h:T O}{N:Nat}{v:V}{l:List Int}(s:Own 1 e N0 h N v (Zfb l)):Sl h N v (dI l):=by
 have:=s.sn
 have e1:Zfb l=(dI l).map fun x=>[x]:=by simp[Zfb,dI]
 rw[e1]at this
 exact Sn.one.1 this
structure Yiv (g:List Stg):Prop where
 le:g.length≤16
 name:∀(j:Nat) (s:Stg),g[j]?=some s→j≤pos (g.take j) s.name
 inp:∀(j:Nat) (s:Stg),g[j]?=some s→∀n∈s.inputs,pos (g.take j) n<j
 cost:∀s∈g,1≤s.cost∧s.cost≤1000
def Ziu{g:List Stg}{s:Stg}(h:chkStage g s=0):g.length≤pos g s.name∧(∀n∈s.inputs,pos g n<g.length)∧1≤s.cost∧s.cost≤1000:=by
 unfold chkStage at h
 split at h
 ·cases h
 split at h
 ·cases h
 split at h
 ·cases h
 split at h
 ·rename_i h1;exact absurd h h1
 split at h
 ·cases h
 split at h
 ·cases h
 split at h
 ·cases h
 split at h
 ·cases h
 rename_i h1 h2 _ _ _ _ _ _ h3 h4
 refine⟨by omega,fun n hn=>?_,by omega,by omega⟩
 simp only[List.any_eq_true,decide_eq_true_eq,not_exists,not_and]at h3
 have:=h3 n hn
 omega
def Zuh:∀{t b:List Stg},Zqa b t=0→∀(j:Nat) (s:Stg),t[j]?=some s→chkStage (b++t.take j) s=0
 |[],_,_,j,s,h=>by simp at h
 |x::t,b,h,0,s,hs=>by
  simp only[Zqa]at h
  simp at hs;subst hs
  by_cases h0:chkStage b x=0
  ·simpa using h0
  ·rw[Yr6 h0]at h;exact absurd h h0
 |x::t,b,h,j+1,s,hs=>by
  simp only[Zqa]at h
  by_cases h0:chkStage b x=0
  ·rw[Yr3 (by simp[h0])]at h
   have:=Zuh h j s (by simpa using hs)
   simpa using this
  ·rw[Yr6 h0]at h;exact absurd h h0
def Zui{g:List Stg}(h:chkGraph g=0):Yiv g∧g≠[]:=by
 unfold chkGraph at h
 split at h
 ·cases h
 split at h
 ·cases h
 rename_i h1 h2
 have hk:=Zuh h
 simp only[List.nil_append]at hk
 have hlen:∀(j:Nat) (s:Stg),g[j]?=some s→(g.take j).length=j:=fun j s hs=>by
  have:=Zaz hs
  simp;omega
 refine⟨⟨by omega,fun j s hs=>?_,fun j s hs n hn=>?_,fun s hs=>?_⟩,fun h=>by rw[h]at h1;simp at h1⟩
 ·have:=(Ziu (hk j s hs)).1;rw[hlen j s hs]at this;exact this
 ·have:=(Ziu (hk j s hs)).2.1 n hn;rw[hlen j s hs]at this;exact this
 ·obtain⟨j,hj⟩:=Yuk hs
  exact(Ziu (hk j s hj)).2.2
def Zvf:∀{g:List Stg} {n:Str} {j:Nat},pos (g.take j) n<(g.take j).length→pos g n=pos (g.take j) n
 |[],_,j,h=>by simp at h
 |x::g,n,0,h=>by simp at h
 |x::g,n,j+1,h=>by
  simp only[List.take_succ_cons,pos]at h ⊢
  by_cases hn:x.name=n
  ·simp[hn]
  ·simp only[hn,if_false,Yr2]at h ⊢
   rw[Zvf (g:=g) (n:=n) (j:=j) (by omega)]
variable {N:Nat} {h:T O} {l:List V} {v:V}
def Cp(h:T O)(N:Nat)(v:V)(l:List V):Prop:=∃j c,v=.slice j 0 l.length c 1∧j<N∧h.get j=some (.cells l 9 true)∧∀k,c=some k→l.length≤k
def Cp.keep{h':T O}{N':Nat}(s:Cp h N v l)(k:Keeps h N h' N'):Cp h' N' v l:=by
 obtain⟨j,c,h1,h2,h3,h4⟩:=s
 exact⟨j,c,h1,Ysg h2 k.le,(k.get j h2).trans h3,h4⟩
def Cp.sl(s:Cp h N v l):Sl h N v l:=by
 obtain⟨j,c,h1,h2,h3,h4⟩:=s
 rw[h1];exact Sl.row h2 h3 rfl h4
def Zzx{w:List Nat}(s:Sl h N v l):Zax ⟨h,N,w⟩ 1 v=some (l.length,l):=by
 rcases s with⟨rfl,rfl|rfl⟩|⟨i,o,cp,c,e,rw,rfl,h2,h3,h4,h5,h6⟩
 ·rfl
 ·rfl
 ·simp only[Zax,if_true,St.row,h3,Yu6]
  have:slc c o l.length=some l:=by
   unfold slc
   rw[Yr6 h5]
   congr 1
   apply Ys1
   intro j
   rw[Yso]
   by_cases hj:j<l.length
   ·rw[Yr6 hj,Ysc];exact h4 j hj
   ·rw[Yr3 hj,Ysk (by omega)]
  rw[this]
def Zup{i:Nat}{w:List Nat}(hr:h.get i=some (.cells [] 9 true))(hi:i<N)(hs:Sl h N v l)(hl:l.length<100000):
  ∃v' h' n',Zbp ⟨h,N,w⟩ 1 16 9 (.slice i 0 0 (some 0) 1) v=some (v',⟨h',n',w⟩)∧Keeps h N h' n'∧Cp h' n' v' l:=by
 by_cases h0:l.length=0
 ·have:l=[]:=Ysh h0
  subst this
  refine⟨.slice i 0 0 (some 0) 1,h,N,?_,Keeps.refl,i,some 0,rfl,hi,hr,fun k hk=>by simp⟩
  simp[Zbp,Zzx hs]
 ·refine⟨.slice N 0 l.length none 1,h.set N (.cells l 9 true),N+1,?_,Keeps.refl.new _,N,none,rfl,by omega,by rw[T.get_set];simp,fun k hk=>by cases hk⟩
  have hb:¬(Zcd<2*(0+l.length)*16):=by unfold Zcd;omega
  have hne:l≠[]:=fun hc=>h0 (by rw[hc];rfl)
  simp[Zbp,Zzx hs,hb,St.row,hr,hne,slc,St.alloc]
  simp[Zcd];omega
def PgA(h:T O)(N0 N:Nat)(u:V)(g:List Stg)(k:Nat):Prop:=∃l:List (List V),Own 5 126 N0 h N u l∧l.length=k∧∀(j:Nat) (s:Stg),j<k→g[j]?=some s→∃inp,l[j]?=some (Zb9 s inp)∧Cp h N inp (strs s.inputs)
def PgA.keep{h':T O}{N0 N':Nat}{u:V}{g:List Stg}{k:Nat}(s:PgA h N0 N u g k)(kk:Keeps h N h' N'):PgA h' N0 N' u g k:=by
 obtain⟨l,h1,h2,h3⟩:=s
 refine⟨l,h1.keep kk,h2,fun j s hj hs=>?_⟩
 obtain⟨inp,h4,h5⟩:=h3 j s hj hs
 exact⟨inp,h4,h5.keep kk⟩
end Go.Mx
