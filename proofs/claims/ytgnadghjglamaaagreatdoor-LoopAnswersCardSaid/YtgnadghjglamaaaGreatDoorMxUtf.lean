/-Characters of a string, one after the ot-/
import Derived.Test.YtgnadghjglamaaaGreatDoorMxWord
set_option linter.all false
namespace Go.Mx
open Go
variable {i:Nat} {j:Int} {k:IntKind} {r:T V} {s:Str} {x:Src}
def Yl8(s:Str)(p:Nat):Int:=(Utf8.decode ⟨s.toArray⟩ p).1
def Yl7(s:Str)(p:Nat):Nat:=(Utf8.decode ⟨s.toArray⟩ p).2
def Zm3(i:Nat)(st:St):Option (Str×Nat)→Option (V×St)
 |some (s,p)=>if p<s.length then some (.tup [.bool true,.int .i64 p,.int .i32 (Utf8.decode ⟨s.toArray⟩ p).1],st.write i (.siter s (p+(Utf8.decode ⟨s.toArray⟩ p).2))) else some (.tup [.bool false],st)
 |none=>none
def Zu0:Option O→Option (Str×Nat)
 |some (.siter s p)=>some (s,p)
 |_=>none
def Yjq(st:St):Option V→Option (V×St)
 |some (.ptr i 0)=>Zm3 i st (Zu0 (st.h.get i))
 |_=>none
def Zqw{call:Za1}{st:St}:Zdy x call r st=Yjq st (x.ev r):=by
 unfold Zdy Yjq
 rcases x.ev r with _|v
 ·rfl
 ·cases v<;>try rfl
  rename_i i o
  cases o with
  |zero=>
   simp only[Zu0,Zm3]
   rcases st.h.get i with _|o
   ·rfl
   ·cases o<;>rfl
  |succ=>rfl
def Zxj{st:St}:Yjq st (some (.ptr i 0))=Zm3 i st (Zu0 (st.h.get i)):=rfl
def Zsy{p:Nat}:Zu0 (some (.siter s p))=some (s,p):=rfl
def Ya7{st:St}{p:Nat}(h:p<s.length):Zm3 i st (some (s,p))=some (.tup [.bool true,.int .i64 p,.int .i32 (Yl8 s p)],st.write i (.siter s (p+Yl7 s p))):=by simp[Zm3,h,Yl8,Yl7]
def Zxk{st:St}:Zm3 i st (some (s,s.length))=some (.tup [.bool false],st):=by simp[Zm3]
def Zcg(st:St):Option V→Option (Option V)→Option (Option V)→Option (V×St)
 |some (.str s),some lo,some hi=>match Zax hi s.length s.length with
   |some h=>match Zax lo h 0 with
    |some l=>some (.str ((s.take h).drop l),st)
    |none=>none
   |none=>none
 |_,_,_=>none
def Zpp{lo hi:Option Src}{call:Za1}{st:St}:Zbn x lo hi call r st=Zcg st (x.ev r) (evOpt r lo) (evOpt r hi):=by
 unfold Zbn Zcg;rfl
def Zdb{st:St}(h0:0≤j)(h1:j≤s.length):Zcg st (some (.str s)) (some (some (.int k j))) (some none)=some (.str (s.drop j.toNat),st):=by
 simp[Zcg,Zax,Zd5,h0,h1]
def Zks{st:St}(h0:0≤j)(h1:j≤s.length):Zcg st (some (.str s)) (some none) (some (some (.int k j)))=some (.str (s.take j.toNat),st):=by
 simp[Zcg,Zax,Zd5,h0,h1]
def Zog{st:St}{k':IntKind}{i:Int}(h0:0≤i)(h1:i≤j)(h2:j≤s.length):Zcg st (some (.str s)) (some (some (.int k i))) (some (some (.int k' j)))=some (.str ((s.take j.toNat).drop i.toNat),st):=by
 have h3:0≤j:=by omega
 have h4:max j 0=j:=by omega
 simp[Zcg,Zax,Zd5,h0,h1,h2,h3,h4]
def Zno(s:Str):List V:=s.map fun b=>.int .u8 (u8I b)
def Zy8(s:Str):(Zno s).length=s.length:=by simp[Zno]
def Zy9{k:Nat}{c:UInt8}(h:s[k]?=some c):(Zno s)[k]?=some (.int .u8 (u8I c)):=by simp[Zno,h]
def sbK(elem:TypeId)(st:St):Option V→Option (V×St)
 |some (.str s)=>some (.slice st.n 0 s.length none 1,st.alloc (.cells (Zno s) elem true))
 |_=>none
def Zpo{elem:TypeId}{call:Za1}{st:St}:Zcj elem x call r st=sbK elem st (x.ev r):=by
 unfold Zcj sbK;rfl
def Yet{elem:TypeId}{st:St}:sbK elem st (some (.str s))=some (.slice st.n 0 s.length none 1,st.alloc (.cells (Zno s) elem true)):=rfl
attribute [simp] Zpo Yet Zy8 Zqw Zxj Zsy Ya7 Zxk Zpp Zdb Zks Zog Zc3
def Zj6:∀(s:Str) (i:Nat),Ziu 47 s i=if slashAt s<s.length then ((i+slashAt s:Nat):Int) else -1
 |[],i=>rfl
 |c::s,i=>by
  simp only[Ziu,slashAt]
  have e:(c==47)=decide (c.toNat=47):=by
   rw[Bool.eq_iff_iff]
   simp only[beq_iff_eq,decide_eq_true_eq]
   exact⟨fun h=>by rw[h];rfl,fun h=>UInt8.toNat_inj.1 h⟩
  rw[e]
  by_cases h:c.toNat=47
  ·simp[h]
  ·simp only[h,decide_false,if_false,Yr3,Zj6 s (i+1),Yrr]
   by_cases h2:slashAt s<s.length
   ·rw[Yrw h2,Yrw (by omega)];omega
   ·rw[Yrt h2,Yrt (by omega)]
variable {d:Int} {j k n:Nat} {l:List Int}
def vI:List Int→Int
 |[]=>0
 |d::l=>d+1000000000*vI l
def pI(k:Nat):Int:=1000000000^k
def Zc2(k:Nat):pI (k+1)=1000000000*pI k:=by unfold pI;rw[Int.pow_succ,Int.mul_comm]
def Yjj:pI 0=1:=rfl
def Zjt(k:Nat):0<pI k:=by unfold pI;exact Int.pow_pos (by decide)
def Zvd(i j:Nat):pI (i+j)=pI i*pI j:=by unfold pI;exact Int.pow_add ..
def Zmc:∀(l m:List Int),vI (l++m)=vI l+pI l.length*vI m
 |[],m=>by simp[vI,pI]
 |d::l,m=>by
  simp only[Yuj,vI,Zmc l m,Yrr,Zc2]
  grind
def Zfx(l:List Int)(d:Int):vI (l++[d])=vI l+pI l.length*d:=by simp[Zmc,vI]
def Zpa(n:Nat):vI (List.replicate n 0)=0:=by
 induction n with
 |zero=>rfl
 |succ n ih=>simp[List.replicate_succ,vI,ih]
def Zb4{α:Type}{l:List α}{d:α}(h:l[k]?=some d):k<l.length:=by
 apply Ys6;intro hc;rw[Yr6 hc]at h;cases h
def Zbf(h:l[k]?=some d):vI (l.take (k+1))=vI (l.take k)+pI k*d:=by
 have hk:=Zb4 h
 rw[Yup,h]
 simp only[Option.toList]
 rw[Zfx,Ysi,Ysz (by omega)]
def Zjb(l:List Int)(k:Nat)(hk:k≤l.length):vI l=vI (l.take k)+pI k*vI (l.drop k):=by
 have:=Zmc (l.take k) (l.drop k)
 rw[Ytj,Ysi,Ysz hk]at this
 exact this
def Zjc:∀{l:List Int} {k:Nat} {c:Int},l[k]?=some c→∀(v:Int),vI (l.set k v)=vI l+pI k*(v-c)
 |[],k,c,h,v=>by simp at h
 |d::l,0,c,h,v=>by
  simp at h;subst h
  simp only[List.set_cons_zero,vI,Yjj];omega
 |d::l,k+1,c,h,v=>by
  have:=Zjc (l:=l) (k:=k) (c:=c) (by simpa using h) v
  simp only[List.set_cons_succ,vI,this,Zc2]
  grind
def Di(l:List Int):Prop:=∀d∈l,0≤d∧d<1000000000
def Di.get(h:Di l){k:Nat}{d:Int}(hd:l[k]?=some d):0≤d∧d<1000000000:=h d (Yr1 hd)
def Di.set(h:Di l){k:Nat}{v:Int}(h0:0≤v)(h1:v<1000000000):Di (l.set k v):=fun d hd=>by
 rcases Ytn hd with hd|rfl
 ·exact h d hd
 ·exact⟨h0,h1⟩
def Di.app{m:List Int}(h:Di l)(h':Di m):Di (l++m):=fun d hd=>by
 rcases Ysq.1 hd with hd|hd
 ·exact h d hd
 ·exact h' d hd
def Di.one{v:Int}(h0:0≤v)(h1:v<1000000000):Di [v]:=fun d hd=>by simp at hd;subst hd;exact⟨h0,h1⟩
def Di.nil:Di []:=fun d hd=>by simp at hd
def Di.zeros(n:Nat):Di (List.replicate n 0):=fun d hd=>by rw[Yu5]at hd;rw[hd.2];decide
def Di.take(h:Di l)(k:Nat):Di (l.take k):=fun d hd=>h d (Ytx hd)
def Di.drop(h:Di l)(k:Nat):Di (l.drop k):=fun d hd=>h d (List.mem_of_mem_drop hd)
def Zih:∀{l:List Int},Di l→0≤vI l
 |[],_=>Int.le_refl _
 |d::l,h=>by
  have h1:=h d Yst
  have h2:=Zih (l:=l) fun e he=>h e (Ysj _ he)
  simp only[vI];omega
def Zii:∀{l:List Int},Di l→vI l<pI l.length
 |[],_=>by decide
 |d::l,h=>by
  have h1:=h d Yst
  have h2:=Zii (l:=l) fun e he=>h e (Ysj _ he)
  simp only[vI,Yrr,Zc2];omega
def zI(l:List Int)(j:Nat):Int:=l[j]?.getD 0
def Yih(h:l[j]?=some d):zI l j=d:=by simp[zI,h]
def Zsh(h:l.length≤j):zI l j=0:=by simp[zI,h]
def Yii{l:List Int}(h:Di l)(j:Nat):0≤zI l j∧zI l j<1000000000:=by
 unfold zI
 cases hj:l[j]? with
 |none=>simp
 |some d=>exact h.get hj
def Zmb{l:List Int}{k:Nat}:vI (l.take (k+1))=vI (l.take k)+pI k*zI l k:=by
 unfold zI
 cases h:l[k]? with
 |some d=>exact Zbf h
 |none=>
  have hk:l.length≤k:=by
   apply Ytr;intro hc;rw[Yrx hc]at h;cases h
  rw[Yr2 (by omega),Yr2 hk];simp
def Zaz{α:Type}{l:List α}{d:α}(h:l[k]?=some d):l.drop k=d::l.drop (k+1):=by
 obtain⟨hk,hs⟩:=Ys9.1 h
 rw[←hs];exact Yt2 hk
def dI(l:List Int):List V:=l.map fun n=>.int .i64 n
def Zat(l:List Int):(dI l).length=l.length:=by simp[dI]
def Zbj{n:Int}(h:l[j]?=some n):(dI l)[j]?=some (.int .i64 n):=by simp[dI,h]
attribute [simp] Zat
def Zid{v:Int}(h:k<l.length):splice (dI l) k [.int .i64 v]=dI (l.set k v):=by
 unfold splice dI
 apply Ysw
 intro j
 simp only[Ytg,Yso,List.getElem?_set]
 rw[Ysy,List.getElem?_append,Ysi,Yug]
 by_cases h1:j<k
 ·rw[Yrw (by omega),Ysh,Yrw h1,Yso,Yrt (by omega)]
 ·rw[Yrt (by omega)]
  by_cases h2:j=k
  ·subst h2
   rw[show j-min j l.length=0 by omega,Yrw rfl,Yrw h];rfl
  ·rw[show j-min k l.length=(j-k-1)+1 by omega,Yrt (by omega)]
   simp only[Yvk,Ytv,Yr4,Yso]
   rw[show k+1+(j-k-1)=j by omega]
def Zp2:Zc8 [.int .i64 0] n=dI (List.replicate n 0):=by rw[Yg9];simp[dI]
def Zf0:List Int→List Int
 |[]=>[]
 |d::l=>match Zf0 l with
  |[]=>if d=0 then [] else [d]
  |t=>d::t
def Zkr:∀(l:List Int),Zf0 (l++[0])=Zf0 l
 |[]=>rfl
 |d::l=>by simp only[Yuj,Zf0,Zkr l]
def Zoe{d:Int}(hd:d≠0):∀(l:List Int),Zf0 (l++[d])=l++[d]
 |[]=>by simp[Zf0,hd]
 |e::l=>by
  simp only[Yuj,Zf0,Zoe hd l]
  cases l<;>rfl
def Zqk:∀(l:List Int),(Zf0 l).length≤l.length
 |[]=>Yru _
 |d::l=>by
  have ih:=Zqk l
  simp only[Zf0]
  split
  ·split<;>simp
  ·simp only[Yrr];omega
def ds(n:Nat):List Int:=if h:n=0 then [] else ((n%1000000000:Nat):Int)::ds (n/1000000000)
termination_by n
decreasing_by exact Yus (by omega) (by decide)
def Zcm:ds 0=[]:=by rw[ds];simp
def Zhe(h:n≠0):ds n=((n%1000000000:Nat):Int)::ds (n/1000000000):=by rw[ds];simp[h]
def Zbg:∀(n:Nat),vI (ds n)=n:=by
 intro n
 induction n using Nat.strongRecOn with
 |_ n ih=>
  by_cases h:n=0
  ·subst h;rw[Zcm];rfl
  ·rw[Zhe h]
   simp only[vI]
   rw[ih (n/1000000000) (Yus (by omega) (by decide))]
   omega
def Zce(n:Nat):Di (ds n):=by
 induction n using Nat.strongRecOn with
 |_ n ih=>
  by_cases h:n=0
  ·subst h;rw[Zcm];exact Di.nil
  ·rw[Zhe h]
   intro d hd
   rcases Yss.1 hd with rfl|hd
   ·omega
   ·exact ih (n/1000000000) (Yus (by omega) (by decide)) d hd
def Zpb:∀{l:List Int},Di l→Zf0 l=ds (vI l).toNat
 |[],_=>by simp[Zf0,vI,Zcm]
 |d::l,h=>by
  have hl:Di l:=fun e he=>h e (Ysj _ he)
  have ih:=Zpb hl
  have hd:=h d Yst
  have hn:=Zih hl
  simp only[Zf0,vI,ih]
  by_cases h0:vI l=0
  ·rw[h0]
   simp only[Int.toNat_zero,Zcm,Int.mul_zero,Int.add_zero]
   by_cases hd0:d=0
   ·simp[hd0,Zcm]
   ·rw[Zhe (by omega),Ytl (by omega),Yt0 (by omega),Zcm];simp[hd0];omega
  ·have h3:(d+1000000000*vI l).toNat≠0:=by omega
   rw[Zhe h3]
   have h1:(d+1000000000*vI l).toNat/1000000000=(vI l).toNat:=by omega
   have h2:(((d+1000000000*vI l).toNat%1000000000:Nat):Int)=d:=by omega
   rw[h1,h2]
   split
   ·rename_i hc;rw[Zhe (by omega)]at hc;cases hc
   ·rfl
def Zfz(h:Di l){n:Nat}(hn:vI l=n):Zf0 l=ds n:=by rw[Zpb h,hn];rfl
def Yky(n:Nat):Zf0 (ds n)=ds n:=Zfz (Zce n) (Zbg n)
def Zdq:ds n=[]↔n=0:=by
 constructor
 ·intro h
  by_cases h0:n=0
  ·exact h0
  ·rw[Zhe h0]at h;cases h
 ·intro h;rw[h,Zcm]
def Ykz(h:n≠0):∃d,(ds n)[(ds n).length-1]?=some d∧0<d:=by
 have hne:ds n≠[]:=fun hc=>h (Zdq.1 hc)
 obtain⟨l,d,hd⟩:∃l d,ds n=l++[d]:=⟨(ds n).dropLast,(ds n).getLast hne,(Yvl hne).symm⟩
 refine⟨d,by rw[hd,Yr8,Ytg];simp,?_⟩
 have h1:=Zce n d (by rw[hd];exact List.mem_append_right _ Yst)
 have:d≠0:=fun h0=>by
  have h2:=Yky n
  rw[hd,h0,Zkr]at h2
  have:=Zqk l
  rw[h2]at this;simp at this;omega
 omega
def Zfq{n k:Nat}(h:n<1000000000^k):(ds n).length≤k:=by
 induction k generalizing n with
 |zero=>
  have:n=0:=by simpa using h
  rw[this,Zcm];simp
 |succ k ih=>
  by_cases h0:n=0
  ·rw[h0,Zcm];simp
  ·rw[Zhe h0]
   have:=ih (n:=n/1000000000) ((Ysm (by decide)).2 (by rw[←Ysg];exact h))
   simp only[Yrr];omega
def Dn(h:T O)(N:Nat)(v:V)(n:Nat):Prop:=Sl h N v (dI (ds n))
def Dn.keep{h h':T O}{N N':Nat}{v:V}(s:Dn h N v n)(k:Keeps h N h' N'):Dn h' N' v n:=Sl.keep s k
variable {w:List Int}
def Zt3{P u1 u2 U' v1 v2 V' t r:Int}(hP:0<P)(hU':0≤U')(hu2:0≤u2)(hu1:0≤u1)(hv1:0<v1)(hv2:0≤v2)(hV0:0≤V')(hV':V'<P)(h0:0≤t)(ht:t≤1000000000)(hinv:u1=t*v1+r)(hc:t*v2≤r*1000000000+u2):
  (t-1)*(V'+P*(v2+1000000000*v1))≤U'+P*(u2+1000000000*u1):=by
 by_cases ht0:t=0
 ·subst ht0
  have h1:0≤P*(v2+1000000000*v1):=Yto (by omega) (by omega)
  have h2:0≤P*(u2+1000000000*u1):=Yto (by omega) (by omega)
  omega
 ·have h1:(t-1)*V'≤1000000000*P:=by
   have:(t-1)*V'≤1000000000*V':=Ytd (by omega) hV0
   omega
  have h2:P*1≤P*v1:=Ysa (by omega) (by omega)
  have h3:P*(t*v2)≤P*(r*1000000000+u2):=Ysa hc (by omega)
  have h4:0≤P*v2:=Yto (by omega) hv2
  have h5:(t-1)*(V'+P*(v2+1000000000*v1))=(t-1)*V'+P*(t*v2)-P*v2+1000000000*(P*(t*v1))-1000000000*(P*v1):=by grind
  have h6:U'+P*(u2+1000000000*u1)=U'+P*(r*1000000000+u2)+1000000000*(P*(t*v1)):=by subst hinv;grind
  omega
def Ykh{P u1 u2 U' v1 v2 V' t r:Int}(hP:0<P)(hU':U'<P)(hV0:0≤V')(h0:0≤t)(hinv:u1=t*v1+r)(hc:r*1000000000+u2<t*v2):
  U'+P*(u2+1000000000*u1)<t*(V'+P*(v2+1000000000*v1)):=by
 have h1:0≤t*V':=Yto h0 hV0
 have h3:P*(r*1000000000+u2+1)≤P*(t*v2):=Ysa (by omega) (by omega)
 have h5:t*(V'+P*(v2+1000000000*v1))=t*V'+P*(t*v2)+1000000000*(P*(t*v1)):=by grind
 have h6:U'+P*(u2+1000000000*u1)=U'+P*(r*1000000000+u2+1)-P+1000000000*(P*(t*v1)):=by subst hinv;grind
 omega
def Ya4{x:Int}(h1:1≤x)(h2:x<1000000000):500000000≤x*(1000000000/(x+1)):=by
 have hd:(x+1)*(1000000000/(x+1))+1000000000%(x+1)=1000000000:=Yt6 ..
 have hr:1000000000%(x+1)<x+1:=Yuk _ (by omega)
 have hr0:0≤1000000000%(x+1):=Yu1 _ (by omega)
 generalize 1000000000/(x+1)=d at*
 generalize 1000000000%(x+1)=r at*
 have e:(x+1)*d=x*d+d:=by grind
 apply Yuy
 intro hc
 by_cases hx:x≤500000000
 ·have h3:500000000-x+1≤d:=by omega
  have h4:x*(500000000-x+1)≤x*d:=Ysa h3 (by omega)
  have h5:0≤(x-1)*(500000000-x):=Yto (by omega) (by omega)
  have h6:(x-1)*(500000000-x)=x*(500000000-x+1)-500000000:=by grind
  omega
 ·have h3:1≤d:=by
   apply Yuy;intro h
   have:d≤0:=by omega
   have:(x+1)*d≤0:=Int.mul_nonpos_of_nonneg_of_nonpos (by omega) this
   omega
  have h4:x*1≤x*d:=Ysa h3 (by omega)
  omega
def Zgv{m:Nat}(h:∀t,m≤t→t<w.length→w[t]?=some 0):vI w=vI (w.take m):=by
 by_cases hm:m≤w.length
 ·have h1:=Zjb w m hm
  have h2:w.drop m=List.replicate (w.length-m) 0:=by
   apply Ysw
   intro t
   rw[Yr4,List.getElem?_replicate]
   by_cases ht:t<w.length-m
   ·rw[Yrw ht];exact h _ (by omega) (by omega)
   ·rw[Yrt ht];exact Yr6 (by omega)
  rw[h2,Zpa]at h1
  omega
 ·rw[Yr2 (by omega)]
def Yik{k:Nat}{a c d:Int}(ha:w[k]?=some a)(hc:w[k+1]?=some c)(hd:w[k+2]?=some d)(hz:∀t,k+3≤t→t<w.length→w[t]?=some 0):
  vI w=vI (w.take k)+pI k*(a+1000000000*(d*1000000000+c)):=by
 rw[Zgv hz,show k+3=(k+2)+1 by omega,Zbf hd,Zbf hc,Zbf ha,Zc2 (k+1),Zc2 k]
 grind
def Yil{k:Nat}{a c:Int}(ha:w[k]?=some a)(hc:w[k+1]?=some c)(hl:w.length=k+2):
  vI w=vI (w.take k)+pI k*(a+1000000000*c):=by
 have h1:vI w=vI (w.take (k+1+1)):=by rw[Yr2 (by omega)]
 rw[h1,Zbf hc,Zbf ha,Zc2 k]
 grind
def Yeh{n:Nat}{t:Int}(hd:Di (w.take n))(ht:w[n]?=some t)(hz:∀j,n<j→j<w.length→w[j]?=some 0)(h1:vI w<pI n):(0≤vI w→t=0)∧(vI w<0→t<0):=by
 have hl:=Zb4 ht
 have h2:vI w=vI (w.take n)+pI n*t:=by
  rw[Zgv (m:=n+1) (fun j h1 h2=>hz j (by omega) h2),Zbf ht]
 have h3:=Zih hd
 have h4:=Zii hd
 rw[Ysi,Ysz (by omega)]at h4
 have h5:=Zjt n
 constructor
 ·intro h
  have h6:¬t≤ -1:=fun hc=>by
   have:=Ysa hc (Yts h5)
   omega
  have h7:¬1≤t:=fun hc=>by
   have:=Ysa hc (Yts h5)
   omega
  omega
 ·intro h
  apply Yvb
  intro hc
  have:=Yto (Yts h5) hc
  omega
variable {N k:Nat} {s:Str}
def Yqs:(N=N+1)=False:=eq_false (by omega)
def Yqj:(N+1=N)=False:=eq_false (by omega)
def Yra:(N+1<N)=False:=eq_false (by omega)
def Yqr:(N=N+1+1)=False:=eq_false (by omega)
def Yqi:(N+1+1=N)=False:=eq_false (by omega)
def Yq9:(N+1+1<N)=False:=eq_false (by omega)
def Yqq:(N=N+1+1+1)=False:=eq_false (by omega)
def Yqh:(N+1+1+1=N)=False:=eq_false (by omega)
def Yq8:(N+1+1+1<N)=False:=eq_false (by omega)
def Yqp:(N=N+1+1+1+1)=False:=eq_false (by omega)
def Yqg:(N+1+1+1+1=N)=False:=eq_false (by omega)
def Yq7:(N+1+1+1+1<N)=False:=eq_false (by omega)
def Yqo:(N=N+1+1+1+1+1)=False:=eq_false (by omega)
def Yqf:(N+1+1+1+1+1=N)=False:=eq_false (by omega)
def Yq6:(N+1+1+1+1+1<N)=False:=eq_false (by omega)
def Yqn:(N=N+1+1+1+1+1+1)=False:=eq_false (by omega)
def Yqe:(N+1+1+1+1+1+1=N)=False:=eq_false (by omega)
def Yq5:(N+1+1+1+1+1+1<N)=False:=eq_false (by omega)
def Yqm:(N=N+1+1+1+1+1+1+1)=False:=eq_false (by omega)
def Yqd:(N+1+1+1+1+1+1+1=N)=False:=eq_false (by omega)
def Yq4:(N+1+1+1+1+1+1+1<N)=False:=eq_false (by omega)
def Yql:(N=N+1+1+1+1+1+1+1+1)=False:=eq_false (by omega)
def Yqc:(N+1+1+1+1+1+1+1+1=N)=False:=eq_false (by omega)
def Yq3:(N+1+1+1+1+1+1+1+1<N)=False:=eq_false (by omega)
def Yqk:(N=N+1+1+1+1+1+1+1+1+1)=False:=eq_false (by omega)
def Yqb:(N+1+1+1+1+1+1+1+1+1=N)=False:=eq_false (by omega)
def Yq2:(N+1+1+1+1+1+1+1+1+1<N)=False:=eq_false (by omega)
def Yos:(N=N+1+1+1+1+1+1+1+1+1+1)=False:=eq_false (by omega)
def Yom:(N+1+1+1+1+1+1+1+1+1+1=N)=False:=eq_false (by omega)
def Yo4:(N+1+1+1+1+1+1+1+1+1+1<N)=False:=eq_false (by omega)
def Yor:(N=N+1+1+1+1+1+1+1+1+1+1+1)=False:=eq_false (by omega)
def Yol:(N+1+1+1+1+1+1+1+1+1+1+1=N)=False:=eq_false (by omega)
def Yo3:(N+1+1+1+1+1+1+1+1+1+1+1<N)=False:=eq_false (by omega)
def Yoq:(N=N+1+1+1+1+1+1+1+1+1+1+1+1)=False:=eq_false (by omega)
def Yok:(N+1+1+1+1+1+1+1+1+1+1+1+1=N)=False:=eq_false (by omega)
def Yo2:(N+1+1+1+1+1+1+1+1+1+1+1+1<N)=False:=eq_false (by omega)
def Yop:(N=N+1+1+1+1+1+1+1+1+1+1+1+1+1)=False:=eq_false (by omega)
def Yoj:(N+1+1+1+1+1+1+1+1+1+1+1+1+1=N)=False:=eq_false (by omega)
def Yo1:(N+1+1+1+1+1+1+1+1+1+1+1+1+1<N)=False:=eq_false (by omega)
def Yoo:(N=N+1+1+1+1+1+1+1+1+1+1+1+1+1+1)=False:=eq_false (by omega)
def Yoi:(N+1+1+1+1+1+1+1+1+1+1+1+1+1+1=N)=False:=eq_false (by omega)
def Yo0:(N+1+1+1+1+1+1+1+1+1+1+1+1+1+1<N)=False:=eq_false (by omega)
def Yon:(N=N+1+1+1+1+1+1+1+1+1+1+1+1+1+1+1)=False:=eq_false (by omega)
def Yoh:(N+1+1+1+1+1+1+1+1+1+1+1+1+1+1+1=N)=False:=eq_false (by omega)
def Yoz:(N+1+1+1+1+1+1+1+1+1+1+1+1+1+1+1<N)=False:=eq_false (by omega)
attribute [simp] Yqs Yqj Yra Yqr Yqi Yq9 Yqq Yqh Yq8 Yqp Yqg Yq7 Yqo Yqf Yq6 Yqn Yqe Yq5 Yqm Yqd Yq4 Yql Yqc Yq3 Yqk Yqb Yq2 Yos Yom Yo4 Yor Yol Yo3 Yoq Yok Yo2 Yop Yoj Yo1 Yoo Yoi Yo0 Yon Yoh Yoz
def Yq1:(N<N+1)=True:=eq_true (by omega)
def Yq0:(N<N+1+1)=True:=eq_true (by omega)
def Yqz:(N<N+1+1+1)=True:=eq_true (by omega)
def Yqy:(N<N+1+1+1+1)=True:=eq_true (by omega)
def Yqx:(N<N+1+1+1+1+1)=True:=eq_true (by omega)
def Yqw:(N<N+1+1+1+1+1+1)=True:=eq_true (by omega)
def Yqv:(N<N+1+1+1+1+1+1+1)=True:=eq_true (by omega)
def Yqu:(N<N+1+1+1+1+1+1+1+1)=True:=eq_true (by omega)
def Yqt:(N<N+1+1+1+1+1+1+1+1+1)=True:=eq_true (by omega)
def Yoy:(N<N+1+1+1+1+1+1+1+1+1+1)=True:=eq_true (by omega)
def Yox:(N<N+1+1+1+1+1+1+1+1+1+1+1)=True:=eq_true (by omega)
def Yow:(N<N+1+1+1+1+1+1+1+1+1+1+1+1)=True:=eq_true (by omega)
def Yov:(N<N+1+1+1+1+1+1+1+1+1+1+1+1+1)=True:=eq_true (by omega)
def You:(N<N+1+1+1+1+1+1+1+1+1+1+1+1+1+1)=True:=eq_true (by omega)
def Yot:(N<N+1+1+1+1+1+1+1+1+1+1+1+1+1+1+1)=True:=eq_true (by omega)
attribute [simp] Yq1 Yq0 Yqz Yqy Yqx Yqw Yqv Yqu Yqt Yoy Yox Yow Yov You Yot
def Call.eq{C:Cx}{g:V}{args:List V}{st st':St}{u:V}(h:Call C g args st (fun v s=>v=u∧s=st')):C.call g args st=some (u,st'):=by
 obtain⟨v,s,e,rfl,rfl⟩:=h.ex
 exact e
def Zpv{C:Cx}{K:List Kf}{Q:Rs→Prop}{fr:Fr}{st:St}{i j:Nat}(h:¬j=i):Run C (.block i::K) (some (.ex (.exit j) fr st)) Q↔Run C K (some (.ex (.exit j) fr st)) Q:=Zpw (by
 cases hb:Nat.beq j i with
 |false=>rfl
 |true=>exact absurd (Yvh hb) h)
attribute [simp] Zpv
def Zan:List Int→Int
 |[]=>0
 |e::l=>if e=0 then Zan l else e
def Zao{α:Type}{l:List α}(h:k<l.length):∃d,l[k]?=some d:=⟨_,Yrx h⟩
def Ycw(c:UInt8):Zko c=decide (48≤u8I c∧u8I c≤57):=by
 unfold Zko u8I;rw[decide_eq_decide];omega
def Znu(k:Nat):List V:=(List.range 256).map fun i=>.bool (decide (48≤i∧i<48+k))
def Zds(k:Nat):(Znu k).length=256:=by simp[Znu]
def Zh4{i:Nat}(hi:i<256):(Znu k)[i]?=some (.bool (decide (48≤i∧i<48+k))):=by simp[Znu,hi]
def Zwl(k:Nat):(Znu k).all V.one=true:=by simp[Znu,V.one]
def Yg2(hk:k<10):splice (Znu k) (48+k) [.bool true]=Znu (k+1):=by
 apply Ysw
 intro j
 unfold splice
 rw[Ysy,List.getElem?_append,Ysi,Zds,Ysz (by omega)]
 by_cases h1:j<48+k
 ·rw[Yrw h1,Ysh,Yrw h1,Zh4 (by omega),Zh4 (by omega)]
  congr 3;rw[eq_iff_iff];omega
 ·rw[Yrt h1]
  by_cases h2:j=48+k
  ·subst h2
   rw[Zh4 (by omega)]
   simp
  ·rw[show j-(48+k)=(j-(48+k)-1)+1 by omega]
   simp only[Yvk,Ytv,Yr4,Ytg]
   rw[show 48+k+1+(j-(48+k)-1)=j by omega]
   by_cases h3:j<256
   ·rw[Zh4 h3,Zh4 h3];congr 3;rw[eq_iff_iff];omega
   ·rw[Yr6 (by rw[Zds];omega),Yr6 (by rw[Zds];omega)]
def Ydp(k:Nat):(Znu k).take 256=Znu k:=Yr2 (by rw[Zds];omega)
def Yg1(j k:Nat):splice (Znu j) 0 (Znu k)=Znu k:=by
 unfold splice;rw[Zds,Ytb (by rw[Zds];omega)];simp
attribute [simp] Zds Zwl Ydp Yg1
def Zb7(s:Str):Bool:=s.all Zko
def Yph:Str:=[48,49,50,51,52,53,54,55,56,57]
def Ygi(hk:k<10):∃c,Yph[k]?=some c∧u8I c=48+k:=by
 have:k=0∨k=1∨k=2∨k=3∨k=4∨k=5∨k=6∨k=7∨k=8∨k=9:=by omega
 rcases this with rfl|rfl|rfl|rfl|rfl|rfl|rfl|rfl|rfl|rfl<;>exact⟨_,rfl,rfl⟩
def Zd6{n:Int}(h1:0≤n)(h2:n<256):Zap .u8 n=n:=by
 rw[Zdg]
 simp[IntKind.wrap,IntKind.bits,IntKind.signed]
 omega
def Zi7{n:Int}(h1: -9223372036854775808≤n)(h2:n<9223372036854775808):IntKind.wrap .i64 n=n:=by
 simp[IntKind.wrap,IntKind.bits,IntKind.signed]
 omega
def Zg3(l:Str)(c:UInt8):numV (l++[c])=10*numV l+(c.toNat-48):=by simp[numV]
def Zm1{c:UInt8}(h:s[k]?=some c):numV (s.take (k+1))=10*numV (s.take k)+(c.toNat-48):=by
 rw[Yup,h]
 simp only[Option.toList,Zg3]
def Zkk(h:Zb7 s=true){k:Nat}{c:UInt8}(hc:s[k]?=some c):48≤u8I c∧u8I c≤57:=by
 unfold Zb7 at h
 rw[Ys5]at h
 have:=h c (Yr1 hc)
 rw[Ycw]at this
 simpa using this
def Zpr{s:Str}(h:Zb7 s=true):∀k,k≤s.length→numV (s.take k)<10^k
 |0,_=>by simp[numV]
 |k+1,hk=>by
  obtain⟨c,hc⟩:=Zao (l:=s) (k:=k) (by omega)
  have h1:=Zpr h k (by omega)
  have h2:=Zkk h hc
  unfold u8I at h2
  rw[Zm1 hc,Ysg]
  omega
def Zea(h:Zb7 s=true):numV s<10^s.length:=by
 have:=Zpr h s.length (Yru _)
 rwa [Yt9]at this
def Zvf{a b:Nat}(h:a≤b):10^a≤10^b:=Ysu (by decide) h
def Yg3(h:k<9223372036854775808):Zdo .and .i64 (k:Int) 1=some (.int .i64 ((k%2:Nat):Int)):=by
 show some (V.int .i64 (IntKind.wrap .i64 (BitVec.ofInt 64 (k:Int)&&& BitVec.ofInt 64 1).toNat))=_
 have e:(BitVec.ofInt 64 1).toNat=2^1-1:=by decide
 rw[BitVec.toNat_and,Zjw k (by omega),e,Nat.and_two_pow_sub_one_eq_mod,Zi7 (by omega) (by omega)]
def Yeq:Zgq .shr .i64 (k:Int) 1=some (.int .i64 ((k/2:Nat):Int)):=by
 unfold Zgq
 have e:min (1:Int).toNat (IntKind.bits .i64)=1:=by decide
 rw[Yrt (by decide),e]
 simp only[Yrs,V.int.injEq,true_and]
 rw[Int.fdiv_eq_ediv_of_nonneg _ (by decide)]
 rfl
variable {N i:Nat} {h:T O} {k v:V}
def Keeps.new{h1:T O}{n n1:Nat}(k:Keeps h n h1 n1)(o:O):Keeps h n (h1.set n1 o) (n1+1):=(k.set k.le).up (Yuu _)
abbrev FnV(C:Cx)(f:V)(args:List V)(h:T O)(n:Nat)(P:V→T O→Nat→Prop):Prop:=∀w,Call C f args ⟨h,n,w⟩ (Ret P h n w)
def Zs1{C:Cx}{f args h n w P K Q}(hf:FnV C f args h n P)(k:∀v h' n',Keeps h n h' n'→P v h' n'→Run C K (some (.val v ⟨h',n',w⟩)) Q):Run C K (Zp9 (C.call f args ⟨h,n,w⟩)) Q:=
 Zd7 (hf w) fun v st'=>by
  obtain⟨h',n',w'⟩:=st'
  rintro⟨rfl,hk,hp⟩
  exact k v h' n' hk hp
def Zfp(p:Nat→Bool)(k:Nat):Nat→Int
 |0=> -1
 |m+1=>if p k=true then (k:Int) else Zfp p (k+1) m
def Zrt{p:Nat→Bool}:∀{m k:Nat},(0≤Zfp p k m↔∃j,k≤j∧j<k+m∧p j=true)
 |0,k=>by simp[Zfp];intro j h1 h2;omega
 |m+1,k=>by
  simp only[Zfp]
  by_cases h:p k=true
  ·rw[Yrw h];exact⟨fun _=>⟨k,Yru _,by omega,h⟩,fun _=>by omega⟩
  ·rw[Yrt h,Zrt (m:=m) (k:=k+1)]
   constructor
   ·rintro⟨j,h1,h2,h3⟩;exact⟨j,by omega,by omega,h3⟩
   ·rintro⟨j,h1,h2,h3⟩
    refine⟨j,?_,by omega,h3⟩
    have:j≠k:=fun hj=>h (hj▸h3)
    omega
def SlF(v:V):Prop:=v=.nilslice∨v=.empty∨∃i o n c z,v=.slice i o n c z
def Sl.form{l:List V}(s:Sl h N v l):SlF v:=by
 rcases s with⟨_,h|h⟩|⟨i,o,cp,c,e,rw,h,_⟩
 ·exact .inl h
 ·exact .inr (.inl h)
 ·exact .inr (.inr ⟨_,_,_,_,_,h⟩)
def SlF.one(h:SlF v):V.one v=true:=by
 rcases h with rfl|rfl|⟨_,_,_,_,_,rfl⟩<;>rfl
def SlF.cells(h:SlF v):V.cells v=[v]:=by
 rcases h with rfl|rfl|⟨_,_,_,_,_,rfl⟩<;>rfl
def strs(l:List Str):List V:=l.map .str
def Zf1(l:List Str):(strs l).length=l.length:=by simp[strs]
def Zpc{l:List Str}{j:Nat}{n:Str}(h:l[j]?=some n):(strs l)[j]?=some (.str n):=by simp[strs,h]
attribute [simp] Zf1
def Yn9(s:Stg)(inp:V):List V:=[.str s.name,.str s.op,.str s.factor,inp,.int .i64 s.cost]
def Gr(h:T O)(N:Nat)(v:V)(g:List Stg):Prop:=∃l:List (List V),Sn 5 h N v l∧l.length=g.length∧∀(j:Nat) (s:Stg),g[j]?=some s→∃inp,l[j]?=some (Yn9 s inp)∧Sl h N inp (strs s.inputs)
def Gr.keep{h':T O}{N':Nat}{g:List Stg}(s:Gr h N v g)(k:Keeps h N h' N'):Gr h' N' v g:=by
 obtain⟨l,h1,h2,h3⟩:=s
 refine⟨l,h1.keep k,h2,fun j s hs=>?_⟩
 obtain⟨inp,h4,h5⟩:=h3 j s hs
 exact⟨inp,h4,h5.keep k⟩
def Gr.at{g:List Stg}(s:Gr h N v g){j:Nat}{x:Stg}(hj:g[j]?=some x):∃i o c e rw inp,Zn8 v=some (i,o)∧i<N∧h.get i=some (.cells c e rw)∧slc c (o+j*5) 5=some (Yn9 x inp)∧Sl h N inp (strs x.inputs):=by
 obtain⟨l,h1,h2,h3⟩:=s
 obtain⟨inp,h4,h5⟩:=h3 j x hj
 obtain⟨i,o,c,e,rw,q1,q2,q3,q4⟩:=h1.at h4
 exact⟨i,o,c,e,rw,inp,q1,q2,q3,q4,h5⟩
def Gr.slice{g:List Stg}{w:List Nat}(s:Gr h N v g){lo hi:Nat}(h1:lo≤hi)(h2:hi≤g.length)(x y:Option V)(hx:x=some (.int .i64 lo)∨x=none∧lo=0)(hy:y=some (.int .i64 hi)∨y=none∧hi=g.length):
  ∃v',Zcw ⟨h,N,w⟩ 5 (some v) (some x) (some y) (some none)=some (v',⟨h,N,w⟩)∧Gr h N v' ((g.take hi).drop lo):=by
 obtain⟨l,g1,g2,g3⟩:=s
 obtain⟨v',e1,e2⟩:=Zzy (z:=5) (w:=w) (by decide) g1 h1 (by omega) x y hx (by rw[g2];exact hy)
 refine⟨v',e1,(l.take hi).drop lo,e2,by simp[g2],fun j s hs=>?_⟩
 have hj:lo+j<hi:=by
  apply Ys6;intro hc
  rw[Yr4,Ysh,Yrt (by omega)]at hs;cases hs
 rw[Yr4,Ysh,Yrw hj]at hs
 obtain⟨inp,q1,q2⟩:=g3 _ s hs
 exact⟨inp,by rw[Yr4,Ysh,Yrw hj];exact q1,q2⟩
def Yoa{a b c d e:V}:slc [a,b,c,d,e] 0 5=some [a,b,c,d,e]:=rfl
def Yob{a b:V}:slc [a,b] 0 2=some [a,b]:=rfl
attribute [simp] Yoa Yob
def Yj8(st:St)(zero:V)(ok:Bool):Option (Option (Nat×V))→Option (V×St)
 |some (some (_,v))=>some (if ok then .tup [v,.bool true] else v,st)
 |some none=>some (if ok then .tup [zero,.bool false] else zero,st)
 |none=>none
def Zvu(st:St)(kd:Zk3)(zero:V)(ok:Bool)(k:V):Option O→Option (V×St)
 |some (.map es)=>Yj8 st zero ok (findV kd k es 0)
 |_=>none
def Yj9(st:St)(kd:Zk3)(zero:V)(ok:Bool):Option V→Option V→Option (V×St)
 |some (.map i),some k=>if kd.fits k=true then Zvu st kd zero ok k (st.h.get i) else none
 |some .nilmap,some k=>if kd.fits k=true then Yj8 st zero ok (some none) else none
 |_,_=>none
def Zte{kd:Zk3}{zero:V}{m k:Src}{ok:Bool}{call:Za1}{r:T V}{st:St}:Ze0 kd zero m k ok call r st=Yj9 st kd zero ok (m.ev r) (k.ev r):=by
 unfold Ze0 Yj9
 rcases m.ev r with _|m
 ·rfl
 ·rcases k.ev r with _|k
  ·cases m<;>rfl
  ·cases m<;>simp only[]<;>(try (by_cases hf:kd.fits k=true<;>simp[hf]))<;>try rfl
   ·rename_i i
    rcases st.h.get i with _|o
    ·rfl
    ·cases o<;>simp only[Zvu]
     rename_i es
     rcases findV kd k es 0 with _|_|⟨_,_⟩<;>rfl
def Ybx{st:St}{zero:V}{ok:Bool}{s:Str}:Yj9 st .str zero ok (some (.map i)) (some (.str s))=Zvu st .str zero ok (.str s) (st.h.get i):=rfl
def Ztz{st:St}{kd:Zk3}{zero:V}{ok:Bool}{es:List (V×V)}:Zvu st kd zero ok k (some (.map es))=Yj8 st zero ok (findV kd k es 0):=rfl
attribute [simp] Zte Ybx Ztz Zhx
def Yju(st:St)(i:Nat)(k v:V)(es:List (V×V)):Option (Option (Nat×V))→Option (V×St)
 |some (some (j,_))=>some (.tup [],st.write i (.map (es.set j (k,v))))
 |some none=>some (.tup [],st.write i (.map (es++[(k,v)])))
 |none=>none
def Zvo(st:St)(kd:Zk3)(i:Nat)(k v:V):Option O→Option (V×St)
 |some (.map es)=>Yju st i k v es (findV kd k es 0)
 |_=>none
def msetK(st:St)(kd:Zk3):Option V→Option V→Option V→Option (V×St)
 |some (.map i),some k,some v=>if kd.fits k=true then Zvo st kd i k v (st.h.get i) else none
 |_,_,_=>none
def Ztd{kd:Zk3}{m k v:Src}{call:Za1}{r:T V}{st:St}:Zeh kd m k v call r st=msetK st kd (m.ev r) (k.ev r) (v.ev r):=by
 unfold Zeh msetK
 rcases m.ev r with _|m
 ·rfl
 ·rcases k.ev r with _|k
  ·cases m<;>rfl
  ·rcases v.ev r with _|v
   ·cases m<;>rfl
   ·cases m with
    |map i=>
     simp only[]
     by_cases hf:kd.fits k=true
     ·simp only[hf,if_true]
      rcases st.h.get i with _|o
      ·rfl
      ·cases o<;>simp only[Zvo]
       rename_i es
       rcases findV kd k es 0 with _|_|⟨_,_⟩<;>rfl
     ·simp[hf]
    |_=>rfl
def Ybb{st:St}{s:Str}:msetK st .str (some (.map i)) (some (.str s)) (some v)=Zvo st .str i (.str s) v (st.h.get i):=rfl
def Zto{st:St}{kd:Zk3}{es:List (V×V)}:Zvo st kd i k v (some (.map es))=Yju st i k v es (findV kd k es 0):=rfl
def Zxl{st:St}{es:List (V×V)}:Yju st i k v es (some none)=some (.tup [],st.write i (.map (es++[(k,v)]))):=rfl
attribute [simp] Ztd Ybb Zto Zxl
def Keeps.then{h h1 h2:T O}{n n1 n2:Nat}(a:Keeps h n h1 n1)(b:Keeps h1 n h2 n2):Keeps h n h2 n2:=⟨b.le,fun i hi=>(b.get i hi).trans (a.get i hi)⟩
def Zfc(l:List Int):List (List V):=l.map fun x=>[.int .i64 x]
def Zdl(l:List Int):(Zfc l).length=l.length:=by simp[Zfc]
def Zkt:∀(l:List Int),(Zfc l).flatten=dI l
 |[]=>rfl
 |x::l=>by
  have:=Zkt l
  simp only[Zfc,Ys1,List.flatten_cons,dI]at this ⊢
  rw[this];rfl
def Zdd(l:List Int)(x:Int):Zfc (l++[x])=Zfc l++[[.int .i64 x]]:=by simp[Zfc]
def Own.sl{e:TypeId}{N0:Nat}{h:T O}{N:Nat}{v:V}{l:List Int}(s:Own 1 e N0 h N v (Zfc l)):Sl h N v (dI l):=by
 have:=s.sn
 have e1:Zfc l=(dI l).map fun x=>[x]:=by simp[Zfc,dI]
 rw[e1]at this
 exact Sn.one.1 this
structure Yp2 (g:List Stg):Prop where
 le:g.length≤16
 name:∀(j:Nat) (s:Stg),g[j]?=some s→j≤pos (g.take j) s.name
 inp:∀(j:Nat) (s:Stg),g[j]?=some s→∀n∈s.inputs,pos (g.take j) n<j
 cost:∀s∈g,1≤s.cost∧s.cost≤1000
variable {N:Nat} {h:T O}
def Cp(h:T O)(N:Nat)(v:V)(l:List V):Prop:=∃j c,v=.slice j 0 l.length c 1∧j<N∧h.get j=some (.cells l 9 true)∧∀k,c=some k→l.length≤k
def Cp.keep{h':T O}{N':Nat}{v:V}{l:List V}(s:Cp h N v l)(k:Keeps h N h' N'):Cp h' N' v l:=by
 obtain⟨j,c,h1,h2,h3,h4⟩:=s
 exact⟨j,c,h1,Yr5 h2 k.le,(k.get j h2).trans h3,h4⟩
def Yl5{w:List Nat}{v:V}{l:List V}(s:Sl h N v l):Za0 ⟨h,N,w⟩ 1 v=some (l.length,l):=by
 rcases s with⟨rfl,rfl|rfl⟩|⟨i,o,cp,c,e,rw,rfl,h2,h3,h4,h5,h6⟩
 ·rfl
 ·rfl
 ·simp only[Za0,if_true,St.row,h3,Yub]
  have:slc c o l.length=some l:=by
   unfold slc
   rw[Yrw h5]
   congr 1
   apply Ysw
   intro j
   rw[Ysh]
   by_cases hj:j<l.length
   ·rw[Yrw hj,Yr4];exact h4 j hj
   ·rw[Yrt hj,Yr6 (by omega)]
  rw[this]
def PgA(h:T O)(N0 N:Nat)(u:V)(g:List Stg)(k:Nat):Prop:=∃l:List (List V),Own 5 126 N0 h N u l∧l.length=k∧∀(j:Nat) (s:Stg),j<k→g[j]?=some s→∃inp,l[j]?=some (Yn9 s inp)∧Cp h N inp (strs s.inputs)
def PgA.keep{h':T O}{N0 N':Nat}{u:V}{g:List Stg}{k:Nat}(s:PgA h N0 N u g k)(kk:Keeps h N h' N'):PgA h' N0 N' u g k:=by
 obtain⟨l,h1,h2,h3⟩:=s
 refine⟨l,h1.keep kk,h2,fun j s hj hs=>?_⟩
 obtain⟨inp,h4,h5⟩:=h3 j s hj hs
 exact⟨inp,h4,h5.keep kk⟩
def Sl.setInt{h:T O}{N:Nat}{v:V}{l:List Int}{i:Nat}{c0 c1:List V}{e0 e1:TypeId}{w0 w1:Bool}(s:Sl h N v (dI l))(hr:h.get i=some (.cells c0 e0 w0))(hn:∀x∈c0,∀k n,x≠.int k n)(hc:c1.length=c0.length):Sl (h.set i (.cells c1 e1 w1)) N v (dI l):=by
 rcases s with s|⟨j,o,cp,c,e,rw,h1,h2,h3,h4,h5,h6⟩
 ·exact .inl s
 ·by_cases hj:j=i
  ·subst hj
   rw[hr]at h3
   simp only[Yrs,O.cells.injEq]at h3
   obtain⟨rfl,rfl,rfl⟩:=h3
   cases l with
   |nil=>exact .inr ⟨j,o,cp,c1,e1,w1,h1,h2,by rw[T.get_set];simp,fun k hk=>by simp[dI]at hk,by rw[hc];exact h5,h6⟩
   |cons d l=>
    have:=h4 0 (by simp[dI])
    simp only[dI,Ys1,Yth]at this
    exact absurd rfl (hn _ (Yr1 this) .i64 d)
  ·exact .inr ⟨j,o,cp,c,e,rw,h1,h2,by rw[T.get_set,Yrt hj];exact h3,h4,h5,h6⟩
end Go.Mx
