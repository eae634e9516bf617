/-
  Characters of a string, one after the other.
-/
import Derived.Test.YtlbophlgohokkaaGreatDoorMxWord
set_option linter.all false
namespace Go.Mx
open Go
variable {i:Nat} {j:Int} {k:IntKind} {r:T V} {s:Str} {x:Src}
def Ylw(s:Str)(p:Nat):Int:=(Utf8.decode ⟨s.toArray⟩ p).1
def Ylv(s:Str)(p:Nat):Nat:=(Utf8.decode ⟨s.toArray⟩ p).2
def Zmv(i:Nat)(st:St):Option (Str×Nat)→Option (V×St)
 |some (s,p)=>if p<s.length then some (.tup [.bool true,.int .i64 p,.int .i32 (Utf8.decode ⟨s.toArray⟩ p).1],st.write i (.siter s (p+(Utf8.decode ⟨s.toArray⟩ p).2))) else some (.tup [.bool false],st)
 |none=>none
def Zup:Option O→Option (Str×Nat)
 |some (.siter s p)=>some (s,p)
 |_=>none
def Yi3(st:St):Option V→Option (V×St)
 |some (.ptr i 0)=>Zmv i st (Zup (st.h.get i))
 |_=>none
theorem Zqu{call:Za1}{st:St}:Zdu x call r st=Yi3 st (x.ev r):=by
 unfold Zdu Yi3
 rcases x.ev r with _|v
 ·rfl
 ·cases v<;>try rfl
  rename_i i o
  cases o with
  |zero=>
   simp only[Zup,Zmv]
   rcases st.h.get i with _|o
   ·rfl
   ·cases o<;>rfl
  |succ=>rfl
theorem Zwz{st:St}:Yi3 st (some (.ptr i 0))=Zmv i st (Zup (st.h.get i)):=rfl
theorem Zst{p:Nat}:Zup (some (.siter s p))=some (s,p):=rfl
theorem Yad{st:St}{p:Nat}(h:p<s.length):Zmv i st (some (s,p))=some (.tup [.bool true,.int .i64 p,.int .i32 (Ylw s p)],st.write i (.siter s (p+Ylv s p))):=by simp[Zmv,h,Ylw,Ylv]
theorem Zw0{st:St}:Zmv i st (some (s,s.length))=some (.tup [.bool false],st):=by simp[Zmv]
def Zco(st:St):Option V→Option (Option V)→Option (Option V)→Option (V×St)
 |some (.str s),some lo,some hi=>match Zax hi s.length s.length with
   |some h=>match Zax lo h 0 with
    |some l=>some (.str ((s.take h).drop l),st)
    |none=>none
   |none=>none
 |_,_,_=>none
theorem Zpg{lo hi:Option Src}{call:Za1}{st:St}:Zbo x lo hi call r st=Zco st (x.ev r) (evOpt r lo) (evOpt r hi):=by
 unfold Zbo Zco;rfl
theorem Zes{st:St}(h0:0≤j)(h1:j≤s.length):Zco st (some (.str s)) (some (some (.int k j))) (some none)=some (.str (s.drop j.toNat),st):=by
 simp[Zco,Zax,Zd0,h0,h1]
theorem Zkm{st:St}(h0:0≤j)(h1:j≤s.length):Zco st (some (.str s)) (some none) (some (some (.int k j)))=some (.str (s.take j.toNat),st):=by
 simp[Zco,Zax,Zd0,h0,h1]
theorem Zn6{st:St}{k':IntKind}{i:Int}(h0:0≤i)(h1:i≤j)(h2:j≤s.length):Zco st (some (.str s)) (some (some (.int k i))) (some (some (.int k' j)))=some (.str ((s.take j.toNat).drop i.toNat),st):=by
 have h3:0≤j:=by omega
 have h4:max j 0=j:=by omega
 simp[Zco,Zax,Zd0,h0,h1,h2,h3,h4]
def Znh(s:Str):List V:=s.map fun b=>.int .u8 (u8I b)
theorem Zyj(s:Str):(Znh s).length=s.length:=by simp[Znh]
theorem Zyk{k:Nat}{c:UInt8}(h:s[k]?=some c):(Znh s)[k]?=some (.int .u8 (u8I c)):=by simp[Znh,h]
def sbK(elem:TypeId)(st:St):Option V→Option (V×St)
 |some (.str s)=>some (.slice st.n 0 s.length none 1,st.alloc (.cells (Znh s) elem true))
 |_=>none
theorem Zpf{elem:TypeId}{call:Za1}{st:St}:Zcg elem x call r st=sbK elem st (x.ev r):=by
 unfold Zcg sbK;rfl
theorem Ydu{elem:TypeId}{st:St}:sbK elem st (some (.str s))=some (.slice st.n 0 s.length none 1,st.alloc (.cells (Znh s) elem true)):=rfl
attribute [simp] Zpf Ydu Zyj Zqu Zwz Zst Yad Zw0 Zpg Zes Zkm Zn6 Zc0
theorem Zjy:∀(s:Str) (i:Nat),Zin 47 s i=if slashAt s<s.length then ((i+slashAt s:Nat):Int) else -1
 |[],i=>rfl
 |c::s,i=>by
  simp only[Zin,slashAt]
  have e:(c==47)=decide (c.toNat=47):=by
   rw[Bool.eq_iff_iff]
   simp only[beq_iff_eq,decide_eq_true_eq]
   exact⟨fun h=>by rw[h];rfl,fun h=>UInt8.toNat_inj.1 h⟩
  rw[e]
  by_cases h:c.toNat=47
  ·simp[h]
  ·simp only[h,decide_false,if_false,Bool.false_eq_true,Zjy s (i+1),List.length_cons]
   by_cases h2:slashAt s<s.length
   ·rw[if_pos h2,if_pos (by omega)];omega
   ·rw[if_neg h2,if_neg (by omega)]
end Go.Mx
namespace Go.Mx
end Go.Mx
namespace Go.Mx
open Go
variable {d:Int} {j k n:Nat} {l:List Int}
def vI:List Int→Int
 |[]=>0
 |d::l=>d+1000000000*vI l
def pI(k:Nat):Int:=1000000000^k
theorem Zcz(k:Nat):pI (k+1)=1000000000*pI k:=by unfold pI;rw[Int.pow_succ,Int.mul_comm]
theorem Yip:pI 0=1:=rfl
theorem Zjn(k:Nat):0<pI k:=by unfold pI;exact Int.pow_pos (by decide)
theorem Zuy(i j:Nat):pI (i+j)=pI i*pI j:=by unfold pI;exact Int.pow_add ..
theorem Zl6:∀(l m:List Int),vI (l++m)=vI l+pI l.length*vI m
 |[],m=>by simp[vI,pI]
 |d::l,m=>by
  simp only[List.cons_append,vI,Zl6 l m,List.length_cons,Zcz]
  grind
theorem Zfx(l:List Int)(d:Int):vI (l++[d])=vI l+pI l.length*d:=by simp[Zl6,vI]
theorem Zo1(n:Nat):vI (List.replicate n 0)=0:=by
 induction n with
 |zero=>rfl
 |succ n ih=>simp[List.replicate_succ,vI,ih]
theorem Zbj{α:Type}{l:List α}{d:α}(h:l[k]?=some d):k<l.length:=by
 apply Nat.lt_of_not_le;intro hc;rw[List.getElem?_eq_none hc]at h;cases h
theorem Zbc(h:l[k]?=some d):vI (l.take (k+1))=vI (l.take k)+pI k*d:=by
 have hk:=Zbj h
 rw[List.take_add_one,h]
 simp only[Option.toList]
 rw[Zfx,List.length_take,Nat.min_eq_left (by omega)]
theorem Zi5(l:List Int)(k:Nat)(hk:k≤l.length):vI l=vI (l.take k)+pI k*vI (l.drop k):=by
 have:=Zl6 (l.take k) (l.drop k)
 rw[List.take_append_drop,List.length_take,Nat.min_eq_left hk]at this
 exact this
theorem Zi6:∀{l:List Int} {k:Nat} {c:Int},l[k]?=some c→∀(v:Int),vI (l.set k v)=vI l+pI k*(v-c)
 |[],k,c,h,v=>by simp at h
 |d::l,0,c,h,v=>by
  simp at h;subst h
  simp only[List.set_cons_zero,vI,Yip];omega
 |d::l,k+1,c,h,v=>by
  have:=Zi6 (l:=l) (k:=k) (c:=c) (by simpa using h) v
  simp only[List.set_cons_succ,vI,this,Zcz]
  grind
def Di(l:List Int):Prop:=∀d∈l,0≤d∧d<1000000000
theorem Di.get(h:Di l){k:Nat}{d:Int}(hd:l[k]?=some d):0≤d∧d<1000000000:=h d (List.mem_of_getElem? hd)
theorem Di.set(h:Di l){k:Nat}{v:Int}(h0:0≤v)(h1:v<1000000000):Di (l.set k v):=fun d hd=>by
 rcases List.mem_or_eq_of_mem_set hd with hd|rfl
 ·exact h d hd
 ·exact⟨h0,h1⟩
theorem Di.app{m:List Int}(h:Di l)(h':Di m):Di (l++m):=fun d hd=>by
 rcases List.mem_append.1 hd with hd|hd
 ·exact h d hd
 ·exact h' d hd
theorem Di.one{v:Int}(h0:0≤v)(h1:v<1000000000):Di [v]:=fun d hd=>by simp at hd;subst hd;exact⟨h0,h1⟩
theorem Di.nil:Di []:=fun d hd=>by simp at hd
theorem Di.zeros(n:Nat):Di (List.replicate n 0):=fun d hd=>by rw[List.mem_replicate]at hd;rw[hd.2];decide
theorem Di.take(h:Di l)(k:Nat):Di (l.take k):=fun d hd=>h d (List.mem_of_mem_take hd)
theorem Di.drop(h:Di l)(k:Nat):Di (l.drop k):=fun d hd=>h d (List.mem_of_mem_drop hd)
theorem Zia:∀{l:List Int},Di l→0≤vI l
 |[],_=>Int.le_refl _
 |d::l,h=>by
  have h1:=h d List.mem_cons_self
  have h2:=Zia (l:=l) fun e he=>h e (List.mem_cons_of_mem _ he)
  simp only[vI];omega
theorem Zib:∀{l:List Int},Di l→vI l<pI l.length
 |[],_=>by decide
 |d::l,h=>by
  have h1:=h d List.mem_cons_self
  have h2:=Zib (l:=l) fun e he=>h e (List.mem_cons_of_mem _ he)
  simp only[vI,List.length_cons,Zcz];omega
def zI(l:List Int)(j:Nat):Int:=l[j]?.getD 0
theorem Yhq(h:l[j]?=some d):zI l j=d:=by simp[zI,h]
theorem Zsd(h:l.length≤j):zI l j=0:=by simp[zI,h]
theorem Yhr{l:List Int}(h:Di l)(j:Nat):0≤zI l j∧zI l j<1000000000:=by
 unfold zI
 cases hj:l[j]? with
 |none=>simp
 |some d=>exact h.get hj
theorem Zl5{l:List Int}{k:Nat}:vI (l.take (k+1))=vI (l.take k)+pI k*zI l k:=by
 unfold zI
 cases h:l[k]? with
 |some d=>exact Zbc h
 |none=>
  have hk:l.length≤k:=by
   apply Nat.le_of_not_lt;intro hc;rw[List.getElem?_eq_getElem hc]at h;cases h
  rw[List.take_of_length_le (by omega),List.take_of_length_le hk];simp
theorem Zaq{α:Type}{l:List α}{d:α}(h:l[k]?=some d):l.drop k=d::l.drop (k+1):=by
 obtain⟨hk,hs⟩:=List.getElem?_eq_some_iff.1 h
 rw[←hs];exact List.drop_eq_getElem_cons hk
def dI(l:List Int):List V:=l.map fun n=>.int .i64 n
theorem Zat(l:List Int):(dI l).length=l.length:=by simp[dI]
theorem Zbm{n:Int}(h:l[j]?=some n):(dI l)[j]?=some (.int .i64 n):=by simp[dI,h]
attribute [simp] Zat
theorem Zh6{v:Int}(h:k<l.length):splice (dI l) k [.int .i64 v]=dI (l.set k v):=by
 unfold splice dI
 apply List.ext_getElem?
 intro j
 simp only[List.length_singleton,List.getElem?_map,List.getElem?_set]
 rw[List.append_assoc,List.getElem?_append,List.length_take,List.length_map]
 by_cases h1:j<k
 ·rw[if_pos (by omega),List.getElem?_take,if_pos h1,List.getElem?_map,if_neg (by omega)]
 ·rw[if_neg (by omega)]
  by_cases h2:j=k
  ·subst h2
   rw[show j-min j l.length=0 by omega,if_pos rfl,if_pos h];rfl
  ·rw[show j-min k l.length=(j-k-1)+1 by omega,if_neg (by omega)]
   simp only[List.singleton_append,List.getElem?_cons_succ,List.getElem?_drop,List.getElem?_map]
   rw[show k+1+(j-k-1)=j by omega]
theorem Zpu:Zd5 [.int .i64 0] n=dI (List.replicate n 0):=by rw[Ygk];simp[dI]
def Zf0:List Int→List Int
 |[]=>[]
 |d::l=>match Zf0 l with
  |[]=>if d=0 then [] else [d]
  |t=>d::t
theorem Zkk:∀(l:List Int),Zf0 (l++[0])=Zf0 l
 |[]=>rfl
 |d::l=>by simp only[List.cons_append,Zf0,Zkk l]
theorem Zn4{d:Int}(hd:d≠0):∀(l:List Int),Zf0 (l++[d])=l++[d]
 |[]=>by simp[Zf0,hd]
 |e::l=>by
  simp only[List.cons_append,Zf0,Zn4 hd l]
  cases l<;>rfl
theorem Zqe:∀(l:List Int),(Zf0 l).length≤l.length
 |[]=>Nat.le_refl _
 |d::l=>by
  have ih:=Zqe l
  simp only[Zf0]
  split
  ·split<;>simp
  ·simp only[List.length_cons];omega
def ds(n:Nat):List Int:=if h:n=0 then [] else ((n%1000000000:Nat):Int)::ds (n/1000000000)
termination_by n
decreasing_by exact Nat.div_lt_self (by omega) (by decide)
theorem Zci:ds 0=[]:=by rw[ds];simp
theorem Zg8(h:n≠0):ds n=((n%1000000000:Nat):Int)::ds (n/1000000000):=by rw[ds];simp[h]
theorem Zbd:∀(n:Nat),vI (ds n)=n:=by
 intro n
 induction n using Nat.strongRecOn with
 |_ n ih=>
  by_cases h:n=0
  ·subst h;rw[Zci];rfl
  ·rw[Zg8 h]
   simp only[vI]
   rw[ih (n/1000000000) (Nat.div_lt_self (by omega) (by decide))]
   omega
theorem Zca(n:Nat):Di (ds n):=by
 induction n using Nat.strongRecOn with
 |_ n ih=>
  by_cases h:n=0
  ·subst h;rw[Zci];exact Di.nil
  ·rw[Zg8 h]
   intro d hd
   rcases List.mem_cons.1 hd with rfl|hd
   ·omega
   ·exact ih (n/1000000000) (Nat.div_lt_self (by omega) (by decide)) d hd
theorem Zo3:∀{l:List Int},Di l→Zf0 l=ds (vI l).toNat
 |[],_=>by simp[Zf0,vI,Zci]
 |d::l,h=>by
  have hl:Di l:=fun e he=>h e (List.mem_cons_of_mem _ he)
  have ih:=Zo3 hl
  have hd:=h d List.mem_cons_self
  have hn:=Zia hl
  simp only[Zf0,vI,ih]
  by_cases h0:vI l=0
  ·rw[h0]
   simp only[Int.toNat_zero,Zci,Int.mul_zero,Int.add_zero]
   by_cases hd0:d=0
   ·simp[hd0,Zci]
   ·rw[Zg8 (by omega),Nat.mod_eq_of_lt (by omega),Nat.div_eq_of_lt (by omega),Zci];simp[hd0];omega
  ·have h3:(d+1000000000*vI l).toNat≠0:=by omega
   rw[Zg8 h3]
   have h1:(d+1000000000*vI l).toNat/1000000000=(vI l).toNat:=by omega
   have h2:(((d+1000000000*vI l).toNat%1000000000:Nat):Int)=d:=by omega
   rw[h1,h2]
   split
   ·rename_i hc;rw[Zg8 (by omega)]at hc;cases hc
   ·rfl
theorem Zfz(h:Di l){n:Nat}(hn:vI l=n):Zf0 l=ds n:=by rw[Zo3 h,hn];rfl
theorem Yj9(n:Nat):Zf0 (ds n)=ds n:=Zfz (Zca n) (Zbd n)
theorem Zdn:ds n=[]↔n=0:=by
 constructor
 ·intro h
  by_cases h0:n=0
  ·exact h0
  ·rw[Zg8 h0]at h;cases h
 ·intro h;rw[h,Zci]
theorem Yka(h:n≠0):∃d,(ds n)[(ds n).length-1]?=some d∧0<d:=by
 have hne:ds n≠[]:=fun hc=>h (Zdn.1 hc)
 obtain⟨l,d,hd⟩:∃l d,ds n=l++[d]:=⟨(ds n).dropLast,(ds n).getLast hne,(List.dropLast_concat_getLast hne).symm⟩
 refine⟨d,by rw[hd,List.length_append,List.length_singleton];simp,?_⟩
 have h1:=Zca n d (by rw[hd];exact List.mem_append_right _ List.mem_cons_self)
 have:d≠0:=fun h0=>by
  have h2:=Yj9 n
  rw[hd,h0,Zkk]at h2
  have:=Zqe l
  rw[h2]at this;simp at this;omega
 omega
theorem Zfq{n k:Nat}(h:n<1000000000^k):(ds n).length≤k:=by
 induction k generalizing n with
 |zero=>
  have:n=0:=by simpa using h
  rw[this,Zci];simp
 |succ k ih=>
  by_cases h0:n=0
  ·rw[h0,Zci];simp
  ·rw[Zg8 h0]
   have:=ih (n:=n/1000000000) ((Nat.div_lt_iff_lt_mul (by decide)).2 (by rw[←Nat.pow_succ];exact h))
   simp only[List.length_cons];omega
def Dn(h:T O)(N:Nat)(v:V)(n:Nat):Prop:=Sl h N v (dI (ds n))
theorem Dn.keep{h h':T O}{N N':Nat}{v:V}(s:Dn h N v n)(k:Keeps h N h' N'):Dn h' N' v n:=Sl.keep s k
end Go.Mx
namespace Go.Mx
open Go
variable {w:List Int}
theorem Ztv{P u1 u2 U' v1 v2 V' t r:Int}(hP:0<P)(hU':0≤U')(hu2:0≤u2)(hu1:0≤u1)(hv1:0<v1)(hv2:0≤v2)(hV0:0≤V')(hV':V'<P)(h0:0≤t)(ht:t≤1000000000)(hinv:u1=t*v1+r)(hc:t*v2≤r*1000000000+u2):
  (t-1)*(V'+P*(v2+1000000000*v1))≤U'+P*(u2+1000000000*u1):=by
 by_cases ht0:t=0
 ·subst ht0
  have h1:0≤P*(v2+1000000000*v1):=Int.mul_nonneg (by omega) (by omega)
  have h2:0≤P*(u2+1000000000*u1):=Int.mul_nonneg (by omega) (by omega)
  omega
 ·have h1:(t-1)*V'≤1000000000*P:=by
   have:(t-1)*V'≤1000000000*V':=Int.mul_le_mul_of_nonneg_right (by omega) hV0
   omega
  have h2:P*1≤P*v1:=Int.mul_le_mul_of_nonneg_left (by omega) (by omega)
  have h3:P*(t*v2)≤P*(r*1000000000+u2):=Int.mul_le_mul_of_nonneg_left hc (by omega)
  have h4:0≤P*v2:=Int.mul_nonneg (by omega) hv2
  have h5:(t-1)*(V'+P*(v2+1000000000*v1))=(t-1)*V'+P*(t*v2)-P*v2+1000000000*(P*(t*v1))-1000000000*(P*v1):=by grind
  have h6:U'+P*(u2+1000000000*u1)=U'+P*(r*1000000000+u2)+1000000000*(P*(t*v1)):=by subst hinv;grind
  omega
theorem Yjt{P u1 u2 U' v1 v2 V' t r:Int}(hP:0<P)(hU':U'<P)(hV0:0≤V')(h0:0≤t)(hinv:u1=t*v1+r)(hc:r*1000000000+u2<t*v2):
  U'+P*(u2+1000000000*u1)<t*(V'+P*(v2+1000000000*v1)):=by
 have h1:0≤t*V':=Int.mul_nonneg h0 hV0
 have h3:P*(r*1000000000+u2+1)≤P*(t*v2):=Int.mul_le_mul_of_nonneg_left (by omega) (by omega)
 have h5:t*(V'+P*(v2+1000000000*v1))=t*V'+P*(t*v2)+1000000000*(P*(t*v1)):=by grind
 have h6:U'+P*(u2+1000000000*u1)=U'+P*(r*1000000000+u2+1)-P+1000000000*(P*(t*v1)):=by subst hinv;grind
 omega
theorem Yab{x:Int}(h1:1≤x)(h2:x<1000000000):500000000≤x*(1000000000/(x+1)):=by
 have hd:(x+1)*(1000000000/(x+1))+1000000000%(x+1)=1000000000:=Int.mul_ediv_add_emod ..
 have hr:1000000000%(x+1)<x+1:=Int.emod_lt_of_pos _ (by omega)
 have hr0:0≤1000000000%(x+1):=Int.emod_nonneg _ (by omega)
 generalize 1000000000/(x+1)=d at*
 generalize 1000000000%(x+1)=r at*
 have e:(x+1)*d=x*d+d:=by grind
 apply Int.le_of_not_gt
 intro hc
 by_cases hx:x≤500000000
 ·have h3:500000000-x+1≤d:=by omega
  have h4:x*(500000000-x+1)≤x*d:=Int.mul_le_mul_of_nonneg_left h3 (by omega)
  have h5:0≤(x-1)*(500000000-x):=Int.mul_nonneg (by omega) (by omega)
  have h6:(x-1)*(500000000-x)=x*(500000000-x+1)-500000000:=by grind
  omega
 ·have h3:1≤d:=by
   apply Int.le_of_not_gt;intro h
   have:d≤0:=by omega
   have:(x+1)*d≤0:=Int.mul_nonpos_of_nonneg_of_nonpos (by omega) this
   omega
  have h4:x*1≤x*d:=Int.mul_le_mul_of_nonneg_left h3 (by omega)
  omega
theorem Zgr{m:Nat}(h:∀t,m≤t→t<w.length→w[t]?=some 0):vI w=vI (w.take m):=by
 by_cases hm:m≤w.length
 ·have h1:=Zi5 w m hm
  have h2:w.drop m=List.replicate (w.length-m) 0:=by
   apply List.ext_getElem?
   intro t
   rw[List.getElem?_drop,List.getElem?_replicate]
   by_cases ht:t<w.length-m
   ·rw[if_pos ht];exact h _ (by omega) (by omega)
   ·rw[if_neg ht];exact List.getElem?_eq_none (by omega)
  rw[h2,Zo1]at h1
  omega
 ·rw[List.take_of_length_le (by omega)]
theorem Yhu{k:Nat}{a c d:Int}(ha:w[k]?=some a)(hc:w[k+1]?=some c)(hd:w[k+2]?=some d)(hz:∀t,k+3≤t→t<w.length→w[t]?=some 0):
  vI w=vI (w.take k)+pI k*(a+1000000000*(d*1000000000+c)):=by
 rw[Zgr hz,show k+3=(k+2)+1 by omega,Zbc hd,Zbc hc,Zbc ha,Zcz (k+1),Zcz k]
 grind
theorem Yhv{k:Nat}{a c:Int}(ha:w[k]?=some a)(hc:w[k+1]?=some c)(hl:w.length=k+2):
  vI w=vI (w.take k)+pI k*(a+1000000000*c):=by
 have h1:vI w=vI (w.take (k+1+1)):=by rw[List.take_of_length_le (by omega)]
 rw[h1,Zbc hc,Zbc ha,Zcz k]
 grind
theorem Ydg{n:Nat}{t:Int}(hd:Di (w.take n))(ht:w[n]?=some t)(hz:∀j,n<j→j<w.length→w[j]?=some 0)(h1:vI w<pI n):(0≤vI w→t=0)∧(vI w<0→t<0):=by
 have hl:=Zbj ht
 have h2:vI w=vI (w.take n)+pI n*t:=by
  rw[Zgr (m:=n+1) (fun j h1 h2=>hz j (by omega) h2),Zbc ht]
 have h3:=Zia hd
 have h4:=Zib hd
 rw[List.length_take,Nat.min_eq_left (by omega)]at h4
 have h5:=Zjn n
 constructor
 ·intro h
  have h6:¬t≤ -1:=fun hc=>by
   have:=Int.mul_le_mul_of_nonneg_left hc (Int.le_of_lt h5)
   omega
  have h7:¬1≤t:=fun hc=>by
   have:=Int.mul_le_mul_of_nonneg_left hc (Int.le_of_lt h5)
   omega
  omega
 ·intro h
  apply Int.lt_of_not_ge
  intro hc
  have:=Int.mul_nonneg (Int.le_of_lt h5) hc
  omega
end Go.Mx
namespace Go.Mx
open Go
variable {N k:Nat} {s:Str}
theorem Ypx:(N=N+1)=False:=eq_false (by omega)
theorem Ypo:(N+1=N)=False:=eq_false (by omega)
theorem Yqf:(N+1<N)=False:=eq_false (by omega)
theorem Ypw:(N=N+1+1)=False:=eq_false (by omega)
theorem Ypn:(N+1+1=N)=False:=eq_false (by omega)
theorem Yqe:(N+1+1<N)=False:=eq_false (by omega)
theorem Ypv:(N=N+1+1+1)=False:=eq_false (by omega)
theorem Ypm:(N+1+1+1=N)=False:=eq_false (by omega)
theorem Yqd:(N+1+1+1<N)=False:=eq_false (by omega)
theorem Ypu:(N=N+1+1+1+1)=False:=eq_false (by omega)
theorem Ypl:(N+1+1+1+1=N)=False:=eq_false (by omega)
theorem Yqc:(N+1+1+1+1<N)=False:=eq_false (by omega)
theorem Ypt:(N=N+1+1+1+1+1)=False:=eq_false (by omega)
theorem Ypk:(N+1+1+1+1+1=N)=False:=eq_false (by omega)
theorem Yqb:(N+1+1+1+1+1<N)=False:=eq_false (by omega)
theorem Yps:(N=N+1+1+1+1+1+1)=False:=eq_false (by omega)
theorem Ypj:(N+1+1+1+1+1+1=N)=False:=eq_false (by omega)
theorem Yqa:(N+1+1+1+1+1+1<N)=False:=eq_false (by omega)
theorem Ypr:(N=N+1+1+1+1+1+1+1)=False:=eq_false (by omega)
theorem Ypi:(N+1+1+1+1+1+1+1=N)=False:=eq_false (by omega)
theorem Yp9:(N+1+1+1+1+1+1+1<N)=False:=eq_false (by omega)
theorem Ypq:(N=N+1+1+1+1+1+1+1+1)=False:=eq_false (by omega)
theorem Yph:(N+1+1+1+1+1+1+1+1=N)=False:=eq_false (by omega)
theorem Yp8:(N+1+1+1+1+1+1+1+1<N)=False:=eq_false (by omega)
theorem Ypp:(N=N+1+1+1+1+1+1+1+1+1)=False:=eq_false (by omega)
theorem Ypg:(N+1+1+1+1+1+1+1+1+1=N)=False:=eq_false (by omega)
theorem Yp7:(N+1+1+1+1+1+1+1+1+1<N)=False:=eq_false (by omega)
theorem Yn7:(N=N+1+1+1+1+1+1+1+1+1+1)=False:=eq_false (by omega)
theorem Yn1:(N+1+1+1+1+1+1+1+1+1+1=N)=False:=eq_false (by omega)
theorem Yoj:(N+1+1+1+1+1+1+1+1+1+1<N)=False:=eq_false (by omega)
theorem Yn6:(N=N+1+1+1+1+1+1+1+1+1+1+1)=False:=eq_false (by omega)
theorem Yn0:(N+1+1+1+1+1+1+1+1+1+1+1=N)=False:=eq_false (by omega)
theorem Yoi:(N+1+1+1+1+1+1+1+1+1+1+1<N)=False:=eq_false (by omega)
theorem Yn5:(N=N+1+1+1+1+1+1+1+1+1+1+1+1)=False:=eq_false (by omega)
theorem Ynz:(N+1+1+1+1+1+1+1+1+1+1+1+1=N)=False:=eq_false (by omega)
theorem Yoh:(N+1+1+1+1+1+1+1+1+1+1+1+1<N)=False:=eq_false (by omega)
theorem Yn4:(N=N+1+1+1+1+1+1+1+1+1+1+1+1+1)=False:=eq_false (by omega)
theorem Yny:(N+1+1+1+1+1+1+1+1+1+1+1+1+1=N)=False:=eq_false (by omega)
theorem Yog:(N+1+1+1+1+1+1+1+1+1+1+1+1+1<N)=False:=eq_false (by omega)
theorem Yn3:(N=N+1+1+1+1+1+1+1+1+1+1+1+1+1+1)=False:=eq_false (by omega)
theorem Ynx:(N+1+1+1+1+1+1+1+1+1+1+1+1+1+1=N)=False:=eq_false (by omega)
theorem Yof:(N+1+1+1+1+1+1+1+1+1+1+1+1+1+1<N)=False:=eq_false (by omega)
theorem Yn2:(N=N+1+1+1+1+1+1+1+1+1+1+1+1+1+1+1)=False:=eq_false (by omega)
theorem Ynw:(N+1+1+1+1+1+1+1+1+1+1+1+1+1+1+1=N)=False:=eq_false (by omega)
theorem Yoe:(N+1+1+1+1+1+1+1+1+1+1+1+1+1+1+1<N)=False:=eq_false (by omega)
attribute [simp] Ypx Ypo Yqf Ypw Ypn Yqe Ypv Ypm Yqd Ypu Ypl Yqc Ypt Ypk Yqb Yps Ypj Yqa Ypr Ypi Yp9 Ypq Yph Yp8 Ypp Ypg Yp7 Yn7 Yn1 Yoj Yn6 Yn0 Yoi Yn5 Ynz Yoh Yn4 Yny Yog Yn3 Ynx Yof Yn2 Ynw Yoe
theorem Yp6:(N<N+1)=True:=eq_true (by omega)
theorem Yp5:(N<N+1+1)=True:=eq_true (by omega)
theorem Yp4:(N<N+1+1+1)=True:=eq_true (by omega)
theorem Yp3:(N<N+1+1+1+1)=True:=eq_true (by omega)
theorem Yp2:(N<N+1+1+1+1+1)=True:=eq_true (by omega)
theorem Yp1:(N<N+1+1+1+1+1+1)=True:=eq_true (by omega)
theorem Yp0:(N<N+1+1+1+1+1+1+1)=True:=eq_true (by omega)
theorem Ypz:(N<N+1+1+1+1+1+1+1+1)=True:=eq_true (by omega)
theorem Ypy:(N<N+1+1+1+1+1+1+1+1+1)=True:=eq_true (by omega)
theorem Yod:(N<N+1+1+1+1+1+1+1+1+1+1)=True:=eq_true (by omega)
theorem Yoc:(N<N+1+1+1+1+1+1+1+1+1+1+1)=True:=eq_true (by omega)
theorem Yob:(N<N+1+1+1+1+1+1+1+1+1+1+1+1)=True:=eq_true (by omega)
theorem Yoa:(N<N+1+1+1+1+1+1+1+1+1+1+1+1+1)=True:=eq_true (by omega)
theorem Yn9:(N<N+1+1+1+1+1+1+1+1+1+1+1+1+1+1)=True:=eq_true (by omega)
theorem Yn8:(N<N+1+1+1+1+1+1+1+1+1+1+1+1+1+1+1)=True:=eq_true (by omega)
attribute [simp] Yp6 Yp5 Yp4 Yp3 Yp2 Yp1 Yp0 Ypz Ypy Yod Yoc Yob Yoa Yn9 Yn8
theorem Call.eq{C:Cx}{g:V}{args:List V}{st st':St}{u:V}(h:Call C g args st (fun v s=>v=u∧s=st')):C.call g args st=some (u,st'):=by
 obtain⟨v,s,e,rfl,rfl⟩:=h.ex
 exact e
theorem Fn.pure{C:Cx}{f:Nat}{args:List V}{h:T O}{u:V}{P:V→T O→Nat→Prop}(e:∀w,C.call (.func f [] []) args ⟨h,N,w⟩=some (u,⟨h,N,w⟩))(p:P u h N):Fn C f args h N P:=fun w=>⟨⟨u,⟨h,N,w⟩,e w,rfl,Keeps.refl,p⟩⟩
theorem Zpm{C:Cx}{K:List Kf}{Q:Rs→Prop}{fr:Fr}{st:St}{i j:Nat}(h:¬j=i):Run C (.block i::K) (some (.ex (.exit j) fr st)) Q↔Run C K (some (.ex (.exit j) fr st)) Q:=Zpn (by
 cases hb:Nat.beq j i with
 |false=>rfl
 |true=>exact absurd (Nat.eq_of_beq_eq_true hb) h)
attribute [simp] Zpm
def Zak:List Int→Int
 |[]=>0
 |e::l=>if e=0 then Zak l else e
theorem Zag{α:Type}{l:List α}(h:k<l.length):∃d,l[k]?=some d:=⟨_,List.getElem?_eq_getElem h⟩
theorem Yb2(c:UInt8):Zkf c=decide (48≤u8I c∧u8I c≤57):=by
 unfold Zkf u8I;rw[decide_eq_decide];omega
def Zno(k:Nat):List V:=(List.range 256).map fun i=>.bool (decide (48≤i∧i<48+k))
theorem Zdp(k:Nat):(Zno k).length=256:=by simp[Zno]
theorem Zhz{i:Nat}(hi:i<256):(Zno k)[i]?=some (.bool (decide (48≤i∧i<48+k))):=by simp[Zno,hi]
theorem Zv3(k:Nat):(Zno k).all V.one=true:=by simp[Zno,V.one]
theorem Ygc(hk:k<10):splice (Zno k) (48+k) [.bool true]=Zno (k+1):=by
 apply List.ext_getElem?
 intro j
 unfold splice
 rw[List.append_assoc,List.getElem?_append,List.length_take,Zdp,Nat.min_eq_left (by omega)]
 by_cases h1:j<48+k
 ·rw[if_pos h1,List.getElem?_take,if_pos h1,Zhz (by omega),Zhz (by omega)]
  congr 3;rw[eq_iff_iff];omega
 ·rw[if_neg h1]
  by_cases h2:j=48+k
  ·subst h2
   rw[Zhz (by omega)]
   simp
  ·rw[show j-(48+k)=(j-(48+k)-1)+1 by omega]
   simp only[List.singleton_append,List.getElem?_cons_succ,List.getElem?_drop,List.length_singleton]
   rw[show 48+k+1+(j-(48+k)-1)=j by omega]
   by_cases h3:j<256
   ·rw[Zhz h3,Zhz h3];congr 3;rw[eq_iff_iff];omega
   ·rw[List.getElem?_eq_none (by rw[Zdp];omega),List.getElem?_eq_none (by rw[Zdp];omega)]
theorem Ycr(k:Nat):(Zno k).take 256=Zno k:=List.take_of_length_le (by rw[Zdp];omega)
theorem Ygb(j k:Nat):splice (Zno j) 0 (Zno k)=Zno k:=by
 unfold splice;rw[Zdp,List.drop_eq_nil_of_le (by rw[Zdp];omega)];simp
attribute [simp] Zdp Zv3 Ycr Ygb
def Zb9(s:Str):Bool:=s.all Zkf
def Yow:Str:=[48,49,50,51,52,53,54,55,56,57]
theorem Yfs(hk:k<10):∃c,Yow[k]?=some c∧u8I c=48+k:=by
 have:k=0∨k=1∨k=2∨k=3∨k=4∨k=5∨k=6∨k=7∨k=8∨k=9:=by omega
 rcases this with rfl|rfl|rfl|rfl|rfl|rfl|rfl|rfl|rfl|rfl<;>exact⟨_,rfl,rfl⟩
theorem Zd1{n:Int}(h1:0≤n)(h2:n<256):Zap .u8 n=n:=by
 rw[Zdc]
 simp[IntKind.wrap,IntKind.bits,IntKind.signed]
 omega
theorem Zi1{n:Int}(h1: -9223372036854775808≤n)(h2:n<9223372036854775808):IntKind.wrap .i64 n=n:=by
 simp[IntKind.wrap,IntKind.bits,IntKind.signed]
 omega
theorem Zg1(l:Str)(c:UInt8):numV (l++[c])=10*numV l+(c.toNat-48):=by simp[numV]
theorem Zmu{c:UInt8}(h:s[k]?=some c):numV (s.take (k+1))=10*numV (s.take k)+(c.toNat-48):=by
 rw[List.take_add_one,h]
 simp only[Option.toList,Zg1]
theorem Zka(h:Zb9 s=true){k:Nat}{c:UInt8}(hc:s[k]?=some c):48≤u8I c∧u8I c≤57:=by
 unfold Zb9 at h
 rw[List.all_eq_true]at h
 have:=h c (List.mem_of_getElem? hc)
 rw[Yb2]at this
 simpa using this
theorem Zpi{s:Str}(h:Zb9 s=true):∀k,k≤s.length→numV (s.take k)<10^k
 |0,_=>by simp[numV]
 |k+1,hk=>by
  obtain⟨c,hc⟩:=Zag (l:=s) (k:=k) (by omega)
  have h1:=Zpi h k (by omega)
  have h2:=Zka h hc
  unfold u8I at h2
  rw[Zmu hc,Nat.pow_succ]
  omega
theorem Zd3(h:Zb9 s=true):numV s<10^s.length:=by
 have:=Zpi h s.length (Nat.le_refl _)
 rwa [List.take_length]at this
theorem Zu0{a b:Nat}(h:a≤b):10^a≤10^b:=Nat.pow_le_pow_right (by decide) h
theorem Yge(h:k<9223372036854775808):Zdl .and .i64 (k:Int) 1=some (.int .i64 ((k%2:Nat):Int)):=by
 show some (V.int .i64 (IntKind.wrap .i64 (BitVec.ofInt 64 (k:Int)&&& BitVec.ofInt 64 1).toNat))=_
 have e:(BitVec.ofInt 64 1).toNat=2^1-1:=by decide
 rw[BitVec.toNat_and,Zjp k (by omega),e,Nat.and_two_pow_sub_one_eq_mod,Zi1 (by omega) (by omega)]
theorem Ydq:Zgn .shr .i64 (k:Int) 1=some (.int .i64 ((k/2:Nat):Int)):=by
 unfold Zgn
 have e:min (1:Int).toNat (IntKind.bits .i64)=1:=by decide
 rw[if_neg (by decide),e]
 simp only[Option.some.injEq,V.int.injEq,true_and]
 rw[Int.fdiv_eq_ediv_of_nonneg _ (by decide)]
 rfl
end Go.Mx
namespace Go.Mx
open Go
variable {N i:Nat} {h:T O} {k v:V}
theorem Keeps.new{h1:T O}{n n1:Nat}(k:Keeps h n h1 n1)(o:O):Keeps h n (h1.set n1 o) (n1+1):=(k.set k.le).up (Nat.le_succ _)
abbrev FnV(C:Cx)(f:V)(args:List V)(h:T O)(n:Nat)(P:V→T O→Nat→Prop):Prop:=∀w,Call C f args ⟨h,n,w⟩ (Ret P h n w)
theorem Zkn{C:Cx}{f args h n w P K Q}(hf:FnV C f args h n P)(k:∀v h' n',Keeps h n h' n'→P v h' n'→Run C K (some (.val v ⟨h',n',w⟩)) Q):Run C K (Zp4 (C.call f args ⟨h,n,w⟩)) Q:=
 Zd2 (hf w) fun v st'=>by
  obtain⟨h',n',w'⟩:=st'
  rintro⟨rfl,hk,hp⟩
  exact k v h' n' hk hp
theorem FnV.pure{C:Cx}{f:V}{args:List V}{u:V}{P:V→T O→Nat→Prop}(e:∀w,C.call f args ⟨h,N,w⟩=some (u,⟨h,N,w⟩))(p:P u h N):FnV C f args h N P:=fun w=>⟨⟨u,⟨h,N,w⟩,e w,rfl,Keeps.refl,p⟩⟩
def Zfp(p:Nat→Bool)(k:Nat):Nat→Int
 |0=> -1
 |m+1=>if p k=true then (k:Int) else Zfp p (k+1) m
theorem Zrq{p:Nat→Bool}:∀{m k:Nat},(0≤Zfp p k m↔∃j,k≤j∧j<k+m∧p j=true)
 |0,k=>by simp[Zfp];intro j h1 h2;omega
 |m+1,k=>by
  simp only[Zfp]
  by_cases h:p k=true
  ·rw[if_pos h];exact⟨fun _=>⟨k,Nat.le_refl _,by omega,h⟩,fun _=>by omega⟩
  ·rw[if_neg h,Zrq (m:=m) (k:=k+1)]
   constructor
   ·rintro⟨j,h1,h2,h3⟩;exact⟨j,by omega,by omega,h3⟩
   ·rintro⟨j,h1,h2,h3⟩
    refine⟨j,?_,by omega,h3⟩
    have:j≠k:=fun hj=>h (hj▸h3)
    omega
def SlF(v:V):Prop:=v=.nilslice∨v=.empty∨∃i o n c z,v=.slice i o n c z
theorem Sl.form{l:List V}(s:Sl h N v l):SlF v:=by
 rcases s with⟨_,h|h⟩|⟨i,o,cp,c,e,rw,h,_⟩
 ·exact .inl h
 ·exact .inr (.inl h)
 ·exact .inr (.inr ⟨_,_,_,_,_,h⟩)
theorem SlF.one(h:SlF v):V.one v=true:=by
 rcases h with rfl|rfl|⟨_,_,_,_,_,rfl⟩<;>rfl
theorem SlF.cells(h:SlF v):V.cells v=[v]:=by
 rcases h with rfl|rfl|⟨_,_,_,_,_,rfl⟩<;>rfl
def strs(l:List Str):List V:=l.map .str
theorem Zbn(l:List Str):(strs l).length=l.length:=by simp[strs]
theorem Zf1{l:List Str}{j:Nat}{n:Str}(h:l[j]?=some n):(strs l)[j]?=some (.str n):=by simp[strs,h]
attribute [simp] Zbn
def Ylg(s:Stg)(inp:V):List V:=[.str s.name,.str s.op,.str s.factor,inp,.int .i64 s.cost]
def Gr(h:T O)(N:Nat)(v:V)(g:List Stg):Prop:=∃l:List (List V),Sn 5 h N v l∧l.length=g.length∧∀(j:Nat) (s:Stg),g[j]?=some s→∃inp,l[j]?=some (Ylg s inp)∧Sl h N inp (strs s.inputs)
theorem Gr.keep{h':T O}{N':Nat}{g:List Stg}(s:Gr h N v g)(k:Keeps h N h' N'):Gr h' N' v g:=by
 obtain⟨l,h1,h2,h3⟩:=s
 refine⟨l,h1.keep k,h2,fun j s hs=>?_⟩
 obtain⟨inp,h4,h5⟩:=h3 j s hs
 exact⟨inp,h4,h5.keep k⟩
theorem Gr.len{g:List Stg}(s:Gr h N v g):Zmy v=some g.length:=by
 obtain⟨l,h1,h2,h3⟩:=s
 rw[h1.len,h2]
theorem Gr.at{g:List Stg}(s:Gr h N v g){j:Nat}{x:Stg}(hj:g[j]?=some x):∃i o c e rw inp,Znn v=some (i,o)∧i<N∧h.get i=some (.cells c e rw)∧slc c (o+j*5) 5=some (Ylg x inp)∧Sl h N inp (strs x.inputs):=by
 obtain⟨l,h1,h2,h3⟩:=s
 obtain⟨inp,h4,h5⟩:=h3 j x hj
 obtain⟨i,o,c,e,rw,q1,q2,q3,q4⟩:=h1.at h4
 exact⟨i,o,c,e,rw,inp,q1,q2,q3,q4,h5⟩
theorem Gr.slice{g:List Stg}{w:List Nat}(s:Gr h N v g){lo hi:Nat}(h1:lo≤hi)(h2:hi≤g.length)(x y:Option V)(hx:x=some (.int .i64 lo)∨x=none∧lo=0)(hy:y=some (.int .i64 hi)∨y=none∧hi=g.length):
  ∃v',Zcr ⟨h,N,w⟩ 5 (some v) (some x) (some y) (some none)=some (v',⟨h,N,w⟩)∧Gr h N v' ((g.take hi).drop lo):=by
 obtain⟨l,g1,g2,g3⟩:=s
 obtain⟨v',e1,e2⟩:=Zze (z:=5) (w:=w) (by decide) g1 h1 (by omega) x y hx (by rw[g2];exact hy)
 refine⟨v',e1,(l.take hi).drop lo,e2,by simp[g2],fun j s hs=>?_⟩
 have hj:lo+j<hi:=by
  apply Nat.lt_of_not_le;intro hc
  rw[List.getElem?_drop,List.getElem?_take,if_neg (by omega)]at hs;cases hs
 rw[List.getElem?_drop,List.getElem?_take,if_pos hj]at hs
 obtain⟨inp,q1,q2⟩:=g3 _ s hs
 exact⟨inp,by rw[List.getElem?_drop,List.getElem?_take,if_pos hj];exact q1,q2⟩
theorem Ynq{a b c d e:V}:slc [a,b,c,d,e] 0 5=some [a,b,c,d,e]:=rfl
theorem Ynr{a b:V}:slc [a,b] 0 2=some [a,b]:=rfl
attribute [simp] Ynq Ynr
theorem Gr.form{g:List Stg}(s:Gr h N v g):SlF v:=by
 obtain⟨l,h1,_⟩:=s
 rcases h1 with⟨_,h|h⟩|⟨i,o,cp,c,e,rw,h,_⟩
 ·exact .inl h
 ·exact .inr (.inl h)
 ·exact .inr (.inr ⟨_,_,_,_,_,h⟩)
def Yjk(st:St)(zero:V)(ok:Bool):Option (Option (Nat×V))→Option (V×St)
 |some (some (_,v))=>some (if ok then .tup [v,.bool true] else v,st)
 |some none=>some (if ok then .tup [zero,.bool false] else zero,st)
 |none=>none
def Zvd(st:St)(kd:Zkx)(zero:V)(ok:Bool)(k:V):Option O→Option (V×St)
 |some (.map es)=>Yjk st zero ok (findV kd k es 0)
 |_=>none
def Yjl(st:St)(kd:Zkx)(zero:V)(ok:Bool):Option V→Option V→Option (V×St)
 |some (.map i),some k=>if kd.fits k=true then Zvd st kd zero ok k (st.h.get i) else none
 |some .nilmap,some k=>if kd.fits k=true then Yjk st zero ok (some none) else none
 |_,_=>none
theorem Zs6{kd:Zkx}{zero:V}{m k:Src}{ok:Bool}{call:Za1}{r:T V}{st:St}:Ze1 kd zero m k ok call r st=Yjl st kd zero ok (m.ev r) (k.ev r):=by
 unfold Ze1 Yjl
 rcases m.ev r with _|m
 ·rfl
 ·rcases k.ev r with _|k
  ·cases m<;>rfl
  ·cases m<;>simp only[]<;>(try (by_cases hf:kd.fits k=true<;>simp[hf]))<;>try rfl
   ·rename_i i
    rcases st.h.get i with _|o
    ·rfl
    ·cases o<;>simp only[Zvd]
     rename_i es
     rcases findV kd k es 0 with _|_|⟨_,_⟩<;>rfl
theorem Ya2{st:St}{zero:V}{ok:Bool}{s:Str}:Yjl st .str zero ok (some (.map i)) (some (.str s))=Zvd st .str zero ok (.str s) (st.h.get i):=rfl
theorem Ztr{st:St}{kd:Zkx}{zero:V}{ok:Bool}{es:List (V×V)}:Zvd st kd zero ok k (some (.map es))=Yjk st zero ok (findV kd k es 0):=rfl
attribute [simp] Zs6 Ya2 Ztr Zhq
def Yi6(st:St)(i:Nat)(k v:V)(es:List (V×V)):Option (Option (Nat×V))→Option (V×St)
 |some (some (j,_))=>some (.tup [],st.write i (.map (es.set j (k,v))))
 |some none=>some (.tup [],st.write i (.map (es++[(k,v)])))
 |none=>none
def Zu8(st:St)(kd:Zkx)(i:Nat)(k v:V):Option O→Option (V×St)
 |some (.map es)=>Yi6 st i k v es (findV kd k es 0)
 |_=>none
def msetK(st:St)(kd:Zkx):Option V→Option V→Option V→Option (V×St)
 |some (.map i),some k,some v=>if kd.fits k=true then Zu8 st kd i k v (st.h.get i) else none
 |_,_,_=>none
theorem Zs5{kd:Zkx}{m k v:Src}{call:Za1}{r:T V}{st:St}:Zec kd m k v call r st=msetK st kd (m.ev r) (k.ev r) (v.ev r):=by
 unfold Zec msetK
 rcases m.ev r with _|m
 ·rfl
 ·rcases k.ev r with _|k
  ·cases m<;>rfl
  ·rcases v.ev r with _|v
   ·cases m<;>rfl
   ·cases m with
    |map i=>
     simp only[]
     by_cases hf:kd.fits k=true
     ·simp only[hf,if_true]
      rcases st.h.get i with _|o
      ·rfl
      ·cases o<;>simp only[Zu8]
       rename_i es
       rcases findV kd k es 0 with _|_|⟨_,_⟩<;>rfl
     ·simp[hf]
    |_=>rfl
theorem Yag{st:St}{s:Str}:msetK st .str (some (.map i)) (some (.str s)) (some v)=Zu8 st .str i (.str s) v (st.h.get i):=rfl
theorem Zte{st:St}{kd:Zkx}{es:List (V×V)}:Zu8 st kd i k v (some (.map es))=Yi6 st i k v es (findV kd k es 0):=rfl
theorem Zw1{st:St}{es:List (V×V)}:Yi6 st i k v es (some none)=some (.tup [],st.write i (.map (es++[(k,v)]))):=rfl
attribute [simp] Zs5 Yag Zte Zw1
end Go.Mx
namespace Go.Mx
open Go
theorem Keeps.then{h h1 h2:T O}{n n1 n2:Nat}(a:Keeps h n h1 n1)(b:Keeps h1 n h2 n2):Keeps h n h2 n2:=⟨b.le,fun i hi=>(b.get i hi).trans (a.get i hi)⟩
def Zfd(l:List Int):List (List V):=l.map fun x=>[.int .i64 x]
theorem Zdh(l:List Int):(Zfd l).length=l.length:=by simp[Zfd]
theorem Zko:∀(l:List Int),(Zfd l).flatten=dI l
 |[]=>rfl
 |x::l=>by
  have:=Zko l
  simp only[Zfd,List.map_cons,List.flatten_cons,dI]at this ⊢
  rw[this];rfl
theorem Zc8(l:List Int)(x:Int):Zfd (l++[x])=Zfd l++[[.int .i64 x]]:=by simp[Zfd]
theorem Own.sl{e:TypeId}{N0:Nat}{h:T O}{N:Nat}{v:V}{l:List Int}(s:Own 1 e N0 h N v (Zfd l)):Sl h N v (dI l):=by
 have:=s.sn
 have e1:Zfd l=(dI l).map fun x=>[x]:=by simp[Zfd,dI]
 rw[e1]at this
 exact Sn.one.1 this
structure Yo8 (g:List Stg):Prop where
 le:g.length≤16
 name:∀(j:Nat) (s:Stg),g[j]?=some s→j≤pos (g.take j) s.name
 inp:∀(j:Nat) (s:Stg),g[j]?=some s→∀n∈s.inputs,pos (g.take j) n<j
 cost:∀s∈g,1≤s.cost∧s.cost≤1000
end Go.Mx
namespace Go.Mx
open Go
variable {N:Nat} {h:T O} {l:List V} {u v:V}
def Cp(h:T O)(N:Nat)(v:V)(l:List V):Prop:=∃j c,v=.slice j 0 l.length c 1∧j<N∧h.get j=some (.cells l 9 true)∧∀k,c=some k→l.length≤k
theorem Cp.keep{h':T O}{N':Nat}(s:Cp h N v l)(k:Keeps h N h' N'):Cp h' N' v l:=by
 obtain⟨j,c,h1,h2,h3,h4⟩:=s
 exact⟨j,c,h1,Nat.lt_of_lt_of_le h2 k.le,(k.get j h2).trans h3,h4⟩
theorem Cp.sl(s:Cp h N v l):Sl h N v l:=by
 obtain⟨j,c,h1,h2,h3,h4⟩:=s
 rw[h1];exact Sl.row h2 h3 rfl h4
theorem Ylt{w:List Nat}(s:Sl h N v l):Za0 ⟨h,N,w⟩ 1 v=some (l.length,l):=by
 rcases s with⟨rfl,rfl|rfl⟩|⟨i,o,cp,c,e,rw,rfl,h2,h3,h4,h5,h6⟩
 ·rfl
 ·rfl
 ·simp only[Za0,if_true,St.row,h3,Nat.mul_one]
  have:slc c o l.length=some l:=by
   unfold slc
   rw[if_pos h5]
   congr 1
   apply List.ext_getElem?
   intro j
   rw[List.getElem?_take]
   by_cases hj:j<l.length
   ·rw[if_pos hj,List.getElem?_drop];exact h4 j hj
   ·rw[if_neg hj,List.getElem?_eq_none (by omega)]
  rw[this]
def PgA(h:T O)(N0 N:Nat)(u:V)(g:List Stg)(k:Nat):Prop:=∃l:List (List V),Own 5 126 N0 h N u l∧l.length=k∧∀(j:Nat) (s:Stg),j<k→g[j]?=some s→∃inp,l[j]?=some (Ylg s inp)∧Cp h N inp (strs s.inputs)
theorem PgA.keep{h':T O}{N0 N':Nat}{g:List Stg}{k:Nat}(s:PgA h N0 N u g k)(kk:Keeps h N h' N'):PgA h' N0 N' u g k:=by
 obtain⟨l,h1,h2,h3⟩:=s
 refine⟨l,h1.keep kk,h2,fun j s hj hs=>?_⟩
 obtain⟨inp,h4,h5⟩:=h3 j s hj hs
 exact⟨inp,h4,h5.keep kk⟩
theorem PgA.gr{N0:Nat}{g:List Stg}(s:PgA h N0 N u g g.length):Gr h N u g:=by
 obtain⟨l,h1,h2,h3⟩:=s
 refine⟨l,h1.sn,h2,fun j s hs=>?_⟩
 obtain⟨inp,h4,h5⟩:=h3 j s (Zbj hs) hs
 exact⟨inp,h4,h5.sl⟩
theorem PgA.step{N0:Nat}{x inp:V}{g:List Stg}{k:Nat}{s:Stg}{w:List Nat}(p:PgA h N0 N u g k)(hN:N0≤N)(hs:g[k]?=some s)(hi:Cp h N inp (strs s.inputs))(hu:Za0 ⟨h,N,w⟩ 5 x=some (1,Ylg s inp))(hk:k<1000):
  ∃v' h' w',Zcd ⟨h,N,w⟩ 5 80 126 u x=some (v',⟨h',N+1,w'⟩)∧Zaa N0 w'=Zaa N0 w∧Keeps h N0 h' (N+1)∧PgA h' N0 (N+1) v' g (k+1):=by
 obtain⟨l,h1,h2,h3⟩:=p
 obtain⟨v',h',w',e1,e2,e3,e4,e5⟩:=Zbh (x:=Ylg s inp) (u:=x) (bytes:=80) (w:=w) h1 hN (by decide) rfl hu (by omega)
 have hcp:∀{i:V} {m:List V},Cp h N i m→Cp h' (N+1) i m:=by
  rintro i m ⟨j,c,q1,q2,q3,q4⟩
  refine⟨j,c,q1,by omega,?_,q4⟩
  rcases e4 j with e|e|⟨o,n,c',q,e⟩
  ·rw[e];exact q3
  ·omega
  ·obtain⟨_,⟨_,hn⟩|⟨i',hv,_,_,hrow⟩⟩:=h1
   ·rw[e]at hn;cases hn
   ·rw[e]at hv
    simp only[V.slice.injEq]at hv
    rw[←hv.1,q3]at hrow
    simp at hrow
 refine⟨v',h',w',e1,e2,e3,l++[Ylg s inp],e5,by simp[h2],fun j t hj ht=>?_⟩
 by_cases hjk:j<k
 ·obtain⟨i,q1,q2⟩:=h3 j t hjk ht
  exact⟨i,by rw[List.getElem?_append_left (by omega)];exact q1,hcp q2⟩
 ·have:j=k:=by omega
  subst this
  obtain rfl:=Option.some.inj (hs.symm.trans ht)
  exact⟨inp,by rw[List.getElem?_append_right (by omega)];simp[h2],hcp hi⟩
end Go.Mx
namespace Go.Mx
open Go
theorem Sl.setInt{h:T O}{N:Nat}{v:V}{l:List Int}{i:Nat}{c0 c1:List V}{e0 e1:TypeId}{w0 w1:Bool}(s:Sl h N v (dI l))(hr:h.get i=some (.cells c0 e0 w0))(hn:∀x∈c0,∀k n,x≠.int k n)(hc:c1.length=c0.length):Sl (h.set i (.cells c1 e1 w1)) N v (dI l):=by
 rcases s with s|⟨j,o,cp,c,e,rw,h1,h2,h3,h4,h5,h6⟩
 ·exact .inl s
 ·by_cases hj:j=i
  ·subst hj
   rw[hr]at h3
   simp only[Option.some.injEq,O.cells.injEq]at h3
   obtain⟨rfl,rfl,rfl⟩:=h3
   cases l with
   |nil=>exact .inr ⟨j,o,cp,c1,e1,w1,h1,h2,by rw[T.get_set];simp,fun k hk=>by simp[dI]at hk,by rw[hc];exact h5,h6⟩
   |cons d l=>
    have:=h4 0 (by simp[dI])
    simp only[dI,List.map_cons,List.getElem?_cons_zero]at this
    exact absurd rfl (hn _ (List.mem_of_getElem? this) .i64 d)
  ·exact .inr ⟨j,o,cp,c,e,rw,h1,h2,by rw[T.get_set,if_neg hj];exact h3,h4,h5,h6⟩
end Go.Mx
