/-
  What is to be computed, in plain terms: names, numbers as strings, graphs of stages.
-/
import Derived.Test.YtppobccilnifoaaGreatDoorMxWord
set_option linter.all false
namespace Go.Mx
open Go
abbrev Str:=List UInt8
def digC(c:UInt8):Bool:=decide (48≤c.toNat∧c.toNat≤57)
def isDec:Str→Bool
 |[]=>false
 |c::s=>(c::s).all digC&&(decide (c.toNat≠48)||decide (s=[]))
def slashAt:Str→Nat
 |[]=>0
 |c::s=>if c.toNat=47 then 0 else slashAt s+1
def numV(s:Str):Nat:=s.foldl (fun n c=>10*n+(c.toNat-48)) 0
def negS:Str→Bool
 |[]=>false
 |c::_=>decide (c.toNat=45)
def bodyS(s:Str):Str:=if negS s then s.drop 1 else s
def formS(neg:Bool)(p:Str)(broken:Bool)(d:Str):Bool:=isDec p&&!(neg&&decide (p=[48]))&&(!broken||(isDec d&&decide (d≠[48])&&decide (d≠[49])))
def chkP(neg:Bool)(p:Str)(broken:Bool)(d:Str):Nat:=
 if formS neg p broken d=false then 1 else if 600<p.length∨600<d.length then 4 else if broken=true∧Nat.gcd (numV p) (numV d)≠1 then 1 else 0
def chkB(neg:Bool)(t:Str):Nat:=chkP neg (t.take (slashAt t)) (decide (slashAt t<t.length)) (t.drop (slashAt t+1))
def chkNum(s:Str):Nat:=chkB (negS s) (bodyS s)
theorem slashAt_le:∀(s:Str),slashAt s≤s.length
 |[]=>Nat.le_refl _
 |c::s=>by
  have:=slashAt_le s
  simp only[slashAt,List.length_cons]
  split<;>omega
structure Stg where
 name:Str
 op:Str
 factor:Str
 inputs:List Str
 cost:Int
def pos:List Stg→Str→Nat
 |[],_=>0
 |s::g,n=>if s.name=n then 0 else pos g n+1
structure Opn where
 factor:Bool
 lo:Nat
 hi:Nat
end Go.Mx
namespace Go.Mx
open Go
def runeI(s:Str)(p:Nat):Int:=(Utf8.decode ⟨s.toArray⟩ p).1
def runeW(s:Str)(p:Nat):Nat:=(Utf8.decode ⟨s.toArray⟩ p).2
def nextK2(i:Nat)(st:St):Option (Str×Nat)→Option (V×St)
 |some (s,p)=>if p<s.length then some (.tup [.bool true,.int .i64 p,.int .i32 (Utf8.decode ⟨s.toArray⟩ p).1],st.write i (.siter s (p+(Utf8.decode ⟨s.toArray⟩ p).2))) else some (.tup [.bool false],st)
 |none=>none
def siterO:Option O→Option (Str×Nat)
 |some (.siter s p)=>some (s,p)
 |_=>none
def nextK(st:St):Option V→Option (V×St)
 |some (.ptr i 0)=>nextK2 i st (siterO (st.h.get i))
 |_=>none
theorem op_nextStr_K{x:Src}{call:CallT}{r:T V}{st:St}:op_nextStr x call r st=nextK st (x.ev r):=by
 unfold op_nextStr nextK
 rcases x.ev r with _|v
 ·rfl
 ·cases v<;>try rfl
  rename_i i o
  cases o with
  |zero=>
   simp only[siterO,nextK2]
   rcases st.h.get i with _|o
   ·rfl
   ·cases o<;>rfl
  |succ=>rfl
theorem nextK_some{st:St}{i:Nat}:nextK st (some (.ptr i 0))=nextK2 i st (siterO (st.h.get i)):=rfl
theorem siterO_some{s:Str}{p:Nat}:siterO (some (.siter s p))=some (s,p):=rfl
theorem nextK2_in{i:Nat}{st:St}{s:Str}{p:Nat}(h:p<s.length):nextK2 i st (some (s,p))=some (.tup [.bool true,.int .i64 p,.int .i32 (runeI s p)],st.write i (.siter s (p+runeW s p))):=by simp[nextK2,h,runeI,runeW]
theorem nextK2_end{i:Nat}{st:St}{s:Str}:nextK2 i st (some (s,s.length))=some (.tup [.bool false],st):=by simp[nextK2]
def sliceSK(st:St):Option V→Option (Option V)→Option (Option V)→Option (V×St)
 |some (.str s),some lo,some hi=>match boundO hi s.length s.length with
   |some h=>match boundO lo h 0 with
    |some l=>some (.str ((s.take h).drop l),st)
    |none=>none
   |none=>none
 |_,_,_=>none
theorem op_sliceStr_K{x:Src}{lo hi:Option Src}{call:CallT}{r:T V}{st:St}:op_sliceStr x lo hi call r st=sliceSK st (x.ev r) (evOpt r lo) (evOpt r hi):=by
 unfold op_sliceStr sliceSK;rfl
theorem sliceSK_lo{st:St}{s:Str}{k:IntKind}{j:Int}(h0:0≤j)(h1:j≤s.length):sliceSK st (some (.str s)) (some (some (.int k j))) (some none)=some (.str (s.drop j.toNat),st):=by
 simp[sliceSK,boundO,bound,h0,h1]
theorem sliceSK_hi{st:St}{s:Str}{k:IntKind}{j:Int}(h0:0≤j)(h1:j≤s.length):sliceSK st (some (.str s)) (some none) (some (some (.int k j)))=some (.str (s.take j.toNat),st):=by
 simp[sliceSK,boundO,bound,h0,h1]
theorem sliceSK_lh{st:St}{s:Str}{k k':IntKind}{i j:Int}(h0:0≤i)(h1:i≤j)(h2:j≤s.length):sliceSK st (some (.str s)) (some (some (.int k i))) (some (some (.int k' j)))=some (.str ((s.take j.toNat).drop i.toNat),st):=by
 have h3:0≤j:=by omega
 have h4:max j 0=j:=by omega
 simp[sliceSK,boundO,bound,h0,h1,h2,h3,h4]
def bytesV(s:Str):List V:=s.map fun b=>.int .u8 (u8I b)
theorem bytesV_len(s:Str):(bytesV s).length=s.length:=by simp[bytesV]
theorem bytesV_get{s:Str}{k:Nat}{c:UInt8}(h:s[k]?=some c):(bytesV s)[k]?=some (.int .u8 (u8I c)):=by simp[bytesV,h]
def sbK(elem:TypeId)(st:St):Option V→Option (V×St)
 |some (.str s)=>some (.slice st.n 0 s.length none 1,st.alloc (.cells (bytesV s) elem true))
 |_=>none
theorem op_strBytes_K{elem:TypeId}{x:Src}{call:CallT}{r:T V}{st:St}:op_strBytes elem x call r st=sbK elem st (x.ev r):=by
 unfold op_strBytes sbK;rfl
theorem sbK_some{elem:TypeId}{st:St}{s:Str}:sbK elem st (some (.str s))=some (.slice st.n 0 s.length none 1,st.alloc (.cells (bytesV s) elem true)):=rfl
attribute [simp] op_strBytes_K sbK_some bytesV_len op_nextStr_K nextK_some siterO_some nextK2_in nextK2_end op_sliceStr_K sliceSK_lo sliceSK_hi sliceSK_lh op_rangeStr
theorem idxByte_slash:∀(s:Str) (i:Nat),idxByte 47 s i=if slashAt s<s.length then ((i+slashAt s:Nat):Int) else -1
 |[],i=>rfl
 |c::s,i=>by
  simp only[idxByte,slashAt]
  have e:(c==47)=decide (c.toNat=47):=by
   rw[Bool.eq_iff_iff]
   simp only[beq_iff_eq,decide_eq_true_eq]
   exact⟨fun h=>by rw[h];rfl,fun h=>UInt8.toNat_inj.1 h⟩
  rw[e]
  by_cases h:c.toNat=47
  ·simp[h]
  ·simp only[h,decide_false,if_false,Bool.false_eq_true,idxByte_slash s (i+1),List.length_cons]
   by_cases h2:slashAt s<s.length
   ·rw[if_pos h2,if_pos (by omega)];omega
   ·rw[if_neg h2,if_neg (by omega)]
end Go.Mx
namespace Go.Mx
end Go.Mx
namespace Go.Mx
open Go
def vI:List Int→Int
 |[]=>0
 |d::l=>d+1000000000*vI l
def pI(k:Nat):Int:=1000000000^k
theorem pI_succ(k:Nat):pI (k+1)=1000000000*pI k:=by unfold pI;rw[Int.pow_succ,Int.mul_comm]
theorem pI_zero:pI 0=1:=rfl
theorem pI_pos(k:Nat):0<pI k:=by unfold pI;exact Int.pow_pos (by decide)
theorem pI_add(i j:Nat):pI (i+j)=pI i*pI j:=by unfold pI;exact Int.pow_add ..
theorem vI_append:∀(l m:List Int),vI (l++m)=vI l+pI l.length*vI m
 |[],m=>by simp[vI,pI]
 |d::l,m=>by
  simp only[List.cons_append,vI,vI_append l m,List.length_cons,pI_succ]
  grind
theorem vI_snoc(l:List Int)(d:Int):vI (l++[d])=vI l+pI l.length*d:=by simp[vI_append,vI]
theorem vI_zeros(n:Nat):vI (List.replicate n 0)=0:=by
 induction n with
 |zero=>rfl
 |succ n ih=>simp[List.replicate_succ,vI,ih]
theorem lt_of_get{α:Type}{l:List α}{k:Nat}{d:α}(h:l[k]?=some d):k<l.length:=by
 apply Nat.lt_of_not_le;intro hc;rw[List.getElem?_eq_none hc]at h;cases h
theorem vI_take_succ{l:List Int}{k:Nat}{d:Int}(h:l[k]?=some d):vI (l.take (k+1))=vI (l.take k)+pI k*d:=by
 have hk:=lt_of_get h
 rw[List.take_add_one,h]
 simp only[Option.toList]
 rw[vI_snoc,List.length_take,Nat.min_eq_left (by omega)]
theorem vI_split(l:List Int)(k:Nat)(hk:k≤l.length):vI l=vI (l.take k)+pI k*vI (l.drop k):=by
 have:=vI_append (l.take k) (l.drop k)
 rw[List.take_append_drop,List.length_take,Nat.min_eq_left hk]at this
 exact this
theorem vI_set:∀{l:List Int} {k:Nat} {c:Int},l[k]?=some c→∀(v:Int),vI (l.set k v)=vI l+pI k*(v-c)
 |[],k,c,h,v=>by simp at h
 |d::l,0,c,h,v=>by
  simp at h;subst h
  simp only[List.set_cons_zero,vI,pI_zero];omega
 |d::l,k+1,c,h,v=>by
  have:=vI_set (l:=l) (k:=k) (c:=c) (by simpa using h) v
  simp only[List.set_cons_succ,vI,this,pI_succ]
  grind
def Di(l:List Int):Prop:=∀d∈l,0≤d∧d<1000000000
theorem Di.get{l:List Int}(h:Di l){k:Nat}{d:Int}(hd:l[k]?=some d):0≤d∧d<1000000000:=h d (List.mem_of_getElem? hd)
theorem Di.set{l:List Int}(h:Di l){k:Nat}{v:Int}(h0:0≤v)(h1:v<1000000000):Di (l.set k v):=fun d hd=>by
 rcases List.mem_or_eq_of_mem_set hd with hd|rfl
 ·exact h d hd
 ·exact⟨h0,h1⟩
theorem Di.app{l m:List Int}(h:Di l)(h':Di m):Di (l++m):=fun d hd=>by
 rcases List.mem_append.1 hd with hd|hd
 ·exact h d hd
 ·exact h' d hd
theorem Di.one{v:Int}(h0:0≤v)(h1:v<1000000000):Di [v]:=fun d hd=>by simp at hd;subst hd;exact⟨h0,h1⟩
theorem Di.nil:Di []:=fun d hd=>by simp at hd
theorem Di.zeros(n:Nat):Di (List.replicate n 0):=fun d hd=>by rw[List.mem_replicate]at hd;rw[hd.2];decide
theorem Di.take{l:List Int}(h:Di l)(k:Nat):Di (l.take k):=fun d hd=>h d (List.mem_of_mem_take hd)
theorem Di.drop{l:List Int}(h:Di l)(k:Nat):Di (l.drop k):=fun d hd=>h d (List.mem_of_mem_drop hd)
theorem vI_nn:∀{l:List Int},Di l→0≤vI l
 |[],_=>Int.le_refl _
 |d::l,h=>by
  have h1:=h d List.mem_cons_self
  have h2:=vI_nn (l:=l) fun e he=>h e (List.mem_cons_of_mem _ he)
  simp only[vI];omega
theorem vI_lt:∀{l:List Int},Di l→vI l<pI l.length
 |[],_=>by decide
 |d::l,h=>by
  have h1:=h d List.mem_cons_self
  have h2:=vI_lt (l:=l) fun e he=>h e (List.mem_cons_of_mem _ he)
  simp only[vI,List.length_cons,pI_succ];omega
theorem get_drop_cons{α:Type}{l:List α}{k:Nat}{d:α}(h:l[k]?=some d):l.drop k=d::l.drop (k+1):=by
 obtain⟨hk,hs⟩:=List.getElem?_eq_some_iff.1 h
 rw[←hs];exact List.drop_eq_getElem_cons hk
def dI(l:List Int):List V:=l.map fun n=>.int .i64 n
theorem dI_length(l:List Int):(dI l).length=l.length:=by simp[dI]
theorem dI_get{l:List Int}{j:Nat}{n:Int}(h:l[j]?=some n):(dI l)[j]?=some (.int .i64 n):=by simp[dI,h]
attribute [simp] dI_length
theorem dI_set{l:List Int}{k:Nat}{v:Int}(h:k<l.length):splice (dI l) k [.int .i64 v]=dI (l.set k v):=by
 unfold splice dI
 apply List.ext_getElem?
 intro j
 simp only[List.length_singleton,List.getElem?_map,List.getElem?_set]
 rw[List.append_assoc,List.getElem?_append,List.length_take,List.length_map]
 by_cases h1:j<k
 ·rw[if_pos (by omega),List.getElem?_take,if_pos h1,List.getElem?_map,if_neg (by omega)]
 ·rw[if_neg (by omega)]
  by_cases h2:j=k
  ·subst h2
   rw[show j-min j l.length=0 by omega,if_pos rfl,if_pos h];rfl
  ·rw[show j-min k l.length=(j-k-1)+1 by omega,if_neg (by omega)]
   simp only[List.singleton_append,List.getElem?_cons_succ,List.getElem?_drop,List.getElem?_map]
   rw[show k+1+(j-k-1)=j by omega]
theorem dI_zeros{n:Nat}:zrep [.int .i64 0] n=dI (List.replicate n 0):=by rw[zrep_1];simp[dI]
def trimI:List Int→List Int
 |[]=>[]
 |d::l=>match trimI l with
  |[]=>if d=0 then [] else [d]
  |t=>d::t
theorem trimI_zero:∀(l:List Int),trimI (l++[0])=trimI l
 |[]=>rfl
 |d::l=>by simp only[List.cons_append,trimI,trimI_zero l]
theorem trimI_last{d:Int}(hd:d≠0):∀(l:List Int),trimI (l++[d])=l++[d]
 |[]=>by simp[trimI,hd]
 |e::l=>by
  simp only[List.cons_append,trimI,trimI_last hd l]
  cases l<;>rfl
theorem trimI_len:∀(l:List Int),(trimI l).length≤l.length
 |[]=>Nat.le_refl _
 |d::l=>by
  have ih:=trimI_len l
  simp only[trimI]
  split
  ·split<;>simp
  ·simp only[List.length_cons];omega
def ds(n:Nat):List Int:=if h:n=0 then [] else ((n%1000000000:Nat):Int)::ds (n/1000000000)
termination_by n
decreasing_by exact Nat.div_lt_self (by omega) (by decide)
theorem ds_zero:ds 0=[]:=by rw[ds];simp
theorem ds_pos{n:Nat}(h:n≠0):ds n=((n%1000000000:Nat):Int)::ds (n/1000000000):=by rw[ds];simp[h]
theorem ds_val:∀(n:Nat),vI (ds n)=n:=by
 intro n
 induction n using Nat.strongRecOn with
 |_ n ih=>
  by_cases h:n=0
  ·subst h;rw[ds_zero];rfl
  ·rw[ds_pos h]
   simp only[vI]
   rw[ih (n/1000000000) (Nat.div_lt_self (by omega) (by decide))]
   omega
theorem ds_di(n:Nat):Di (ds n):=by
 induction n using Nat.strongRecOn with
 |_ n ih=>
  by_cases h:n=0
  ·subst h;rw[ds_zero];exact Di.nil
  ·rw[ds_pos h]
   intro d hd
   rcases List.mem_cons.1 hd with rfl|hd
   ·omega
   ·exact ih (n/1000000000) (Nat.div_lt_self (by omega) (by decide)) d hd
theorem trimI_ds:∀{l:List Int},Di l→trimI l=ds (vI l).toNat
 |[],_=>by simp[trimI,vI,ds_zero]
 |d::l,h=>by
  have hl:Di l:=fun e he=>h e (List.mem_cons_of_mem _ he)
  have ih:=trimI_ds hl
  have hd:=h d List.mem_cons_self
  have hn:=vI_nn hl
  simp only[trimI,vI,ih]
  by_cases h0:vI l=0
  ·rw[h0]
   simp only[Int.toNat_zero,ds_zero,Int.mul_zero,Int.add_zero]
   by_cases hd0:d=0
   ·simp[hd0,ds_zero]
   ·rw[ds_pos (by omega),Nat.mod_eq_of_lt (by omega),Nat.div_eq_of_lt (by omega),ds_zero];simp[hd0];omega
  ·have h3:(d+1000000000*vI l).toNat≠0:=by omega
   rw[ds_pos h3]
   have h1:(d+1000000000*vI l).toNat/1000000000=(vI l).toNat:=by omega
   have h2:(((d+1000000000*vI l).toNat%1000000000:Nat):Int)=d:=by omega
   rw[h1,h2]
   split
   ·rename_i hc;rw[ds_pos (by omega)]at hc;cases hc
   ·rfl
theorem trimI_eq{l:List Int}(h:Di l){n:Nat}(hn:vI l=n):trimI l=ds n:=by rw[trimI_ds h,hn];rfl
theorem ds_trim(n:Nat):trimI (ds n)=ds n:=trimI_eq (ds_di n) (ds_val n)
theorem ds_eq_nil{n:Nat}:ds n=[]↔n=0:=by
 constructor
 ·intro h
  by_cases h0:n=0
  ·exact h0
  ·rw[ds_pos h0]at h;cases h
 ·intro h;rw[h,ds_zero]
theorem ds_last{n:Nat}(h:n≠0):∃d,(ds n)[(ds n).length-1]?=some d∧0<d:=by
 have hne:ds n≠[]:=fun hc=>h (ds_eq_nil.1 hc)
 obtain⟨l,d,hd⟩:∃l d,ds n=l++[d]:=⟨(ds n).dropLast,(ds n).getLast hne,(List.dropLast_concat_getLast hne).symm⟩
 refine⟨d,by rw[hd,List.length_append,List.length_singleton];simp,?_⟩
 have h1:=ds_di n d (by rw[hd];exact List.mem_append_right _ List.mem_cons_self)
 have:d≠0:=fun h0=>by
  have h2:=ds_trim n
  rw[hd,h0,trimI_zero]at h2
  have:=trimI_len l
  rw[h2]at this;simp at this;omega
 omega
theorem ds_len_lt{n k:Nat}(h:n<1000000000^k):(ds n).length≤k:=by
 induction k generalizing n with
 |zero=>
  have:n=0:=by simpa using h
  rw[this,ds_zero];simp
 |succ k ih=>
  by_cases h0:n=0
  ·rw[h0,ds_zero];simp
  ·rw[ds_pos h0]
   have:=ih (n:=n/1000000000) ((Nat.div_lt_iff_lt_mul (by decide)).2 (by rw[←Nat.pow_succ];exact h))
   simp only[List.length_cons];omega
def Dn(h:T O)(N:Nat)(v:V)(n:Nat):Prop:=Sl h N v (dI (ds n))
theorem Dn.keep{h h':T O}{N N':Nat}{v:V}{n:Nat}(s:Dn h N v n)(k:Keeps h N h' N'):Dn h' N' v n:=Sl.keep s k
end Go.Mx
namespace Go.Mx
open Go
theorem kI_exit{P u1 u2 U' v1 v2 V' t r:Int}(hP:0<P)(hU':0≤U')(hu2:0≤u2)(hu1:0≤u1)(hv1:0<v1)(hv2:0≤v2)(hV0:0≤V')(hV':V'<P)(h0:0≤t)(ht:t≤1000000000)(hinv:u1=t*v1+r)(hc:t*v2≤r*1000000000+u2):
  (t-1)*(V'+P*(v2+1000000000*v1))≤U'+P*(u2+1000000000*u1):=by
 by_cases ht0:t=0
 ·subst ht0
  have h1:0≤P*(v2+1000000000*v1):=Int.mul_nonneg (by omega) (by omega)
  have h2:0≤P*(u2+1000000000*u1):=Int.mul_nonneg (by omega) (by omega)
  omega
 ·have h1:(t-1)*V'≤1000000000*P:=by
   have:(t-1)*V'≤1000000000*V':=Int.mul_le_mul_of_nonneg_right (by omega) hV0
   omega
  have h2:P*1≤P*v1:=Int.mul_le_mul_of_nonneg_left (by omega) (by omega)
  have h3:P*(t*v2)≤P*(r*1000000000+u2):=Int.mul_le_mul_of_nonneg_left hc (by omega)
  have h4:0≤P*v2:=Int.mul_nonneg (by omega) hv2
  have h5:(t-1)*(V'+P*(v2+1000000000*v1))=(t-1)*V'+P*(t*v2)-P*v2+1000000000*(P*(t*v1))-1000000000*(P*v1):=by grind
  have h6:U'+P*(u2+1000000000*u1)=U'+P*(r*1000000000+u2)+1000000000*(P*(t*v1)):=by subst hinv;grind
  omega
theorem kI_step{P u1 u2 U' v1 v2 V' t r:Int}(hP:0<P)(hU':U'<P)(hV0:0≤V')(h0:0≤t)(hinv:u1=t*v1+r)(hc:r*1000000000+u2<t*v2):
  U'+P*(u2+1000000000*u1)<t*(V'+P*(v2+1000000000*v1)):=by
 have h1:0≤t*V':=Int.mul_nonneg h0 hV0
 have h3:P*(r*1000000000+u2+1)≤P*(t*v2):=Int.mul_le_mul_of_nonneg_left (by omega) (by omega)
 have h5:t*(V'+P*(v2+1000000000*v1))=t*V'+P*(t*v2)+1000000000*(P*(t*v1)):=by grind
 have h6:U'+P*(u2+1000000000*u1)=U'+P*(r*1000000000+u2+1)-P+1000000000*(P*(t*v1)):=by subst hinv;grind
 omega
theorem norm_half{x:Int}(h1:1≤x)(h2:x<1000000000):500000000≤x*(1000000000/(x+1)):=by
 have hd:(x+1)*(1000000000/(x+1))+1000000000%(x+1)=1000000000:=Int.mul_ediv_add_emod ..
 have hr:1000000000%(x+1)<x+1:=Int.emod_lt_of_pos _ (by omega)
 have hr0:0≤1000000000%(x+1):=Int.emod_nonneg _ (by omega)
 generalize 1000000000/(x+1)=d at*
 generalize 1000000000%(x+1)=r at*
 have e:(x+1)*d=x*d+d:=by grind
 apply Int.le_of_not_gt
 intro hc
 by_cases hx:x≤500000000
 ·have h3:500000000-x+1≤d:=by omega
  have h4:x*(500000000-x+1)≤x*d:=Int.mul_le_mul_of_nonneg_left h3 (by omega)
  have h5:0≤(x-1)*(500000000-x):=Int.mul_nonneg (by omega) (by omega)
  have h6:(x-1)*(500000000-x)=x*(500000000-x+1)-500000000:=by grind
  omega
 ·have h3:1≤d:=by
   apply Int.le_of_not_gt;intro h
   have:d≤0:=by omega
   have:(x+1)*d≤0:=Int.mul_nonpos_of_nonneg_of_nonpos (by omega) this
   omega
  have h4:x*1≤x*d:=Int.mul_le_mul_of_nonneg_left h3 (by omega)
  omega
theorem vI_take_zero{w:List Int}{m:Nat}(h:∀t,m≤t→t<w.length→w[t]?=some 0):vI w=vI (w.take m):=by
 by_cases hm:m≤w.length
 ·have h1:=vI_split w m hm
  have h2:w.drop m=List.replicate (w.length-m) 0:=by
   apply List.ext_getElem?
   intro t
   rw[List.getElem?_drop,List.getElem?_replicate]
   by_cases ht:t<w.length-m
   ·rw[if_pos ht];exact h _ (by omega) (by omega)
   ·rw[if_neg ht];exact List.getElem?_eq_none (by omega)
  rw[h2,vI_zeros]at h1
  omega
 ·rw[List.take_of_length_le (by omega)]
theorem vI_top3{w:List Int}{k:Nat}{a c d:Int}(ha:w[k]?=some a)(hc:w[k+1]?=some c)(hd:w[k+2]?=some d)(hz:∀t,k+3≤t→t<w.length→w[t]?=some 0):
  vI w=vI (w.take k)+pI k*(a+1000000000*(d*1000000000+c)):=by
 rw[vI_take_zero hz,show k+3=(k+2)+1 by omega,vI_take_succ hd,vI_take_succ hc,vI_take_succ ha,pI_succ (k+1),pI_succ k]
 grind
theorem vI_top2{w:List Int}{k:Nat}{a c:Int}(ha:w[k]?=some a)(hc:w[k+1]?=some c)(hl:w.length=k+2):
  vI w=vI (w.take k)+pI k*(a+1000000000*c):=by
 have h1:vI w=vI (w.take (k+1+1)):=by rw[List.take_of_length_le (by omega)]
 rw[h1,vI_take_succ hc,vI_take_succ ha,pI_succ k]
 grind
theorem top_zero{w:List Int}{n:Nat}{t:Int}(hd:Di (w.take n))(ht:w[n]?=some t)(hz:∀j,n<j→j<w.length→w[j]?=some 0)(h1:vI w<pI n):(0≤vI w→t=0)∧(vI w<0→t<0):=by
 have hl:=lt_of_get ht
 have h2:vI w=vI (w.take n)+pI n*t:=by
  rw[vI_take_zero (m:=n+1) (fun j h1 h2=>hz j (by omega) h2),vI_take_succ ht]
 have h3:=vI_nn hd
 have h4:=vI_lt hd
 rw[List.length_take,Nat.min_eq_left (by omega)]at h4
 have h5:=pI_pos n
 constructor
 ·intro h
  have h6:¬t≤ -1:=fun hc=>by
   have:=Int.mul_le_mul_of_nonneg_left hc (Int.le_of_lt h5)
   omega
  have h7:¬1≤t:=fun hc=>by
   have:=Int.mul_le_mul_of_nonneg_left hc (Int.le_of_lt h5)
   omega
  omega
 ·intro h
  apply Int.lt_of_not_ge
  intro hc
  have:=Int.mul_nonneg (Int.le_of_lt h5) hc
  omega
end Go.Mx
namespace Go.Mx
open Go
theorem nne1{N:Nat}:(N=N+1)=False:=eq_false (by omega)
theorem nnf1{N:Nat}:(N+1=N)=False:=eq_false (by omega)
theorem nlt1{N:Nat}:(N+1<N)=False:=eq_false (by omega)
theorem nne2{N:Nat}:(N=N+1+1)=False:=eq_false (by omega)
theorem nnf2{N:Nat}:(N+1+1=N)=False:=eq_false (by omega)
theorem nlt2{N:Nat}:(N+1+1<N)=False:=eq_false (by omega)
theorem nne3{N:Nat}:(N=N+1+1+1)=False:=eq_false (by omega)
theorem nnf3{N:Nat}:(N+1+1+1=N)=False:=eq_false (by omega)
theorem nlt3{N:Nat}:(N+1+1+1<N)=False:=eq_false (by omega)
theorem nne4{N:Nat}:(N=N+1+1+1+1)=False:=eq_false (by omega)
theorem nnf4{N:Nat}:(N+1+1+1+1=N)=False:=eq_false (by omega)
theorem nlt4{N:Nat}:(N+1+1+1+1<N)=False:=eq_false (by omega)
theorem nne5{N:Nat}:(N=N+1+1+1+1+1)=False:=eq_false (by omega)
theorem nnf5{N:Nat}:(N+1+1+1+1+1=N)=False:=eq_false (by omega)
theorem nlt5{N:Nat}:(N+1+1+1+1+1<N)=False:=eq_false (by omega)
theorem nne6{N:Nat}:(N=N+1+1+1+1+1+1)=False:=eq_false (by omega)
theorem nnf6{N:Nat}:(N+1+1+1+1+1+1=N)=False:=eq_false (by omega)
theorem nlt6{N:Nat}:(N+1+1+1+1+1+1<N)=False:=eq_false (by omega)
theorem nne7{N:Nat}:(N=N+1+1+1+1+1+1+1)=False:=eq_false (by omega)
theorem nnf7{N:Nat}:(N+1+1+1+1+1+1+1=N)=False:=eq_false (by omega)
theorem nlt7{N:Nat}:(N+1+1+1+1+1+1+1<N)=False:=eq_false (by omega)
theorem nne8{N:Nat}:(N=N+1+1+1+1+1+1+1+1)=False:=eq_false (by omega)
theorem nnf8{N:Nat}:(N+1+1+1+1+1+1+1+1=N)=False:=eq_false (by omega)
theorem nlt8{N:Nat}:(N+1+1+1+1+1+1+1+1<N)=False:=eq_false (by omega)
theorem nne9{N:Nat}:(N=N+1+1+1+1+1+1+1+1+1)=False:=eq_false (by omega)
theorem nnf9{N:Nat}:(N+1+1+1+1+1+1+1+1+1=N)=False:=eq_false (by omega)
theorem nlt9{N:Nat}:(N+1+1+1+1+1+1+1+1+1<N)=False:=eq_false (by omega)
theorem nne10{N:Nat}:(N=N+1+1+1+1+1+1+1+1+1+1)=False:=eq_false (by omega)
theorem nnf10{N:Nat}:(N+1+1+1+1+1+1+1+1+1+1=N)=False:=eq_false (by omega)
theorem nlt10{N:Nat}:(N+1+1+1+1+1+1+1+1+1+1<N)=False:=eq_false (by omega)
theorem nne11{N:Nat}:(N=N+1+1+1+1+1+1+1+1+1+1+1)=False:=eq_false (by omega)
theorem nnf11{N:Nat}:(N+1+1+1+1+1+1+1+1+1+1+1=N)=False:=eq_false (by omega)
theorem nlt11{N:Nat}:(N+1+1+1+1+1+1+1+1+1+1+1<N)=False:=eq_false (by omega)
theorem nne12{N:Nat}:(N=N+1+1+1+1+1+1+1+1+1+1+1+1)=False:=eq_false (by omega)
theorem nnf12{N:Nat}:(N+1+1+1+1+1+1+1+1+1+1+1+1=N)=False:=eq_false (by omega)
theorem nlt12{N:Nat}:(N+1+1+1+1+1+1+1+1+1+1+1+1<N)=False:=eq_false (by omega)
theorem nne13{N:Nat}:(N=N+1+1+1+1+1+1+1+1+1+1+1+1+1)=False:=eq_false (by omega)
theorem nnf13{N:Nat}:(N+1+1+1+1+1+1+1+1+1+1+1+1+1=N)=False:=eq_false (by omega)
theorem nlt13{N:Nat}:(N+1+1+1+1+1+1+1+1+1+1+1+1+1<N)=False:=eq_false (by omega)
theorem nne14{N:Nat}:(N=N+1+1+1+1+1+1+1+1+1+1+1+1+1+1)=False:=eq_false (by omega)
theorem nnf14{N:Nat}:(N+1+1+1+1+1+1+1+1+1+1+1+1+1+1=N)=False:=eq_false (by omega)
theorem nlt14{N:Nat}:(N+1+1+1+1+1+1+1+1+1+1+1+1+1+1<N)=False:=eq_false (by omega)
theorem nne15{N:Nat}:(N=N+1+1+1+1+1+1+1+1+1+1+1+1+1+1+1)=False:=eq_false (by omega)
theorem nnf15{N:Nat}:(N+1+1+1+1+1+1+1+1+1+1+1+1+1+1+1=N)=False:=eq_false (by omega)
theorem nlt15{N:Nat}:(N+1+1+1+1+1+1+1+1+1+1+1+1+1+1+1<N)=False:=eq_false (by omega)
attribute [simp] nne1 nnf1 nlt1 nne2 nnf2 nlt2 nne3 nnf3 nlt3 nne4 nnf4 nlt4 nne5 nnf5 nlt5 nne6 nnf6 nlt6 nne7 nnf7 nlt7 nne8 nnf8 nlt8 nne9 nnf9 nlt9 nne10 nnf10 nlt10 nne11 nnf11 nlt11 nne12 nnf12 nlt12 nne13 nnf13 nlt13 nne14 nnf14 nlt14 nne15 nnf15 nlt15
theorem nlu1{N:Nat}:(N<N+1)=True:=eq_true (by omega)
theorem nlu2{N:Nat}:(N<N+1+1)=True:=eq_true (by omega)
theorem nlu3{N:Nat}:(N<N+1+1+1)=True:=eq_true (by omega)
theorem nlu4{N:Nat}:(N<N+1+1+1+1)=True:=eq_true (by omega)
theorem nlu5{N:Nat}:(N<N+1+1+1+1+1)=True:=eq_true (by omega)
theorem nlu6{N:Nat}:(N<N+1+1+1+1+1+1)=True:=eq_true (by omega)
theorem nlu7{N:Nat}:(N<N+1+1+1+1+1+1+1)=True:=eq_true (by omega)
theorem nlu8{N:Nat}:(N<N+1+1+1+1+1+1+1+1)=True:=eq_true (by omega)
theorem nlu9{N:Nat}:(N<N+1+1+1+1+1+1+1+1+1)=True:=eq_true (by omega)
theorem nlu10{N:Nat}:(N<N+1+1+1+1+1+1+1+1+1+1)=True:=eq_true (by omega)
theorem nlu11{N:Nat}:(N<N+1+1+1+1+1+1+1+1+1+1+1)=True:=eq_true (by omega)
theorem nlu12{N:Nat}:(N<N+1+1+1+1+1+1+1+1+1+1+1+1)=True:=eq_true (by omega)
theorem nlu13{N:Nat}:(N<N+1+1+1+1+1+1+1+1+1+1+1+1+1)=True:=eq_true (by omega)
theorem nlu14{N:Nat}:(N<N+1+1+1+1+1+1+1+1+1+1+1+1+1+1)=True:=eq_true (by omega)
theorem nlu15{N:Nat}:(N<N+1+1+1+1+1+1+1+1+1+1+1+1+1+1+1)=True:=eq_true (by omega)
attribute [simp] nlu1 nlu2 nlu3 nlu4 nlu5 nlu6 nlu7 nlu8 nlu9 nlu10 nlu11 nlu12 nlu13 nlu14 nlu15
theorem Call.eq{C:Cx}{g:V}{args:List V}{st st':St}{u:V}(h:Call C g args st (fun v s=>v=u∧s=st')):C.call g args st=some (u,st'):=by
 obtain⟨v,s,e,rfl,rfl⟩:=h.ex
 exact e
theorem Fn.pure{C:Cx}{f:Nat}{args:List V}{h:T O}{N:Nat}{u:V}{P:V→T O→Nat→Prop}(e:∀w,C.call (.func f [] []) args ⟨h,N,w⟩=some (u,⟨h,N,w⟩))(p:P u h N):Fn C f args h N P:=fun w=>⟨⟨u,⟨h,N,w⟩,e w,rfl,Keeps.refl,p⟩⟩
theorem k_block_other{C:Cx}{K:List Kf}{Q:Rs→Prop}{fr:Fr}{st:St}{i j:Nat}(h:¬j=i):Run C (.block i::K) (some (.ex (.exit j) fr st)) Q↔Run C K (some (.ex (.exit j) fr st)) Q:=k_block_exit' (by
 cases hb:Nat.beq j i with
 |false=>rfl
 |true=>exact absurd (Nat.eq_of_beq_eq_true hb) h)
attribute [simp] k_block_other
def firstNZ:List Int→Int
 |[]=>0
 |e::l=>if e=0 then firstNZ l else e
theorem get_of_lt{α:Type}{l:List α}{k:Nat}(h:k<l.length):∃d,l[k]?=some d:=⟨_,List.getElem?_eq_getElem h⟩
theorem digC_u(c:UInt8):digC c=decide (48≤u8I c∧u8I c≤57):=by
 unfold digC u8I;rw[decide_eq_decide];omega
def aset(k:Nat):List V:=(List.range 256).map fun i=>.bool (decide (48≤i∧i<48+k))
theorem aset_len(k:Nat):(aset k).length=256:=by simp[aset]
theorem aset_get{k i:Nat}(hi:i<256):(aset k)[i]?=some (.bool (decide (48≤i∧i<48+k))):=by simp[aset,hi]
theorem aset_one(k:Nat):(aset k).all V.one=true:=by simp[aset,V.one]
theorem aset_set{k:Nat}(hk:k<10):splice (aset k) (48+k) [.bool true]=aset (k+1):=by
 apply List.ext_getElem?
 intro j
 unfold splice
 rw[List.append_assoc,List.getElem?_append,List.length_take,aset_len,Nat.min_eq_left (by omega)]
 by_cases h1:j<48+k
 ·rw[if_pos h1,List.getElem?_take,if_pos h1,aset_get (by omega),aset_get (by omega)]
  congr 3;rw[eq_iff_iff];omega
 ·rw[if_neg h1]
  by_cases h2:j=48+k
  ·subst h2
   rw[aset_get (by omega)]
   simp
  ·rw[show j-(48+k)=(j-(48+k)-1)+1 by omega]
   simp only[List.singleton_append,List.getElem?_cons_succ,List.getElem?_drop,List.length_singleton]
   rw[show 48+k+1+(j-(48+k)-1)=j by omega]
   by_cases h3:j<256
   ·rw[aset_get h3,aset_get h3];congr 3;rw[eq_iff_iff];omega
   ·rw[List.getElem?_eq_none (by rw[aset_len];omega),List.getElem?_eq_none (by rw[aset_len];omega)]
theorem aset_take(k:Nat):(aset k).take 256=aset k:=List.take_of_length_le (by rw[aset_len];omega)
theorem aset_spl(j k:Nat):splice (aset j) 0 (aset k)=aset k:=by
 unfold splice;rw[aset_len,List.drop_eq_nil_of_le (by rw[aset_len];omega)];simp
attribute [simp] aset_len aset_one aset_take aset_spl
def allD(s:Str):Bool:=s.all digC
def digs:Str:=[48,49,50,51,52,53,54,55,56,57]
theorem digs_get{k:Nat}(hk:k<10):∃c,digs[k]?=some c∧u8I c=48+k:=by
 have:k=0∨k=1∨k=2∨k=3∨k=4∨k=5∨k=6∨k=7∨k=8∨k=9:=by omega
 rcases this with rfl|rfl|rfl|rfl|rfl|rfl|rfl|rfl|rfl|rfl<;>exact⟨_,rfl,rfl⟩
theorem wrapF_u8{n:Int}(h1:0≤n)(h2:n<256):wrapF .u8 n=n:=by
 rw[wrapF_eq]
 simp[IntKind.wrap,IntKind.bits,IntKind.signed]
 omega
theorem wrap_i64{n:Int}(h1: -9223372036854775808≤n)(h2:n<9223372036854775808):IntKind.wrap .i64 n=n:=by
 simp[IntKind.wrap,IntKind.bits,IntKind.signed]
 omega
theorem numV_snoc(l:Str)(c:UInt8):numV (l++[c])=10*numV l+(c.toNat-48):=by simp[numV]
theorem numV_take{s:Str}{k:Nat}{c:UInt8}(h:s[k]?=some c):numV (s.take (k+1))=10*numV (s.take k)+(c.toNat-48):=by
 rw[List.take_add_one,h]
 simp only[Option.toList,numV_snoc]
theorem allD_get{s:Str}(h:allD s=true){k:Nat}{c:UInt8}(hc:s[k]?=some c):48≤u8I c∧u8I c≤57:=by
 unfold allD at h
 rw[List.all_eq_true]at h
 have:=h c (List.mem_of_getElem? hc)
 rw[digC_u]at this
 simpa using this
theorem numV_lt{s:Str}(h:allD s=true):∀k,k≤s.length→numV (s.take k)<10^k
 |0,_=>by simp[numV]
 |k+1,hk=>by
  obtain⟨c,hc⟩:=get_of_lt (l:=s) (k:=k) (by omega)
  have h1:=numV_lt h k (by omega)
  have h2:=allD_get h hc
  unfold u8I at h2
  rw[numV_take hc,Nat.pow_succ]
  omega
theorem numV_lt'{s:Str}(h:allD s=true):numV s<10^s.length:=by
 have:=numV_lt h s.length (Nat.le_refl _)
 rwa [List.take_length]at this
theorem p10_le{a b:Nat}(h:a≤b):10^a≤10^b:=Nat.pow_le_pow_right (by decide) h
theorem and1_i64{k:Nat}(h:k<9223372036854775808):intBin .and .i64 (k:Int) 1=some (.int .i64 ((k%2:Nat):Int)):=by
 show some (V.int .i64 (IntKind.wrap .i64 (BitVec.ofInt 64 (k:Int)&&& BitVec.ofInt 64 1).toNat))=_
 have e:(BitVec.ofInt 64 1).toNat=2^1-1:=by decide
 rw[BitVec.toNat_and,ofInt_nat k (by omega),e,Nat.and_two_pow_sub_one_eq_mod,wrap_i64 (by omega) (by omega)]
theorem shr1_i64{k:Nat}:shiftV .shr .i64 (k:Int) 1=some (.int .i64 ((k/2:Nat):Int)):=by
 unfold shiftV
 have e:min (1:Int).toNat (IntKind.bits .i64)=1:=by decide
 rw[if_neg (by decide),e]
 simp only[Option.some.injEq,V.int.injEq,true_and]
 rw[Int.fdiv_eq_ediv_of_nonneg _ (by decide)]
 rfl
end Go.Mx
namespace Go.Mx
open Go
theorem Keeps.new{h h1:T O}{n n1:Nat}(k:Keeps h n h1 n1)(o:O):Keeps h n (h1.set n1 o) (n1+1):=(k.set k.le).up (Nat.le_succ _)
abbrev FnV(C:Cx)(f:V)(args:List V)(h:T O)(n:Nat)(P:V→T O→Nat→Prop):Prop:=∀w,Call C f args ⟨h,n,w⟩ (Ret P h n w)
theorem run_fnV{C:Cx}{f args h n w P K Q}(hf:FnV C f args h n P)(k:∀v h' n',Keeps h n h' n'→P v h' n'→Run C K (some (.val v ⟨h',n',w⟩)) Q):Run C K (valR (C.call f args ⟨h,n,w⟩)) Q:=
 run_call (hf w) fun v st'=>by
  obtain⟨h',n',w'⟩:=st'
  rintro⟨rfl,hk,hp⟩
  exact k v h' n' hk hp
theorem FnV.pure{C:Cx}{f:V}{args:List V}{h:T O}{N:Nat}{u:V}{P:V→T O→Nat→Prop}(e:∀w,C.call f args ⟨h,N,w⟩=some (u,⟨h,N,w⟩))(p:P u h N):FnV C f args h N P:=fun w=>⟨⟨u,⟨h,N,w⟩,e w,rfl,Keeps.refl,p⟩⟩
def firstP(p:Nat→Bool)(k:Nat):Nat→Int
 |0=> -1
 |m+1=>if p k=true then (k:Int) else firstP p (k+1) m
def SlF(v:V):Prop:=v=.nilslice∨v=.empty∨∃i o n c z,v=.slice i o n c z
theorem Sl.form{h:T O}{N:Nat}{v:V}{l:List V}(s:Sl h N v l):SlF v:=by
 rcases s with⟨_,h|h⟩|⟨i,o,cp,c,e,rw,h,_⟩
 ·exact .inl h
 ·exact .inr (.inl h)
 ·exact .inr (.inr ⟨_,_,_,_,_,h⟩)
theorem SlF.one{v:V}(h:SlF v):V.one v=true:=by
 rcases h with rfl|rfl|⟨_,_,_,_,_,rfl⟩<;>rfl
theorem SlF.cells{v:V}(h:SlF v):V.cells v=[v]:=by
 rcases h with rfl|rfl|⟨_,_,_,_,_,rfl⟩<;>rfl
def strs(l:List Str):List V:=l.map .str
theorem strs_len(l:List Str):(strs l).length=l.length:=by simp[strs]
theorem strs_get{l:List Str}{j:Nat}{n:Str}(h:l[j]?=some n):(strs l)[j]?=some (.str n):=by simp[strs,h]
attribute [simp] strs_len
def stgC(s:Stg)(inp:V):List V:=[.str s.name,.str s.op,.str s.factor,inp,.int .i64 s.cost]
def Gr(h:T O)(N:Nat)(v:V)(g:List Stg):Prop:=∃l:List (List V),Sn 5 h N v l∧l.length=g.length∧∀(j:Nat) (s:Stg),g[j]?=some s→∃inp,l[j]?=some (stgC s inp)∧Sl h N inp (strs s.inputs)
theorem Gr.keep{h h':T O}{N N':Nat}{v:V}{g:List Stg}(s:Gr h N v g)(k:Keeps h N h' N'):Gr h' N' v g:=by
 obtain⟨l,h1,h2,h3⟩:=s
 refine⟨l,h1.keep k,h2,fun j s hs=>?_⟩
 obtain⟨inp,h4,h5⟩:=h3 j s hs
 exact⟨inp,h4,h5.keep k⟩
theorem Gr.len{h:T O}{N:Nat}{v:V}{g:List Stg}(s:Gr h N v g):lenV v=some g.length:=by
 obtain⟨l,h1,h2,h3⟩:=s
 rw[h1.len,h2]
theorem Gr.at{h:T O}{N:Nat}{v:V}{g:List Stg}(s:Gr h N v g){j:Nat}{x:Stg}(hj:g[j]?=some x):∃i o c e rw inp,baseV v=some (i,o)∧i<N∧h.get i=some (.cells c e rw)∧slc c (o+j*5) 5=some (stgC x inp)∧Sl h N inp (strs x.inputs):=by
 obtain⟨l,h1,h2,h3⟩:=s
 obtain⟨inp,h4,h5⟩:=h3 j x hj
 obtain⟨i,o,c,e,rw,q1,q2,q3,q4⟩:=h1.at h4
 exact⟨i,o,c,e,rw,inp,q1,q2,q3,q4,h5⟩
theorem Gr.slice{h:T O}{N:Nat}{v:V}{g:List Stg}{w:List Nat}(s:Gr h N v g){lo hi:Nat}(h1:lo≤hi)(h2:hi≤g.length)(x y:Option V)(hx:x=some (.int .i64 lo)∨x=none∧lo=0)(hy:y=some (.int .i64 hi)∨y=none∧hi=g.length):
  ∃v',sliceK ⟨h,N,w⟩ 5 (some v) (some x) (some y) (some none)=some (v',⟨h,N,w⟩)∧Gr h N v' ((g.take hi).drop lo):=by
 obtain⟨l,g1,g2,g3⟩:=s
 obtain⟨v',e1,e2⟩:=sliceK_sn (z:=5) (w:=w) (by decide) g1 h1 (by omega) x y hx (by rw[g2];exact hy)
 refine⟨v',e1,(l.take hi).drop lo,e2,by simp[g2],fun j s hs=>?_⟩
 have hj:lo+j<hi:=by
  apply Nat.lt_of_not_le;intro hc
  rw[List.getElem?_drop,List.getElem?_take,if_neg (by omega)]at hs;cases hs
 rw[List.getElem?_drop,List.getElem?_take,if_pos hj]at hs
 obtain⟨inp,q1,q2⟩:=g3 _ s hs
 exact⟨inp,by rw[List.getElem?_drop,List.getElem?_take,if_pos hj];exact q1,q2⟩
theorem slc_5{a b c d e:V}:slc [a,b,c,d,e] 0 5=some [a,b,c,d,e]:=rfl
theorem slc_2{a b:V}:slc [a,b] 0 2=some [a,b]:=rfl
attribute [simp] slc_5 slc_2
theorem Gr.form{h:T O}{N:Nat}{v:V}{g:List Stg}(s:Gr h N v g):SlF v:=by
 obtain⟨l,h1,_⟩:=s
 rcases h1 with⟨_,h|h⟩|⟨i,o,cp,c,e,rw,h,_⟩
 ·exact .inl h
 ·exact .inr (.inl h)
 ·exact .inr (.inr ⟨_,_,_,_,_,h⟩)
def lookR(st:St)(zero:V)(ok:Bool):Option (Option (Nat×V))→Option (V×St)
 |some (some (_,v))=>some (if ok then .tup [v,.bool true] else v,st)
 |some none=>some (if ok then .tup [zero,.bool false] else zero,st)
 |none=>none
def lookK2(st:St)(kd:KeyD)(zero:V)(ok:Bool)(k:V):Option O→Option (V×St)
 |some (.map es)=>lookR st zero ok (findV kd k es 0)
 |_=>none
def lookK(st:St)(kd:KeyD)(zero:V)(ok:Bool):Option V→Option V→Option (V×St)
 |some (.map i),some k=>if kd.fits k=true then lookK2 st kd zero ok k (st.h.get i) else none
 |some .nilmap,some k=>if kd.fits k=true then lookR st zero ok (some none) else none
 |_,_=>none
theorem op_lookup_K{kd:KeyD}{zero:V}{m k:Src}{ok:Bool}{call:CallT}{r:T V}{st:St}:op_lookup kd zero m k ok call r st=lookK st kd zero ok (m.ev r) (k.ev r):=by
 unfold op_lookup lookK
 rcases m.ev r with _|m
 ·rfl
 ·rcases k.ev r with _|k
  ·cases m<;>rfl
  ·cases m<;>simp only[]<;>(try (by_cases hf:kd.fits k=true<;>simp[hf]))<;>try rfl
   ·rename_i i
    rcases st.h.get i with _|o
    ·rfl
    ·cases o<;>simp only[lookK2]
     rename_i es
     rcases findV kd k es 0 with _|_|⟨_,_⟩<;>rfl
theorem lookK_map{st:St}{zero:V}{ok:Bool}{i:Nat}{s:Str}:lookK st .str zero ok (some (.map i)) (some (.str s))=lookK2 st .str zero ok (.str s) (st.h.get i):=rfl
theorem lookK2_some{st:St}{kd:KeyD}{zero:V}{ok:Bool}{k:V}{es:List (V×V)}:lookK2 st kd zero ok k (some (.map es))=lookR st zero ok (findV kd k es 0):=rfl
attribute [simp] op_lookup_K lookK_map lookK2_some op_mkmap
def msetR(st:St)(i:Nat)(k v:V)(es:List (V×V)):Option (Option (Nat×V))→Option (V×St)
 |some (some (j,_))=>some (.tup [],st.write i (.map (es.set j (k,v))))
 |some none=>some (.tup [],st.write i (.map (es++[(k,v)])))
 |none=>none
def msetK2(st:St)(kd:KeyD)(i:Nat)(k v:V):Option O→Option (V×St)
 |some (.map es)=>msetR st i k v es (findV kd k es 0)
 |_=>none
def msetK(st:St)(kd:KeyD):Option V→Option V→Option V→Option (V×St)
 |some (.map i),some k,some v=>if kd.fits k=true then msetK2 st kd i k v (st.h.get i) else none
 |_,_,_=>none
theorem op_mapset_K{kd:KeyD}{m k v:Src}{call:CallT}{r:T V}{st:St}:op_mapset kd m k v call r st=msetK st kd (m.ev r) (k.ev r) (v.ev r):=by
 unfold op_mapset msetK
 rcases m.ev r with _|m
 ·rfl
 ·rcases k.ev r with _|k
  ·cases m<;>rfl
  ·rcases v.ev r with _|v
   ·cases m<;>rfl
   ·cases m with
    |map i=>
     simp only[]
     by_cases hf:kd.fits k=true
     ·simp only[hf,if_true]
      rcases st.h.get i with _|o
      ·rfl
      ·cases o<;>simp only[msetK2]
       rename_i es
       rcases findV kd k es 0 with _|_|⟨_,_⟩<;>rfl
     ·simp[hf]
    |_=>rfl
theorem msetK_map{st:St}{i:Nat}{s:Str}{v:V}:msetK st .str (some (.map i)) (some (.str s)) (some v)=msetK2 st .str i (.str s) v (st.h.get i):=rfl
theorem msetK2_some{st:St}{kd:KeyD}{i:Nat}{k v:V}{es:List (V×V)}:msetK2 st kd i k v (some (.map es))=msetR st i k v es (findV kd k es 0):=rfl
theorem msetR_none{st:St}{i:Nat}{k v:V}{es:List (V×V)}:msetR st i k v es (some none)=some (.tup [],st.write i (.map (es++[(k,v)]))):=rfl
attribute [simp] op_mapset_K msetK_map msetK2_some msetR_none
end Go.Mx
namespace Go.Mx
open Go
theorem Keeps.then{h h1 h2:T O}{n n1 n2:Nat}(a:Keeps h n h1 n1)(b:Keeps h1 n h2 n2):Keeps h n h2 n2:=⟨b.le,fun i hi=>(b.get i hi).trans (a.get i hi)⟩
def rowsI(l:List Int):List (List V):=l.map fun x=>[.int .i64 x]
theorem rowsI_len(l:List Int):(rowsI l).length=l.length:=by simp[rowsI]
theorem rowsI_flat:∀(l:List Int),(rowsI l).flatten=dI l
 |[]=>rfl
 |x::l=>by
  have:=rowsI_flat l
  simp only[rowsI,List.map_cons,List.flatten_cons,dI]at this ⊢
  rw[this];rfl
theorem rowsI_snoc(l:List Int)(x:Int):rowsI (l++[x])=rowsI l++[[.int .i64 x]]:=by simp[rowsI]
theorem Own.sl{e:TypeId}{N0:Nat}{h:T O}{N:Nat}{v:V}{l:List Int}(s:Own 1 e N0 h N v (rowsI l)):Sl h N v (dI l):=by
 have:=s.sn
 have e1:rowsI l=(dI l).map fun x=>[x]:=by simp[rowsI,dI]
 rw[e1]at this
 exact Sn.one.1 this
structure ValidG (g:List Stg):Prop where
 le:g.length≤16
 name:∀(j:Nat) (s:Stg),g[j]?=some s→j≤pos (g.take j) s.name
 inp:∀(j:Nat) (s:Stg),g[j]?=some s→∀n∈s.inputs,pos (g.take j) n<j
 cost:∀s∈g,1≤s.cost∧s.cost≤1000
end Go.Mx
