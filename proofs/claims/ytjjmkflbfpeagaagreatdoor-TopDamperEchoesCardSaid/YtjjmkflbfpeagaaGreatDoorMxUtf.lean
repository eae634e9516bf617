/-Characters of a string, one after the ot-/
import Derived.Test.YtjjmkflbfpeagaaGreatDoorMxWord
set_option linter.all false
namespace Go.Mx
open Go
variable {i:Nat} {j:Int} {k:IntKind} {r:T V} {s:aU} {x:Src}
def Ymy(s:aU)(p:Nat):Int:=(Utf8.decode ⟨s.toArray⟩ p).1
def Ymx(s:aU)(p:Nat):Nat:=(Utf8.decode ⟨s.toArray⟩ p).2
def Ev(i:Nat)(st:St):Option (aU×Nat)->Option (V×St)
 |some (s,p)=>if p<s.length then some (.aY [.bool true,.int .i64 p,.int .i32 (Utf8.decode ⟨s.toArray⟩ p).1],st.write i (.ef s (p+(Utf8.decode ⟨s.toArray⟩ p).2))) else some (.aY [.bool false],st)
 |none=>none
def Oc:Option O->Option (aU×Nat)
 |some (.ef s p)=>some (s,p)
 |_=>none
def TI(st:St):Option V->Option (V×St)
 |some (.ptr i 0)=>Ev i st (Oc (st.h.get i))
 |_=>none
def Zq3{call:cH}{st:St}:DO x call r st=TI st (x.ev r):=by
 unfold DO TI
 rcases x.ev r with _|v
 ·rfl
 ·cases v<;>try rfl
  rename_i i o
  cases o with
  |zero=>
   simp only[Oc,Ev]
   rcases st.h.get i with _|o
   ·rfl
   ·cases o<;>rfl
  |succ=>rfl
def Zxu{st:St}:TI st (some (.ptr i 0))=Ev i st (Oc (st.h.get i)):=rfl
def Zs4{p:Nat}:Oc (some (.ef s p))=some (s,p):=rfl
def Ybh{st:St}{p:Nat}(h:p<s.length):Ev i st (some (s,p))=some (.aY [.bool true,.int .i64 p,.int .i32 (Ymy s p)],st.write i (.ef s (p+Ymx s p))):=by simp[Ev,h,Ymy,Ymx]
def Zxv{st:St}:Ev i st (some (s,s.length))=some (.aY [.bool false],st):=by simp[Ev]
def oW(st:St):Option V->Option (Option V)->Option (Option V)->Option (V×St)
 |some (.str s),some lo,some hi=>match dt hi s.length s.length with
   |some h=>match dt lo h 0 with
    |some l=>some (.str ((s.take h).drop l),st)
    |none=>none
   |none=>none
 |_,_,_=>none
def Zpq{lo hi:Option Src}{call:cH}{st:St}:wF x lo hi call r st=oW st (x.ev r) (az r lo) (az r hi):=by
 unfold wF oW;rfl
def Ah{st:St}(h0:0<=j)(h1:j<=s.length):oW st (some (.str s)) (some (some (.int k j))) (some none)=some (.str (s.drop j.toNat),st):=by
 simp[oW,dt,jP,h0,h1]
def TJ{st:St}(h0:0<=j)(h1:j<=s.length):oW st (some (.str s)) (some none) (some (some (.int k j)))=some (.str (s.take j.toNat),st):=by
 simp[oW,dt,jP,h0,h1]
def Zoi{st:St}{k':IntKind}{i:Int}(h0:0<=i)(h1:i<=j)(h2:j<=s.length):oW st (some (.str s)) (some (some (.int k i))) (some (some (.int k' j)))=some (.str ((s.take j.toNat).drop i.toNat),st):=by
 have h3:0<=j:=by omega
 have h4:max j 0=j:=by omega
 simp[oW,dt,jP,h0,h1,h2,h3,h4]
def Ew(s:aU):List V:=s.map fun b=>.int .u8 (cJ b)
def Zzk(s:aU):(Ew s).length=s.length:=by simp[Ew]
def Zzl{k:Nat}{c:UInt8}(h:s[k]?=some c):(Ew s)[k]?=some (.int .u8 (cJ c)):=by simp[Ew,h]
def TK(elem:TypeId)(st:St):Option V->Option (V×St)
 |some (.str s)=>some (.slice st.n 0 s.length none 1,st.alloc (.cells (Ew s) elem true))
 |_=>none
def Zpp{elem:TypeId}{call:cH}{st:St}:BT elem x call r st=TK elem st (x.ev r):=by
 unfold BT TK;rfl
def Ye3{elem:TypeId}{st:St}:TK elem st (some (.str s))=some (.slice st.n 0 s.length none 1,st.alloc (.cells (Ew s) elem true)):=rfl
attribute [simp] Zpp Ye3 Zzk Zq3 Zxu Zs4 Ybh Zxv Zpq Ah TJ Zoi DN
def Zke:∀(s:aU) (i:Nat),Dx 47 s i=if ah s<s.length then ((i+ah s:Nat):Int) else -1
 |[],i=>rfl
 |c::s,i=>by
  simp only[Dx,ah]
  have e:(c==47)=decide (c.toNat=47):=by
   rw[Bool.eq_iff_iff]
   simp only[beq_iff_eq,decide_eq_true_eq]
   exact⟨fun h=>by rw[h];rfl,fun h=>UInt8.toNat_inj.1 h⟩
  rw[e]
  by_cases h:c.toNat=47
  ·simp[h]
  ·simp only[h,decide_false,if_false,fY,Zke s (i+1),bf]
   by_cases h2:ah s<s.length
   ·rw[aJ h2,aJ (by omega)];omega
   ·rw[aq h2,aq (by omega)]
variable {d:Int} {j k n:Nat} {l:List Int}
def vI:List Int->Int
 |[]=>0
 |d::l=>d+1000000000*vI l
def pI(k:Nat):Int:=1000000000^k
def rP(k:Nat):pI (k+1)=1000000000*pI k:=by unfold pI;rw[Int.pow_succ,Int.mul_comm]
def Yj1:pI 0=1:=rfl
def zY(k:Nat):0<pI k:=by unfold pI;exact Int.pow_pos (by decide)
def Mv(i j:Nat):pI (i+j)=pI i*pI j:=by unfold pI;exact Int.pow_add ..
def TL:∀(l m:List Int),vI (l++m)=vI l+pI l.length*vI m
 |[],m=>by simp[vI,pI]
 |d::l,m=>by
  simp only[Ao,vI,TL l m,bf,rP]
  grind
def AZ(l:List Int)(d:Int):vI (l++[d])=vI l+pI l.length*d:=by simp[TL,vI]
def Qu(n:Nat):vI (List.replicate n 0)=0:=by
 induction n with
 |zero=>rfl
 |succ n ih=>simp[List.replicate_succ,vI,ih]
def uZ{α:Type}{l:List α}{d:α}(h:l[k]?=some d):k<l.length:=by
 apply qZ;intro hc;rw[jC hc]at h;cases h
def vV(h:l[k]?=some d):vI (l.take (k+1))=vI (l.take k)+pI k*d:=by
 have hk:=uZ h
 rw[CP,h]
 simp only[Option.toList]
 rw[AZ,jH,nU (by omega)]
def HK(l:List Int)(k:Nat)(hk:k<=l.length):vI l=vI (l.take k)+pI k*vI (l.drop k):=by
 have:=TL (l.take k) (l.drop k)
 rw[yW,jH,nU hk]at this
 exact this
def Ab:∀{l:List Int} {k:Nat} {c:Int},l[k]?=some c->∀(v:Int),vI (l.set k v)=vI l+pI k*(v-c)
 |[],k,c,h,v=>by simp at h
 |d::l,0,c,h,v=>by
  simp at h;subst h
  simp only[List.set_cons_zero,vI,Yj1];omega
 |d::l,k+1,c,h,v=>by
  have:=Ab (l:=l) (k:=k) (c:=c) (by simpa using h) v
  simp only[List.set_cons_succ,vI,this,rP]
  grind
def Di(l:List Int):Prop:=∀d∈l,0<=d/\d<1000000000
def Di.get(h:Di l){k:Nat}{d:Int}(hd:l[k]?=some d):0<=d/\d<1000000000:=h d (fW hd)
def Di.set(h:Di l){k:Nat}{v:Int}(h0:0<=v)(h1:v<1000000000):Di (l.set k v):=fun d hd=>by
 rcases BE hd with hd|rfl
 ·exact h d hd
 ·exact⟨h0,h1⟩
def Di.app{m:List Int}(h:Di l)(h':Di m):Di (l++m):=fun d hd=>by
 rcases kl.1 hd with hd|hd
 ·exact h d hd
 ·exact h' d hd
def Di.one{v:Int}(h0:0<=v)(h1:v<1000000000):Di [v]:=fun d hd=>by simp at hd;subst hd;exact⟨h0,h1⟩
def Di.nil:Di []:=fun d hd=>by simp at hd
def Di.BA(n:Nat):Di (List.replicate n 0):=fun d hd=>by rw[GD]at hd;rw[hd.2];decide
def Di.take(h:Di l)(k:Nat):Di (l.take k):=fun d hd=>h d (Ae hd)
def Di.drop(h:Di l)(k:Nat):Di (l.drop k):=fun d hd=>h d (List.mem_of_mem_drop hd)
def rL:∀{l:List Int},Di l->0<=vI l
 |[],_=>Int.le_refl _
 |d::l,h=>by
  have h1:=h d nT
  have h2:=rL (l:=l) fun e he=>h e (nt _ he)
  simp only[vI];omega
def rK:∀{l:List Int},Di l->vI l<pI l.length
 |[],_=>by decide
 |d::l,h=>by
  have h1:=h d nT
  have h2:=rK (l:=l) fun e he=>h e (nt _ he)
  simp only[vI,bf,rP];omega
def zI(l:List Int)(j:Nat):Int:=l[j]?.getD 0
def Yiv(h:l[j]?=some d):zI l j=d:=by simp[zI,h]
def TM(h:l.length<=j):zI l j=0:=by simp[zI,h]
def TN{l:List Int}(h:Di l)(j:Nat):0<=zI l j/\zI l j<1000000000:=by
 unfold zI
 cases hj:l[j]? with
 |none=>simp
 |some d=>exact h.get hj
def TO{l:List Int}{k:Nat}:vI (l.take (k+1))=vI (l.take k)+pI k*zI l k:=by
 unfold zI
 cases h:l[k]? with
 |some d=>exact vV h
 |none=>
  have hk:l.length<=k:=by
   apply wB;intro hc;rw[dT hc]at h;cases h
  rw[gI (by omega),gI hk];simp
def qm{α:Type}{l:List α}{d:α}(h:l[k]?=some d):l.drop k=d::l.drop (k+1):=by
 obtain⟨hk,hs⟩:=zo.1 h
 rw[<-hs];exact Ds hk
def dI(l:List Int):List V:=l.map fun n=>.int .i64 n
def f_(l:List Int):(dI l).length=l.length:=by simp[dI]
def fU{n:Int}(h:l[j]?=some n):(dI l)[j]?=some (.int .i64 n):=by simp[dI,h]
attribute [simp] f_
def yU{v:Int}(h:k<l.length):ag (dI l) k [.int .i64 v]=dI (l.set k v):=by
 unfold ag dI
 apply nX
 intro j
 simp only[xA,ko,List.getElem?_set]
 rw[qs,List.getElem?_append,jH,List.length_map]
 by_cases h1:j<k
 ·rw[aJ (by omega),kg,aJ h1,ko,aq (by omega)]
 ·rw[aq (by omega)]
  by_cases h2:j=k
  ·subst h2
   rw[show j-min j l.length=0 by omega,aJ rfl,aJ h];rfl
  ·rw[show j-min k l.length=(j-k-1)+1 by omega,aq (by omega)]
   simp only[Nc,BP,gk,ko]
   rw[show k+1+(j-k-1)=j by omega]
def Qp:df [.int .i64 0] n=dI (List.replicate n 0):=by rw[Yhj];simp[dI]
def oP:List Int->List Int
 |[]=>[]
 |d::l=>match oP l with
  |[]=>if d=0 then [] else [d]
  |t=>d::t
def Qn:∀(l:List Int),oP (l++[0])=oP l
 |[]=>rfl
 |d::l=>by simp only[Ao,oP,Qn l]
def WD{d:Int}(hd:d≠0):∀(l:List Int),oP (l++[d])=l++[d]
 |[]=>by simp[oP,hd]
 |e::l=>by
  simp only[Ao,oP,WD hd l]
  cases l<;>rfl
def Zqo:∀(l:List Int),(oP l).length<=l.length
 |[]=>aR _
 |d::l=>by
  have ih:=Zqo l
  simp only[oP]
  split
  ·split<;>simp
  ·simp only[bf];omega
def ds(n:Nat):List Int:=if h:n=0 then [] else ((n%1000000000:Nat):Int)::ds (n/1000000000)
termination_by n
decreasing_by exact zX (by omega) (by decide)
def qq:ds 0=[]:=by rw[ds];simp
def wZ(h:n≠0):ds n=((n%1000000000:Nat):Int)::ds (n/1000000000):=by rw[ds];simp[h]
def fQ:∀(n:Nat),vI (ds n)=n:=by
 intro n
 induction n using Nat.strongRecOn with
 |_ n ih=>
  by_cases h:n=0
  ·subst h;rw[qq];rfl
  ·rw[wZ h]
   simp only[vI]
   rw[ih (n/1000000000) (zX (by omega) (by decide))]
   omega
def fJ(n:Nat):Di (ds n):=by
 induction n using Nat.strongRecOn with
 |_ n ih=>
  by_cases h:n=0
  ·subst h;rw[qq];exact Di.nil
  ·rw[wZ h]
   intro d hd
   rcases jy.1 hd with rfl|hd
   ·omega
   ·exact ih (n/1000000000) (zX (by omega) (by decide)) d hd
def Qq:∀{l:List Int},Di l->oP l=ds (vI l).toNat
 |[],_=>by simp[oP,vI,qq]
 |d::l,h=>by
  have hl:Di l:=fun e he=>h e (nt _ he)
  have ih:=Qq hl
  have hd:=h d nT
  have hn:=rL hl
  simp only[oP,vI,ih]
  by_cases h0:vI l=0
  ·rw[h0]
   simp only[Int.toNat_zero,qq,Int.mul_zero,Int.add_zero]
   by_cases kM:d=0
   ·simp[kM,qq]
   ·rw[wZ (by omega),vw (by omega),xC (by omega),qq];simp[kM];omega
  ·have h3:(d+1000000000*vI l).toNat≠0:=by omega
   rw[wZ h3]
   have h1:(d+1000000000*vI l).toNat/1000000000=(vI l).toNat:=by omega
   have h2:(((d+1000000000*vI l).toNat%1000000000:Nat):Int)=d:=by omega
   rw[h1,h2]
   split
   ·rename_i hc;rw[wZ (by omega)]at hc;cases hc
   ·rfl
def CQ(h:Di l){n:Nat}(hn:vI l=n):oP l=ds n:=by rw[Qq h,hn];rfl
def Ylj(n:Nat):oP (ds n)=ds n:=CQ (fJ n) (fQ n)
def zV:ds n=[]↔n=0:=by
 constructor
 ·intro h
  by_cases h0:n=0
  ·exact h0
  ·rw[wZ h0]at h;cases h
 ·intro h;rw[h,qq]
def Ylk(h:n≠0):∃d,(ds n)[(ds n).length-1]?=some d/\0<d:=by
 have bK:ds n≠[]:=fun hc=>h (zV.1 hc)
 obtain⟨l,d,hd⟩:∃l d,ds n=l++[d]:=⟨(ds n).dropLast,(ds n).getLast bK,(R6 bK).symm⟩
 refine⟨d,by rw[hd,iy,xA];simp,?_⟩
 have h1:=fJ n d (by rw[hd];exact List.mem_append_right _ nT)
 have:d≠0:=fun h0=>by
  have h2:=Ylj n
  rw[hd,h0,Qn]at h2
  have:=Zqo l
  rw[h2]at this;simp at this;omega
 omega
def G5{n k:Nat}(h:n<1000000000^k):(ds n).length<=k:=by
 induction k generalizing n with
 |zero=>
  have:n=0:=by simpa using h
  rw[this,qq];simp
 |succ k ih=>
  by_cases h0:n=0
  ·rw[h0,qq];simp
  ·rw[wZ h0]
   have:=ih (n:=n/1000000000) ((oh (by decide)).2 (by rw[<-fv];exact h))
   simp only[bf];omega
def Dn(h:T O)(N:Nat)(v:V)(n:Nat):Prop:=Sl h N v (dI (ds n))
def Dn.ae{h h':T O}{N N':Nat}{v:V}(s:Dn h N v n)(k:ad h N h' N'):Dn h' N' v n:=Sl.ae s k
def TP{P u1 u2 U' v1 v2 V' t r:Int}(hP:0<P)(A1:0<=U')(eX:0<=u2)(yc:0<=u1)(mY:0<v1)(iY:0<=v2)(uQ:0<=V')(A2:V'<P)(h0:0<=t)(ht:t<=1000000000)(hinv:u1=t*v1+r)(hc:t*v2<=r*1000000000+u2):
  (t-1)*(V'+P*(v2+1000000000*v1))<=U'+P*(u2+1000000000*u1):=by
 by_cases nA:t=0
 ·subst nA
  have h1:0<=P*(v2+1000000000*v1):=tQ (by omega) (by omega)
  have h2:0<=P*(u2+1000000000*u1):=tQ (by omega) (by omega)
  omega
 ·have h1:(t-1)*V'<=1000000000*P:=by
   have:(t-1)*V'<=1000000000*V':=BO (by omega) uQ
   omega
  have h2:P*1<=P*v1:=oQ (by omega) (by omega)
  have h3:P*(t*v2)<=P*(r*1000000000+u2):=oQ hc (by omega)
  have h4:0<=P*v2:=tQ (by omega) iY
  have h5:(t-1)*(V'+P*(v2+1000000000*v1))=(t-1)*V'+P*(t*v2)-P*v2+1000000000*(P*(t*v1))-1000000000*(P*v1):=by grind
  have h6:U'+P*(u2+1000000000*u1)=U'+P*(r*1000000000+u2)+1000000000*(P*(t*v1)):=by subst hinv;grind
  omega
def Yk1{P u1 u2 U' v1 v2 V' t r:Int}(hP:0<P)(A1:U'<P)(uQ:0<=V')(h0:0<=t)(hinv:u1=t*v1+r)(hc:r*1000000000+u2<t*v2):
  U'+P*(u2+1000000000*u1)<t*(V'+P*(v2+1000000000*v1)):=by
 have h1:0<=t*V':=tQ h0 uQ
 have h3:P*(r*1000000000+u2+1)<=P*(t*v2):=oQ (by omega) (by omega)
 have h5:t*(V'+P*(v2+1000000000*v1))=t*V'+P*(t*v2)+1000000000*(P*(t*v1)):=by grind
 have h6:U'+P*(u2+1000000000*u1)=U'+P*(r*1000000000+u2+1)-P+1000000000*(P*(t*v1)):=by subst hinv;grind
 omega
def Ybd{x:Int}(h1:1<=x)(h2:x<1000000000):500000000<=x*(1000000000/(x+1)):=by
 have hd:(x+1)*(1000000000/(x+1))+1000000000%(x+1)=1000000000:=Bw ..
 have hr:1000000000%(x+1)<x+1:=By _ (by omega)
 have jI:0<=1000000000%(x+1):=Bx _ (by omega)
 generalize 1000000000/(x+1)=d at*
 generalize 1000000000%(x+1)=r at*
 have e:(x+1)*d=x*d+d:=by grind
 apply BQ
 intro hc
 by_cases hx:x<=500000000
 ·have h3:500000000-x+1<=d:=by omega
  have h4:x*(500000000-x+1)<=x*d:=oQ h3 (by omega)
  have h5:0<=(x-1)*(500000000-x):=tQ (by omega) (by omega)
  have h6:(x-1)*(500000000-x)=x*(500000000-x+1)-500000000:=by grind
  omega
 ·have h3:1<=d:=by
   apply BQ;intro h
   have:d<=0:=by omega
   have:(x+1)*d<=0:=Int.mul_nonpos_of_nonneg_of_nonpos (by omega) this
   omega
  have h4:x*1<=x*d:=oQ h3 (by omega)
  omega
def TQ{w:List Int}{m:Nat}(h:∀t,m<=t->t<w.length->w[t]?=some 0):vI w=vI (w.take m):=by
 by_cases hm:m<=w.length
 ·have h1:=HK w m hm
  have h2:w.drop m=List.replicate (w.length-m) 0:=by
   apply nX
   intro t
   rw[gk,List.getElem?_replicate]
   by_cases ht:t<w.length-m
   ·rw[aJ ht];exact h _ (by omega) (by omega)
   ·rw[aq ht];exact jC (by omega)
  rw[h2,Qu]at h1
  omega
 ·rw[gI (by omega)]
def Yiy{w:List Int}{k:Nat}{a c d:Int}(ha:w[k]?=some a)(hc:w[k+1]?=some c)(hd:w[k+2]?=some d)(hz:∀t,k+3<=t->t<w.length->w[t]?=some 0):
  vI w=vI (w.take k)+pI k*(a+1000000000*(d*1000000000+c)):=by
 rw[TQ hz,show k+3=(k+2)+1 by omega,vV hd,vV hc,vV ha,rP (k+1),rP k]
 grind
def Yiz{w:List Int}{k:Nat}{a c:Int}(ha:w[k]?=some a)(hc:w[k+1]?=some c)(hl:w.length=k+2):
  vI w=vI (w.take k)+pI k*(a+1000000000*c):=by
 have h1:vI w=vI (w.take (k+1+1)):=by rw[gI (by omega)]
 rw[h1,vV hc,vV ha,rP k]
 grind
def Yeq{w:List Int}{n:Nat}{t:Int}(hd:Di (w.take n))(ht:w[n]?=some t)(hz:∀j,n<j->j<w.length->w[j]?=some 0)(h1:vI w<pI n):(0<=vI w->t=0)/\(vI w<0->t<0):=by
 have hl:=uZ ht
 have h2:vI w=vI (w.take n)+pI n*t:=by
  rw[TQ (m:=n+1) (fun j h1 h2=>hz j (by omega) h2),vV ht]
 have h3:=rL hd
 have h4:=rK hd
 rw[jH,nU (by omega)]at h4
 have h5:=zY n
 constructor
 ·intro h
  have h6:¬t<= -1:=fun hc=>by
   have:=oQ hc (qY h5)
   omega
  have h7:¬1<=t:=fun hc=>by
   have:=oQ hc (qY h5)
   omega
  omega
 ·intro h
  apply Gz
  intro hc
  have:=tQ (qY h5) hc
  omega
variable {N k:Nat} {s:aU}
def Yrj:(N=N+1)=False:=eq_false (by omega)
def Yra:(N+1=N)=False:=eq_false (by omega)
def Yr1:(N+1<N)=False:=eq_false (by omega)
def Yri:(N=N+1+1)=False:=eq_false (by omega)
def Yq9:(N+1+1=N)=False:=eq_false (by omega)
def Yr0:(N+1+1<N)=False:=eq_false (by omega)
def Yrh:(N=N+1+1+1)=False:=eq_false (by omega)
def Yq8:(N+1+1+1=N)=False:=eq_false (by omega)
def Yrz:(N+1+1+1<N)=False:=eq_false (by omega)
def Yrg:(N=N+1+1+1+1)=False:=eq_false (by omega)
def Yq7:(N+1+1+1+1=N)=False:=eq_false (by omega)
def Yry:(N+1+1+1+1<N)=False:=eq_false (by omega)
def Yrf:(N=N+1+1+1+1+1)=False:=eq_false (by omega)
def Yq6:(N+1+1+1+1+1=N)=False:=eq_false (by omega)
def Yrx:(N+1+1+1+1+1<N)=False:=eq_false (by omega)
def Yre:(N=N+1+1+1+1+1+1)=False:=eq_false (by omega)
def Yq5:(N+1+1+1+1+1+1=N)=False:=eq_false (by omega)
def Yrw:(N+1+1+1+1+1+1<N)=False:=eq_false (by omega)
def Yrd:(N=N+1+1+1+1+1+1+1)=False:=eq_false (by omega)
def Yq4:(N+1+1+1+1+1+1+1=N)=False:=eq_false (by omega)
def Yrv:(N+1+1+1+1+1+1+1<N)=False:=eq_false (by omega)
def Yrc:(N=N+1+1+1+1+1+1+1+1)=False:=eq_false (by omega)
def Yq3:(N+1+1+1+1+1+1+1+1=N)=False:=eq_false (by omega)
def Yru:(N+1+1+1+1+1+1+1+1<N)=False:=eq_false (by omega)
def Yrb:(N=N+1+1+1+1+1+1+1+1+1)=False:=eq_false (by omega)
def Yq2:(N+1+1+1+1+1+1+1+1+1=N)=False:=eq_false (by omega)
def Yrt:(N+1+1+1+1+1+1+1+1+1<N)=False:=eq_false (by omega)
def Ypj:(N=N+1+1+1+1+1+1+1+1+1+1)=False:=eq_false (by omega)
def Ypd:(N+1+1+1+1+1+1+1+1+1+1=N)=False:=eq_false (by omega)
def Ypv:(N+1+1+1+1+1+1+1+1+1+1<N)=False:=eq_false (by omega)
def Ypi:(N=N+1+1+1+1+1+1+1+1+1+1+1)=False:=eq_false (by omega)
def Ypc:(N+1+1+1+1+1+1+1+1+1+1+1=N)=False:=eq_false (by omega)
def Ypu:(N+1+1+1+1+1+1+1+1+1+1+1<N)=False:=eq_false (by omega)
def Yph:(N=N+1+1+1+1+1+1+1+1+1+1+1+1)=False:=eq_false (by omega)
def Ypb:(N+1+1+1+1+1+1+1+1+1+1+1+1=N)=False:=eq_false (by omega)
def Ypt:(N+1+1+1+1+1+1+1+1+1+1+1+1<N)=False:=eq_false (by omega)
def Ypg:(N=N+1+1+1+1+1+1+1+1+1+1+1+1+1)=False:=eq_false (by omega)
def Ypa:(N+1+1+1+1+1+1+1+1+1+1+1+1+1=N)=False:=eq_false (by omega)
def Yps:(N+1+1+1+1+1+1+1+1+1+1+1+1+1<N)=False:=eq_false (by omega)
def Ypf:(N=N+1+1+1+1+1+1+1+1+1+1+1+1+1+1)=False:=eq_false (by omega)
def Yo9:(N+1+1+1+1+1+1+1+1+1+1+1+1+1+1=N)=False:=eq_false (by omega)
def Ypr:(N+1+1+1+1+1+1+1+1+1+1+1+1+1+1<N)=False:=eq_false (by omega)
def Ype:(N=N+1+1+1+1+1+1+1+1+1+1+1+1+1+1+1)=False:=eq_false (by omega)
def Yo8:(N+1+1+1+1+1+1+1+1+1+1+1+1+1+1+1=N)=False:=eq_false (by omega)
def Ypq:(N+1+1+1+1+1+1+1+1+1+1+1+1+1+1+1<N)=False:=eq_false (by omega)
attribute [simp] Yrj Yra Yr1 Yri Yq9 Yr0 Yrh Yq8 Yrz Yrg Yq7 Yry Yrf Yq6 Yrx Yre Yq5 Yrw Yrd Yq4 Yrv Yrc Yq3 Yru Yrb Yq2 Yrt Ypj Ypd Ypv Ypi Ypc Ypu Yph Ypb Ypt Ypg Ypa Yps Ypf Yo9 Ypr Ype Yo8 Ypq
def Yrs:(N<N+1)=True:=eq_true (by omega)
def Yrr:(N<N+1+1)=True:=eq_true (by omega)
def Yrq:(N<N+1+1+1)=True:=eq_true (by omega)
def Yrp:(N<N+1+1+1+1)=True:=eq_true (by omega)
def Yro:(N<N+1+1+1+1+1)=True:=eq_true (by omega)
def Yrn:(N<N+1+1+1+1+1+1)=True:=eq_true (by omega)
def Yrm:(N<N+1+1+1+1+1+1+1)=True:=eq_true (by omega)
def Yrl:(N<N+1+1+1+1+1+1+1+1)=True:=eq_true (by omega)
def Yrk:(N<N+1+1+1+1+1+1+1+1+1)=True:=eq_true (by omega)
def Ypp:(N<N+1+1+1+1+1+1+1+1+1+1)=True:=eq_true (by omega)
def Ypo:(N<N+1+1+1+1+1+1+1+1+1+1+1)=True:=eq_true (by omega)
def Ypn:(N<N+1+1+1+1+1+1+1+1+1+1+1+1)=True:=eq_true (by omega)
def Ypm:(N<N+1+1+1+1+1+1+1+1+1+1+1+1+1)=True:=eq_true (by omega)
def Ypl:(N<N+1+1+1+1+1+1+1+1+1+1+1+1+1+1)=True:=eq_true (by omega)
def Ypk:(N<N+1+1+1+1+1+1+1+1+1+1+1+1+1+1+1)=True:=eq_true (by omega)
attribute [simp] Yrs Yrr Yrq Yrp Yro Yrn Yrm Yrl Yrk Ypp Ypo Ypn Ypm Ypl Ypk
def Call.eq{C:Cx}{g:V}{args:List V}{st ax:St}{u:V}(h:Call C g args st (fun v s=>v=u/\s=ax)):C.call g args st=some (u,ax):=by
 obtain⟨v,s,e,rfl,rfl⟩:=h.ex
 exact e
def Fn.pure{C:Cx}{f:Nat}{args:List V}{h:T O}{u:V}{P:V->T O->Nat->Prop}(e:∀w,C.call (.func f [] []) args ⟨h,N,w⟩=some (u,⟨h,N,w⟩))(p:P u h N):Fn C f args h N P:=fun w=>⟨⟨u,⟨h,N,w⟩,e w,rfl,ad.refl,p⟩⟩
def Zpw{C:Cx}{K:List Kf}{Q:Rs->Prop}{fr:Fr}{st:St}{i j:Nat}(h:¬j=i):bD C (.block i::K) (some (.ex (.exit j) fr st)) Q↔bD C K (some (.ex (.exit j) fr st)) Q:=Zpx (by
 cases hb:Nat.beq j i with
 |false=>rfl
 |true=>exact absurd (M4 hb) h)
attribute [simp] Zpw
def cN:List Int->Int
 |[]=>0
 |e::l=>if e=0 then cN l else e
def eA{α:Type}{l:List α}(h:k<l.length):∃d,l[k]?=some d:=⟨_,dT h⟩
def Qk(c:UInt8):jz c=decide (48<=cJ c/\cJ c<=57):=by
 unfold jz cJ;rw[decide_eq_decide];omega
def mZ(k:Nat):List V:=(List.range 256).map fun i=>.bool (decide (48<=i/\i<48+k))
def yh(k:Nat):(mZ k).length=256:=by simp[mZ]
def Hd{i:Nat}(hi:i<256):(mZ k)[i]?=some (.bool (decide (48<=i/\i<48+k))):=by simp[mZ,hi]
def Zwt(k:Nat):(mZ k).all V.one=true:=by simp[mZ,V.one]
def Yhc(hk:k<10):ag (mZ k) (48+k) [.bool true]=mZ (k+1):=by
 apply nX
 intro j
 unfold ag
 rw[qs,List.getElem?_append,jH,yh,nU (by omega)]
 by_cases h1:j<48+k
 ·rw[aJ h1,kg,aJ h1,Hd (by omega),Hd (by omega)]
  congr 3;rw[eq_iff_iff];omega
 ·rw[aq h1]
  by_cases h2:j=48+k
  ·subst h2
   rw[Hd (by omega)]
   simp
  ·rw[show j-(48+k)=(j-(48+k)-1)+1 by omega]
   simp only[Nc,BP,gk,xA]
   rw[show 48+k+1+(j-(48+k)-1)=j by omega]
   by_cases h3:j<256
   ·rw[Hd h3,Hd h3];congr 3;rw[eq_iff_iff];omega
   ·rw[jC (by rw[yh];omega),jC (by rw[yh];omega)]
def Yd1(k:Nat):(mZ k).take 256=mZ k:=gI (by rw[yh];omega)
def Yhb(j k:Nat):ag (mZ j) 0 (mZ k)=mZ k:=by
 unfold ag;rw[yh,w_ (by rw[yh];omega)];simp
attribute [simp] yh Zwt Yd1 Yhb
def cF(s:aU):Bool:=s.all jz
def TR:aU:=[48,49,50,51,52,53,54,55,56,57]
def Ygt(hk:k<10):∃c,TR[k]?=some c/\cJ c=48+k:=by
 have:k=0\/k=1\/k=2\/k=3\/k=4\/k=5\/k=6\/k=7\/k=8\/k=9:=by omega
 rcases this with rfl|rfl|rfl|rfl|rfl|rfl|rfl|rfl|rfl|rfl<;>exact⟨_,rfl,rfl⟩
def zN{n:Int}(h1:0<=n)(h2:n<256):bb .u8 n=n:=by
 rw[xF]
 simp[IntKind.wrap,IntKind.bits,IntKind.signed]
 omega
def JY{n:Int}(h1: -9223372036854775808<=n)(h2:n<9223372036854775808):IntKind.wrap .i64 n=n:=by
 simp[IntKind.wrap,IntKind.bits,IntKind.signed]
 omega
def JF(l:aU)(c:UInt8):aD (l++[c])=10*aD l+(c.toNat-48):=by simp[aD]
def Ql{c:UInt8}(h:s[k]?=some c):aD (s.take (k+1))=10*aD (s.take k)+(c.toNat-48):=by
 rw[CP,h]
 simp only[Option.toList,JF]
def Hz(h:cF s=true){k:Nat}{c:UInt8}(hc:s[k]?=some c):48<=cJ c/\cJ c<=57:=by
 unfold cF at h
 rw[sJ]at h
 have:=h c (fW hc)
 rw[Qk]at this
 simpa using this
def Mo{s:aU}(h:cF s=true):∀k,k<=s.length->aD (s.take k)<10^k
 |0,_=>by simp[aD]
 |k+1,hk=>by
  obtain⟨c,hc⟩:=eA (l:=s) (k:=k) (by omega)
  have h1:=Mo h k (by omega)
  have h2:=Hz h hc
  unfold cJ at h2
  rw[Ql hc,fv]
  omega
def zO(h:cF s=true):aD s<10^s.length:=by
 have:=Mo h s.length (aR _)
 rwa [yN]at this
def Mp{a b:Nat}(h:a<=b):10^a<=10^b:=nY (by decide) h
def Yhd(h:k<9223372036854775808):pn .and .i64 (k:Int) 1=some (.int .i64 ((k%2:Nat):Int)):=by
 show some (V.int .i64 (IntKind.wrap .i64 (BitVec.ofInt 64 (k:Int)&&& BitVec.ofInt 64 1).toNat))=_
 have e:(BitVec.ofInt 64 1).toNat=2^1-1:=by decide
 rw[BitVec.toNat_and,Od k (by omega),e,Nat.and_two_pow_sub_one_eq_mod,JY (by omega) (by omega)]
def Ye0:wD .shr .i64 (k:Int) 1=some (.int .i64 ((k/2:Nat):Int)):=by
 unfold wD
 have e:min (1:Int).toNat (IntKind.bits .i64)=1:=by decide
 rw[aq (by decide),e]
 simp only[ak,V.int.injEq,true_and]
 rw[Int.fdiv_eq_ediv_of_nonneg _ (by decide)]
 rfl
variable {N i:Nat} {h:T O} {k v:V}
def ad.new{h1:T O}{n n1:Nat}(k:ad h n h1 n1)(o:O):ad h n (h1.set n1 o) (n1+1):=(k.set k.le).up (wC _)
abbrev F8(C:Cx)(f:V)(args:List V)(h:T O)(n:Nat)(P:V->T O->Nat->Prop):Prop:=∀w,Call C f args ⟨h,n,w⟩ (aA P h n w)
def Rk{C:Cx}{f args h n w P K Q}(hf:F8 C f args h n P)(k:∀v h' n',ad h n h' n'->P v h' n'->bD C K (some (.val v ⟨h',n',w⟩)) Q):bD C K (qi (C.call f args ⟨h,n,w⟩)) Q:=
 zK (hf w) fun v ax=>by
  obtain⟨h',n',w'⟩:=ax
  rintro⟨rfl,hk,hp⟩
  exact k v h' n' hk hp
def F8.pure{C:Cx}{f:V}{args:List V}{u:V}{P:V->T O->Nat->Prop}(e:∀w,C.call f args ⟨h,N,w⟩=some (u,⟨h,N,w⟩))(p:P u h N):F8 C f args h N P:=fun w=>⟨⟨u,⟨h,N,w⟩,e w,rfl,ad.refl,p⟩⟩
def vg(p:Nat->Bool)(k:Nat):Nat->Int
 |0=> -1
 |m+1=>if p k=true then (k:Int) else vg p (k+1) m
def XG{p:Nat->Bool}:∀{m k:Nat},(0<=vg p k m↔∃j,k<=j/\j<k+m/\p j=true)
 |0,k=>by simp[vg];intro j h1 h2;omega
 |m+1,k=>by
  simp only[vg]
  by_cases h:p k=true
  ·rw[aJ h];exact⟨fun _=>⟨k,aR _,by omega,h⟩,fun _=>by omega⟩
  ·rw[aq h,XG (m:=m) (k:=k+1)]
   constructor
   ·rintro⟨j,h1,h2,h3⟩;exact⟨j,by omega,by omega,h3⟩
   ·rintro⟨j,h1,h2,h3⟩
    refine⟨j,?_,by omega,h3⟩
    have:j≠k:=fun hj=>h (hj▸h3)
    omega
def Ey(v:V):Prop:=v=.aa\/v=.empty\/∃i o n c z,v=.slice i o n c z
def Sl.form{l:List V}(s:Sl h N v l):Ey v:=by
 rcases s with⟨_,h|h⟩|⟨i,o,cp,c,e,rw,h,_⟩
 ·exact .inl h
 ·exact .inr (.inl h)
 ·exact .inr (.inr ⟨_,_,_,_,_,h⟩)
def Ey.one(h:Ey v):V.one v=true:=by
 rcases h with rfl|rfl|⟨_,_,_,_,_,rfl⟩<;>rfl
def Ey.cells(h:Ey v):V.cells v=[v]:=by
 rcases h with rfl|rfl|⟨_,_,_,_,_,rfl⟩<;>rfl
def jV(l:List aU):List V:=l.map .str
def F4(l:List aU):(jV l).length=l.length:=by simp[jV]
def HV{l:List aU}{j:Nat}{n:aU}(h:l[j]?=some n):(jV l)[j]?=some (.str n):=by simp[jV,h]
attribute [simp] F4
def Yqm(s:zP)(wS:V):List V:=[.str s.name,.str s.op,.str s.Ez,wS,.int .i64 s.cost]
def Gr(h:T O)(N:Nat)(v:V)(g:List zP):Prop:=∃l:List (List V),Sn 5 h N v l/\l.length=g.length/\∀(j:Nat) (s:zP),g[j]?=some s->∃wS,l[j]?=some (Yqm s wS)/\Sl h N wS (jV s.m7)
def Gr.at{g:List zP}(s:Gr h N v g){j:Nat}{x:zP}(hj:g[j]?=some x):∃i o c e rw wS,y8 v=some (i,o)/\i<N/\h.get i=some (.cells c e rw)/\aM c (o+j*5) 5=some (Yqm x wS)/\Sl h N wS (jV x.m7):=by
 obtain⟨l,h1,h2,h3⟩:=s
 obtain⟨wS,h4,h5⟩:=h3 j x hj
 obtain⟨i,o,c,e,rw,q1,q2,q3,q4⟩:=h1.at h4
 exact⟨i,o,c,e,rw,wS,q1,q2,q3,q4,h5⟩
def Gr.slice{g:List zP}{w:List Nat}(s:Gr h N v g){lo hi:Nat}(h1:lo<=hi)(h2:hi<=g.length)(x y:Option V)(hx:x=some (.int .i64 lo)\/x=none/\lo=0)(hy:y=some (.int .i64 hi)\/y=none/\hi=g.length):
  ∃v',nN ⟨h,N,w⟩ 5 (some v) (some x) (some y) (some none)=some (v',⟨h,N,w⟩)/\Gr h N v' ((g.take hi).drop lo):=by
 obtain⟨l,g1,g2,g3⟩:=s
 obtain⟨v',e1,e2⟩:=Yac (z:=5) (w:=w) (by decide) g1 h1 (by omega) x y hx (by rw[g2];exact hy)
 refine⟨v',e1,(l.take hi).drop lo,e2,by simp[g2],fun j s hs=>?_⟩
 have hj:lo+j<hi:=by
  apply qZ;intro hc
  rw[gk,kg,aq (by omega)]at hs;cases hs
 rw[gk,kg,aJ hj]at hs
 obtain⟨wS,q1,q2⟩:=g3 _ s hs
 exact⟨wS,by rw[gk,kg,aJ hj];exact q1,q2⟩
def Yo0{a b c d e:V}:aM [a,b,c,d,e] 0 5=some [a,b,c,d,e]:=rfl
def Yo1{a b:V}:aM [a,b] 0 2=some [a,b]:=rfl
attribute [simp] Yo0 Yo1
def TS(st:St)(zero:V)(ok:Bool):Option (Option (Nat×V))->Option (V×St)
 |some (some (_,v))=>some (if ok then .aY [v,.bool true] else v,st)
 |some none=>some (if ok then .aY [zero,.bool false] else zero,st)
 |none=>none
def Oe(st:St)(kd:jN)(zero:V)(ok:Bool)(k:V):Option O->Option (V×St)
 |some (.map es)=>TS st zero ok (eP kd k es 0)
 |_=>none
def TT(st:St)(kd:jN)(zero:V)(ok:Bool):Option V->Option V->Option (V×St)
 |some (.map i),some k=>if kd.fits k=true then Oe st kd zero ok k (st.h.get i) else none
 |some .bL,some k=>if kd.fits k=true then TS st zero ok (some none) else none
 |_,_=>none
def Ztk{kd:jN}{zero:V}{m k:Src}{ok:Bool}{call:cH}{r:T V}{st:St}:DM kd zero m k ok call r st=TT st kd zero ok (m.ev r) (k.ev r):=by
 unfold DM TT
 rcases m.ev r with _|m
 ·rfl
 ·rcases k.ev r with _|k
  ·cases m<;>rfl
  ·cases m<;>simp only[]<;>(try (by_cases hf:kd.fits k=true<;>simp[hf]))<;>try rfl
   ·rename_i i
    rcases st.h.get i with _|o
    ·rfl
    ·cases o<;>simp only[Oe]
     rename_i es
     rcases eP kd k es 0 with _|_|⟨_,_⟩<;>rfl
def Yb7{st:St}{zero:V}{ok:Bool}{s:aU}:TT st .str zero ok (some (.map i)) (some (.str s))=Oe st .str zero ok (.str s) (st.h.get i):=rfl
def Zt5{st:St}{kd:jN}{zero:V}{ok:Bool}{es:List (V×V)}:Oe st kd zero ok k (some (.map es))=TS st zero ok (eP kd k es 0):=rfl
attribute [simp] Ztk Yb7 Zt5 GI
def TU(st:St)(i:Nat)(k v:V)(es:List (V×V)):Option (Option (Nat×V))->Option (V×St)
 |some (some (j,_))=>some (.aY [],st.write i (.map (es.set j (k,v))))
 |some none=>some (.aY [],st.write i (.map (es++[(k,v)])))
 |none=>none
def Of(st:St)(kd:jN)(i:Nat)(k v:V):Option O->Option (V×St)
 |some (.map es)=>TU st i k v es (eP kd k es 0)
 |_=>none
def yi(st:St)(kd:jN):Option V->Option V->Option V->Option (V×St)
 |some (.map i),some k,some v=>if kd.fits k=true then Of st kd i k v (st.h.get i) else none
 |_,_,_=>none
def Ztj{kd:jN}{m k v:Src}{call:cH}{r:T V}{st:St}:BX kd m k v call r st=yi st kd (m.ev r) (k.ev r) (v.ev r):=by
 unfold BX yi
 rcases m.ev r with _|m
 ·rfl
 ·rcases k.ev r with _|k
  ·cases m<;>rfl
  ·rcases v.ev r with _|v
   ·cases m<;>rfl
   ·cases m with
    |map i=>
     simp only[]
     by_cases hf:kd.fits k=true
     ·simp only[hf,if_true]
      rcases st.h.get i with _|o
      ·rfl
      ·cases o<;>simp only[Of]
       rename_i es
       rcases eP kd k es 0 with _|_|⟨_,_⟩<;>rfl
     ·simp[hf]
    |_=>rfl
def Ybm{st:St}{s:aU}:yi st .str (some (.map i)) (some (.str s)) (some v)=Of st .str i (.str s) v (st.h.get i):=rfl
def Zts{st:St}{kd:jN}{es:List (V×V)}:Of st kd i k v (some (.map es))=TU st i k v es (eP kd k es 0):=rfl
def Zxw{st:St}{es:List (V×V)}:TU st i k v es (some none)=some (.aY [],st.write i (.map (es++[(k,v)]))):=rfl
attribute [simp] Ztj Ybm Zts Zxw
def ad.then{h h1 h2:T O}{n n1 n2:Nat}(a:ad h n h1 n1)(b:ad h1 n h2 n2):ad h n h2 n2:=⟨b.le,fun i hi=>(b.get i hi).trans (a.get i hi)⟩
def nQ(l:List Int):List (List V):=l.map fun x=>[.int .i64 x]
def A3(l:List Int):(nQ l).length=l.length:=by simp[nQ]
def TV:∀(l:List Int),(nQ l).flatten=dI l
 |[]=>rfl
 |x::l=>by
  have:=TV l
  simp only[nQ,km,List.flatten_cons,dI]at this ⊢
  rw[this];rfl
def Cn(l:List Int)(x:Int):nQ (l++[x])=nQ l++[[.int .i64 x]]:=by simp[nQ]
def Own.sl{e:TypeId}{N0:Nat}{h:T O}{N:Nat}{v:V}{l:List Int}(s:Own 1 e N0 h N v (nQ l)):Sl h N v (dI l):=by
 have:=s.sn
 have e1:nQ l=(dI l).map fun x=>[x]:=by simp[nQ,dI]
 rw[e1]at this
 exact Sn.one.1 this
structure Yqt (g:List zP):Prop where
 le:g.length<=16
 name:∀(j:Nat) (s:zP),g[j]?=some s->j<=pos (g.take j) s.name
 wS:∀(j:Nat) (s:zP),g[j]?=some s->∀n∈s.m7,pos (g.take j) n<j
 cost:∀s∈g,1<=s.cost/\s.cost<=1000
def Ymu{h:T O}{N:Nat}{w:List Nat}{v:V}{l:List V}(s:Sl h N v l):iQ ⟨h,N,w⟩ 1 v=some (l.length,l):=by
 rcases s with⟨rfl,rfl|rfl⟩|⟨i,o,cp,c,e,rw,rfl,h2,h3,h4,h5,h6⟩
 ·rfl
 ·rfl
 ·simp only[iQ,if_true,St.row,h3,se]
  have:aM c o l.length=some l:=by
   unfold aM
   rw[aJ h5]
   congr 1
   apply nX
   intro j
   rw[kg]
   by_cases hj:j<l.length
   ·rw[aJ hj,gk];exact h4 j hj
   ·rw[aq hj,jC (by omega)]
  rw[this]
def Sl.setInt{h:T O}{N:Nat}{v:V}{l:List Int}{i:Nat}{c0 c1:List V}{e0 e1:TypeId}{w0 w1:Bool}(s:Sl h N v (dI l))(hr:h.get i=some (.cells c0 e0 w0))(hn:∀x∈c0,∀k n,x≠.int k n)(hc:c1.length=c0.length):Sl (h.set i (.cells c1 e1 w1)) N v (dI l):=by
 rcases s with s|⟨j,o,cp,c,e,rw,h1,h2,h3,h4,h5,h6⟩
 ·exact .inl s
 ·by_cases hj:j=i
  ·subst hj
   rw[hr]at h3
   simp only[ak,O.cells.injEq]at h3
   obtain⟨rfl,rfl,rfl⟩:=h3
   cases l with
   |nil=>exact .inr ⟨j,o,cp,c1,e1,w1,h1,h2,by rw[T.ai];simp,fun k hk=>by simp[dI]at hk,by rw[hc];exact h5,h6⟩
   |cons d l=>
    have:=h4 0 (by simp[dI])
    simp only[dI,km,zq]at this
    exact absurd rfl (hn _ (fW this) .i64 d)
  ·exact .inr ⟨j,o,cp,c,e,rw,h1,h2,by rw[T.ai,aq hj];exact h3,h4,h5,h6⟩
end Go.Mx
