/-Long division by digits to the base 10^9-/
import Derived.Test.YteoackkadadmdaaGreatDoorMxWord
import Derived.Test.YteoackkadadmdaaGreatDoorProg
set_option linter.all false
namespace Go.Mx
open Go
variable {w:List Int}
def Uh{P u1 u2 U' v1 v2 V' t r:Int}(hP:0<P)(B8:0<=U')(fu:0<=u2)(xO:0<=u1)(nK:0<v1)(jt:0<=v2)(wQ:0<=V')(B9:V'<P)(h0:0<=t)(ht:t<=1000000000)(hinv:u1=t*v1+r)(hc:t*v2<=r*1000000000+u2):
  (t-1)*(V'+P*(v2+1000000000*v1))<=U'+P*(u2+1000000000*u1):=by
 by_cases oG:t=0
 ·subst oG
  have h1:0<=P*(v2+1000000000*v1):=wL (by omega) (by omega)
  have h2:0<=P*(u2+1000000000*u1):=wL (by omega) (by omega)
  omega
 ·have h1:(t-1)*V'<=1000000000*P:=by
   have:(t-1)*V'<=1000000000*V':=Dr (by omega) wQ
   omega
  have h2:P*1<=P*v1:=qt (by omega) (by omega)
  have h3:P*(t*v2)<=P*(r*1000000000+u2):=qt hc (by omega)
  have h4:0<=P*v2:=wL (by omega) jt
  have h5:(t-1)*(V'+P*(v2+1000000000*v1))=(t-1)*V'+P*(t*v2)-P*v2+1000000000*(P*(t*v1))-1000000000*(P*v1):=by grind
  have h6:U'+P*(u2+1000000000*u1)=U'+P*(r*1000000000+u2)+1000000000*(P*(t*v1)):=by subst hinv;grind
  omega
def Ynv{P u1 u2 U' v1 v2 V' t r:Int}(hP:0<P)(B8:U'<P)(wQ:0<=V')(h0:0<=t)(hinv:u1=t*v1+r)(hc:r*1000000000+u2<t*v2):
  U'+P*(u2+1000000000*u1)<t*(V'+P*(v2+1000000000*v1)):=by
 have h1:0<=t*V':=wL h0 wQ
 have h3:P*(r*1000000000+u2+1)<=P*(t*v2):=qt (by omega) (by omega)
 have h5:t*(V'+P*(v2+1000000000*v1))=t*V'+P*(t*v2)+1000000000*(P*(t*v1)):=by grind
 have h6:U'+P*(u2+1000000000*u1)=U'+P*(r*1000000000+u2+1)-P+1000000000*(P*(t*v1)):=by subst hinv;grind
 omega
def Ycs{x:Int}(h1:1<=x)(h2:x<1000000000):500000000<=x*(1000000000/(x+1)):=by
 have hd:(x+1)*(1000000000/(x+1))+1000000000%(x+1)=1000000000:=Dv ..
 have hr:1000000000%(x+1)<x+1:=Dw _ (by omega)
 have eC:0<=1000000000%(x+1):=Dy _ (by omega)
 generalize 1000000000/(x+1)=d at*
 generalize 1000000000%(x+1)=r at*
 have e:(x+1)*d=x*d+d:=by grind
 apply Dt
 intro hc
 by_cases hx:x<=500000000
 ·have h3:500000000-x+1<=d:=by omega
  have h4:x*(500000000-x+1)<=x*d:=qt h3 (by omega)
  have h5:0<=(x-1)*(500000000-x):=wL (by omega) (by omega)
  have h6:(x-1)*(500000000-x)=x*(500000000-x+1)-500000000:=by grind
  omega
 ·have h3:1<=d:=by
   apply Dt;intro h
   have:d<=0:=by omega
   have:(x+1)*d<=0:=Int.mul_nonpos_of_nonneg_of_nonpos (by omega) this
   omega
  have h4:x*1<=x*d:=qt h3 (by omega)
  omega
def Ui{m:Nat}(h:∀t,m<=t->t<w.length->w[t]?=some 0):vI w=vI (w.take m):=by
 by_cases hm:m<=w.length
 ·have h1:=Kk w m hm
  have h2:w.drop m=List.replicate (w.length-m) 0:=by
   apply nD
   intro t
   rw[fh,List.getElem?_replicate]
   by_cases ht:t<w.length-m
   ·rw[aF ht];exact h _ (by omega) (by omega)
   ·rw[ar ht];exact fC (by omega)
  rw[h2,Ua]at h1
  omega
 ·rw[eZ (by omega)]
def Ylh{k:Nat}{a c d:Int}(ha:w[k]?=some a)(hc:w[k+1]?=some c)(hd:w[k+2]?=some d)(hz:∀t,k+3<=t->t<w.length->w[t]?=some 0):
  vI w=vI (w.take k)+pI k*(a+1000000000*(d*1000000000+c)):=by
 rw[Ui hz,show k+3=(k+2)+1 by omega,yx hd,yx hc,yx ha,uO (k+1),uO k]
 grind
def Yli{k:Nat}{a c:Int}(ha:w[k]?=some a)(hc:w[k+1]?=some c)(hl:w.length=k+2):
  vI w=vI (w.take k)+pI k*(a+1000000000*c):=by
 have h1:vI w=vI (w.take (k+1+1)):=by rw[eZ (by omega)]
 rw[h1,yx hc,yx ha,uO k]
 grind
def Ygd{n:Nat}{t:Int}(hd:Di (w.take n))(ht:w[n]?=some t)(hz:∀j,n<j->j<w.length->w[j]?=some 0)(h1:vI w<pI n):(0<=vI w->t=0)/\(vI w<0->t<0):=by
 have hl:=j_ ht
 have h2:vI w=vI (w.take n)+pI n*t:=by
  rw[Ui (m:=n+1) (fun j h1 h2=>hz j (by omega) h2),yx ht]
 have h3:=uP hd
 have h4:=uQ hd
 rw[gm,py (by omega)]at h4
 have h5:=B4 n
 constructor
 ·intro h
  have h6:¬t<= -1:=fun hc=>by
   have:=qt hc (tO h5)
   omega
  have h7:¬1<=t:=fun hc=>by
   have:=qt hc (tO h5)
   omega
  omega
 ·intro h
  apply Iq
  intro hc
  have:=wL (tO h5) hc
  omega
variable {N k:Nat} {s:aQ}
def Yu0:(N=N+1)=False:=eq_false (by omega)
def Yur:(N+1=N)=False:=eq_false (by omega)
def Yvi:(N+1<N)=False:=eq_false (by omega)
def Yuz:(N=N+1+1)=False:=eq_false (by omega)
def Yuq:(N+1+1=N)=False:=eq_false (by omega)
def Yvh:(N+1+1<N)=False:=eq_false (by omega)
def Yuy:(N=N+1+1+1)=False:=eq_false (by omega)
def Yup:(N+1+1+1=N)=False:=eq_false (by omega)
def Yvg:(N+1+1+1<N)=False:=eq_false (by omega)
def Yux:(N=N+1+1+1+1)=False:=eq_false (by omega)
def Yuo:(N+1+1+1+1=N)=False:=eq_false (by omega)
def Yvf:(N+1+1+1+1<N)=False:=eq_false (by omega)
def Yuw:(N=N+1+1+1+1+1)=False:=eq_false (by omega)
def Yun:(N+1+1+1+1+1=N)=False:=eq_false (by omega)
def Yve:(N+1+1+1+1+1<N)=False:=eq_false (by omega)
def Yuv:(N=N+1+1+1+1+1+1)=False:=eq_false (by omega)
def Yum:(N+1+1+1+1+1+1=N)=False:=eq_false (by omega)
def Yvd:(N+1+1+1+1+1+1<N)=False:=eq_false (by omega)
def Yuu:(N=N+1+1+1+1+1+1+1)=False:=eq_false (by omega)
def Yul:(N+1+1+1+1+1+1+1=N)=False:=eq_false (by omega)
def Yvc:(N+1+1+1+1+1+1+1<N)=False:=eq_false (by omega)
def Yut:(N=N+1+1+1+1+1+1+1+1)=False:=eq_false (by omega)
def Yuk:(N+1+1+1+1+1+1+1+1=N)=False:=eq_false (by omega)
def Yvb:(N+1+1+1+1+1+1+1+1<N)=False:=eq_false (by omega)
def Yus:(N=N+1+1+1+1+1+1+1+1+1)=False:=eq_false (by omega)
def Yuj:(N+1+1+1+1+1+1+1+1+1=N)=False:=eq_false (by omega)
def Yva:(N+1+1+1+1+1+1+1+1+1<N)=False:=eq_false (by omega)
def Ys7:(N=N+1+1+1+1+1+1+1+1+1+1)=False:=eq_false (by omega)
def Ys1:(N+1+1+1+1+1+1+1+1+1+1=N)=False:=eq_false (by omega)
def Ytj:(N+1+1+1+1+1+1+1+1+1+1<N)=False:=eq_false (by omega)
def Ys6:(N=N+1+1+1+1+1+1+1+1+1+1+1)=False:=eq_false (by omega)
def Ys0:(N+1+1+1+1+1+1+1+1+1+1+1=N)=False:=eq_false (by omega)
def Yti:(N+1+1+1+1+1+1+1+1+1+1+1<N)=False:=eq_false (by omega)
def Ys5:(N=N+1+1+1+1+1+1+1+1+1+1+1+1)=False:=eq_false (by omega)
def Ysz:(N+1+1+1+1+1+1+1+1+1+1+1+1=N)=False:=eq_false (by omega)
def Yth:(N+1+1+1+1+1+1+1+1+1+1+1+1<N)=False:=eq_false (by omega)
def Ys4:(N=N+1+1+1+1+1+1+1+1+1+1+1+1+1)=False:=eq_false (by omega)
def Ysy:(N+1+1+1+1+1+1+1+1+1+1+1+1+1=N)=False:=eq_false (by omega)
def Ytg:(N+1+1+1+1+1+1+1+1+1+1+1+1+1<N)=False:=eq_false (by omega)
def Ys3:(N=N+1+1+1+1+1+1+1+1+1+1+1+1+1+1)=False:=eq_false (by omega)
def Ysx:(N+1+1+1+1+1+1+1+1+1+1+1+1+1+1=N)=False:=eq_false (by omega)
def Ytf:(N+1+1+1+1+1+1+1+1+1+1+1+1+1+1<N)=False:=eq_false (by omega)
def Ys2:(N=N+1+1+1+1+1+1+1+1+1+1+1+1+1+1+1)=False:=eq_false (by omega)
def Ysw:(N+1+1+1+1+1+1+1+1+1+1+1+1+1+1+1=N)=False:=eq_false (by omega)
def Yte:(N+1+1+1+1+1+1+1+1+1+1+1+1+1+1+1<N)=False:=eq_false (by omega)
attribute [simp] Yu0 Yur Yvi Yuz Yuq Yvh Yuy Yup Yvg Yux Yuo Yvf Yuw Yun Yve Yuv Yum Yvd Yuu Yul Yvc Yut Yuk Yvb Yus Yuj Yva Ys7 Ys1 Ytj Ys6 Ys0 Yti Ys5 Ysz Yth Ys4 Ysy Ytg Ys3 Ysx Ytf Ys2 Ysw Yte
def Yu9:(N<N+1)=True:=eq_true (by omega)
def Yu8:(N<N+1+1)=True:=eq_true (by omega)
def Yu7:(N<N+1+1+1)=True:=eq_true (by omega)
def Yu6:(N<N+1+1+1+1)=True:=eq_true (by omega)
def Yu5:(N<N+1+1+1+1+1)=True:=eq_true (by omega)
def Yu4:(N<N+1+1+1+1+1+1)=True:=eq_true (by omega)
def Yu3:(N<N+1+1+1+1+1+1+1)=True:=eq_true (by omega)
def Yu2:(N<N+1+1+1+1+1+1+1+1)=True:=eq_true (by omega)
def Yu1:(N<N+1+1+1+1+1+1+1+1+1)=True:=eq_true (by omega)
def Ytd:(N<N+1+1+1+1+1+1+1+1+1+1)=True:=eq_true (by omega)
def Ytc:(N<N+1+1+1+1+1+1+1+1+1+1+1)=True:=eq_true (by omega)
def Ytb:(N<N+1+1+1+1+1+1+1+1+1+1+1+1)=True:=eq_true (by omega)
def Yta:(N<N+1+1+1+1+1+1+1+1+1+1+1+1+1)=True:=eq_true (by omega)
def Ys9:(N<N+1+1+1+1+1+1+1+1+1+1+1+1+1+1)=True:=eq_true (by omega)
def Ys8:(N<N+1+1+1+1+1+1+1+1+1+1+1+1+1+1+1)=True:=eq_true (by omega)
attribute [simp] Yu9 Yu8 Yu7 Yu6 Yu5 Yu4 Yu3 Yu2 Yu1 Ytd Ytc Ytb Yta Ys9 Ys8
def Call.eq{C:Cx}{g:V}{args:List V}{st aB:St}{u:V}(h:Call C g args st (fun v s=>v=u/\s=aB)):C.call g args st=some (u,aB):=by
 obtain⟨v,s,e,rfl,rfl⟩:=h.ex
 exact e
def Zq7{C:Cx}{K:List Kf}{Q:Rs->Prop}{fr:Fr}{st:St}{i j:Nat}(h:¬j=i):bH C (.block i::K) (some (.ex (.exit j) fr st)) Q↔bH C K (some (.ex (.exit j) fr st)) Q:=Zq8 (by
 cases hb:Nat.beq j i with
 |false=>rfl
 |true=>exact absurd (Ou hb) h)
attribute [simp] Zq7
def bK:List Int->Int
 |[]=>0
 |e::l=>if e=0 then bK l else e
def bp{α:Type}{l:List α}(h:k<l.length):∃d,l[k]?=some d:=⟨_,cZ h⟩
def Uj(c:UInt8):jU c=decide (48<=cK c/\cK c<=57):=by
 unfold jU cK;rw[decide_eq_decide];omega
def nL(k:Nat):List V:=(List.range 256).map fun i=>.bool (decide (48<=i/\i<48+k))
def zw(k:Nat):(nL k).length=256:=by simp[nL]
def IE{i:Nat}(hi:i<256):(nL k)[i]?=some (.bool (decide (48<=i/\i<48+k))):=by simp[nL,hi]
def ZX(k:Nat):(nL k).all V.one=true:=by simp[nL,V.one]
def Yjn(hk:k<10):ad (nL k) (48+k) [.bool true]=nL (k+1):=by
 apply nD
 intro j
 unfold ad
 rw[tL,List.getElem?_append,gm,zw,py (by omega)]
 by_cases h1:j<48+k
 ·rw[aF h1,iy,aF h1,IE (by omega),IE (by omega)]
  congr 3;rw[eq_iff_iff];omega
 ·rw[ar h1]
  by_cases h2:j=48+k
  ·subst h2
   rw[IE (by omega)]
   simp
  ·rw[show j-(48+k)=(j-(48+k)-1)+1 by omega]
   simp only[Ox,Dq,fh,zk]
   rw[show 48+k+1+(j-(48+k)-1)=j by omega]
   by_cases h3:j<256
   ·rw[IE h3,IE h3];congr 3;rw[eq_iff_iff];omega
   ·rw[fC (by rw[zw];omega),fC (by rw[zw];omega)]
def Yfk(k:Nat):(nL k).take 256=nL k:=eZ (by rw[zw];omega)
def Yjm(j k:Nat):ad (nL j) 0 (nL k)=nL k:=by
 unfold ad;rw[zw,yd (by rw[zw];omega)];simp
attribute [simp] zw ZX Yfk Yjm
def cH(s:aQ):Bool:=s.all jU
def Uk:aQ:=[48,49,50,51,52,53,54,55,56,57]
def Yi2(hk:k<10):∃c,Uk[k]?=some c/\cK c=48+k:=by
 have:k=0\/k=1\/k=2\/k=3\/k=4\/k=5\/k=6\/k=7\/k=8\/k=9:=by omega
 rcases this with rfl|rfl|rfl|rfl|rfl|rfl|rfl|rfl|rfl|rfl<;>exact⟨_,rfl,rfl⟩
def AY{n:Int}(h1:0<=n)(h2:n<256):bu .u8 n=n:=by
 rw[zq]
 simp[IntKind.wrap,IntKind.bits,IntKind.signed]
 omega
def Kl{n:Int}(h1: -9223372036854775808<=n)(h2:n<9223372036854775808):IntKind.wrap .i64 n=n:=by
 simp[IntKind.wrap,IntKind.bits,IntKind.signed]
 omega
def Km(l:aQ)(c:UInt8):aH (l++[c])=10*aH l+(c.toNat-48):=by simp[aH]
def Ul{c:UInt8}(h:s[k]?=some c):aH (s.take (k+1))=10*aH (s.take k)+(c.toNat-48):=by
 rw[tE,h]
 simp only[Option.toList,Km]
def Kn(h:cH s=true){k:Nat}{c:UInt8}(hc:s[k]?=some c):48<=cK c/\cK c<=57:=by
 unfold cH at h
 rw[lA]at h
 have:=h c (cm hc)
 rw[Uj]at this
 simpa using this
def OF{s:aQ}(h:cH s=true):∀k,k<=s.length->aH (s.take k)<10^k
 |0,_=>by simp[aH]
 |k+1,hk=>by
  obtain⟨c,hc⟩:=bp (l:=s) (k:=k) (by omega)
  have h1:=OF h k (by omega)
  have h2:=Kn h hc
  unfold cK at h2
  rw[Ul hc,gE]
  omega
def AZ(h:cH s=true):aH s<10^s.length:=by
 have:=OF h s.length (aW _)
 rwa [wo]at this
def OG{a b:Nat}(h:a<=b):10^a<=10^b:=sK (by decide) h
def Yjo(h:k<9223372036854775808):qx .and .i64 (k:Int) 1=some (.int .i64 ((k%2:Nat):Int)):=by
 show some (V.int .i64 (IntKind.wrap .i64 (BitVec.ofInt 64 (k:Int)&&& BitVec.ofInt 64 1).toNat))=_
 have e:(BitVec.ofInt 64 1).toNat=2^1-1:=by decide
 rw[BitVec.toNat_and,OH k (by omega),e,Nat.and_two_pow_sub_one_eq_mod,Kl (by omega) (by omega)]
def Ygp:yq .shr .i64 (k:Int) 1=some (.int .i64 ((k/2:Nat):Int)):=by
 unfold yq
 have e:min (1:Int).toNat (IntKind.bits .i64)=1:=by decide
 rw[ar (by decide),e]
 simp only[al,V.int.injEq,true_and]
 rw[Int.fdiv_eq_ediv_of_nonneg _ (by decide)]
 rfl
variable {N i:Nat} {h:T O} {k v:V}
def ab.new{h1:T O}{n n1:Nat}(k:ab h n h1 n1)(o:O):ab h n (h1.set n1 o) (n1+1):=(k.set k.le).up (uz _)
abbrev jR(C:Cx)(f:V)(args:List V)(h:T O)(n:Nat)(P:V->T O->Nat->Prop):Prop:=∀w,Call C f args ⟨h,n,w⟩ (az P h n w)
def Ca{C:Cx}{f args h n w P K Q}(hf:jR C f args h n P)(k:∀v h' n',ab h n h' n'->P v h' n'->bH C K (some (.val v ⟨h',n',w⟩)) Q):bH C K (rX (C.call f args ⟨h,n,w⟩)) Q:=
 zy (hf w) fun v aB=>by
  obtain⟨h',n',w'⟩:=aB
  rintro⟨rfl,hk,hp⟩
  exact k v h' n' hk hp
def nH(p:Nat->Bool)(k:Nat):Nat->Int
 |0=> -1
 |m+1=>if p k=true then (k:Int) else nH p (k+1) m
def ZY{p:Nat->Bool}:∀{m k:Nat},(0<=nH p k m↔∃j,k<=j/\j<k+m/\p j=true)
 |0,k=>by simp[nH];intro j h1 h2;omega
 |m+1,k=>by
  simp only[nH]
  by_cases h:p k=true
  ·rw[aF h];exact⟨fun _=>⟨k,aW _,by omega,h⟩,fun _=>by omega⟩
  ·rw[ar h,ZY (m:=m) (k:=k+1)]
   constructor
   ·rintro⟨j,h1,h2,h3⟩;exact⟨j,by omega,by omega,h3⟩
   ·rintro⟨j,h1,h2,h3⟩
    refine⟨j,?_,by omega,h3⟩
    have:j≠k:=fun hj=>h (hj▸h3)
    omega
def Gd(v:V):Prop:=v=.aa\/v=.empty\/∃i o n c z,v=.slice i o n c z
def Sl.form{l:List V}(s:Sl h N v l):Gd v:=by
 rcases s with⟨_,h|h⟩|⟨i,o,cp,c,e,rw,h,_⟩
 ·exact .inl h
 ·exact .inr (.inl h)
 ·exact .inr (.inr ⟨_,_,_,_,_,h⟩)
def Gd.one(h:Gd v):V.one v=true:=by
 rcases h with rfl|rfl|⟨_,_,_,_,_,rfl⟩<;>rfl
def Gd.cells(h:Gd v):V.cells v=[v]:=by
 rcases h with rfl|rfl|⟨_,_,_,_,_,rfl⟩<;>rfl
def strs(l:List aQ):List V:=l.map .str
def tD(l:List aQ):(strs l).length=l.length:=by simp[strs]
def DM{l:List aQ}{j:Nat}{n:aQ}(h:l[j]?=some n):(strs l)[j]?=some (.str n):=by simp[strs,h]
attribute [simp] tD
def Um(s:wS)(qC:V):List V:=[.str s.name,.str s.op,.str s.Ge,qC,.int .i64 s.cost]
def Gr(h:T O)(N:Nat)(v:V)(g:List wS):Prop:=∃l:List (List V),Sn 5 h N v l/\l.length=g.length/\∀(j:Nat) (s:wS),g[j]?=some s->∃qC,l[j]?=some (Um s qC)/\Sl h N qC (strs s.kj)
def Gr.ae{h':T O}{N':Nat}{g:List wS}(s:Gr h N v g)(k:ab h N h' N'):Gr h' N' v g:=by
 obtain⟨l,h1,h2,h3⟩:=s
 refine⟨l,h1.ae k,h2,fun j s hs=>?_⟩
 obtain⟨qC,h4,h5⟩:=h3 j s hs
 exact⟨qC,h4,h5.ae k⟩
def Gr.at{g:List wS}(s:Gr h N v g){j:Nat}{x:wS}(hj:g[j]?=some x):∃i o c e rw qC,wB v=some (i,o)/\i<N/\h.get i=some (.cells c e rw)/\aE c (o+j*5) 5=some (Um x qC)/\Sl h N qC (strs x.kj):=by
 obtain⟨l,h1,h2,h3⟩:=s
 obtain⟨qC,h4,h5⟩:=h3 j x hj
 obtain⟨i,o,c,e,rw,q1,q2,q3,q4⟩:=h1.at h4
 exact⟨i,o,c,e,rw,qC,q1,q2,q3,q4,h5⟩
def Gr.slice{g:List wS}{w:List Nat}(s:Gr h N v g){lo hi:Nat}(h1:lo<=hi)(h2:hi<=g.length)(x y:Option V)(hx:x=some (.int .i64 lo)\/x=none/\lo=0)(hy:y=some (.int .i64 hi)\/y=none/\hi=g.length):
  ∃v',mB ⟨h,N,w⟩ 5 (some v) (some x) (some y) (some none)=some (v',⟨h,N,w⟩)/\Gr h N v' ((g.take hi).drop lo):=by
 obtain⟨l,g1,g2,g3⟩:=s
 obtain⟨v',e1,e2⟩:=Z0 (z:=5) (w:=w) (by decide) g1 h1 (by omega) x y hx (by rw[g2];exact hy)
 refine⟨v',e1,(l.take hi).drop lo,e2,by simp[g2],fun j s hs=>?_⟩
 have hj:lo+j<hi:=by
  apply sM;intro hc
  rw[fh,iy,ar (by omega)]at hs;cases hs
 rw[fh,iy,aF hj]at hs
 obtain⟨qC,q1,q2⟩:=g3 _ s hs
 exact⟨qC,by rw[fh,iy,aF hj];exact q1,q2⟩
def Yso{a b c d e:V}:aE [a,b,c,d,e] 0 5=some [a,b,c,d,e]:=rfl
def Ysp{a b:V}:aE [a,b] 0 2=some [a,b]:=rfl
attribute [simp] Yso Ysp
def Un(st:St)(zero:V)(ok:Bool):Option (Option (Nat×V))->Option (V×St)
 |some (some (_,v))=>some (if ok then .bg [v,.bool true] else v,st)
 |some none=>some (if ok then .bg [zero,.bool false] else zero,st)
 |none=>none
def OI(st:St)(kd:kc)(zero:V)(ok:Bool)(k:V):Option O->Option (V×St)
 |some (.map es)=>Un st zero ok (fb kd k es 0)
 |_=>none
def Uo(st:St)(kd:kc)(zero:V)(ok:Bool):Option V->Option V->Option (V×St)
 |some (.map i),some k=>if kd.fits k=true then OI st kd zero ok k (st.h.get i) else none
 |some .bW,some k=>if kd.fits k=true then Un st zero ok (some none) else none
 |_,_=>none
def Zut{kd:kc}{zero:V}{m k:Src}{ok:Bool}{call:cG}{r:T V}{st:St}:F6 kd zero m k ok call r st=Uo st kd zero ok (m.ev r) (k.ev r):=by
 unfold F6 Uo
 rcases m.ev r with _|m
 ·rfl
 ·rcases k.ev r with _|k
  ·cases m<;>rfl
  ·cases m<;>simp only[]<;>(try (by_cases hf:kd.fits k=true<;>simp[hf]))<;>try rfl
   ·rename_i i
    rcases st.h.get i with _|o
    ·rfl
    ·cases o<;>simp only[OI]
     rename_i es
     rcases fb kd k es 0 with _|_|⟨_,_⟩<;>rfl
def Ydi{st:St}{zero:V}{ok:Bool}{s:aQ}:Uo st .str zero ok (some (.map i)) (some (.str s))=OI st .str zero ok (.str s) (st.h.get i):=rfl
def Zvf{st:St}{kd:kc}{zero:V}{ok:Bool}{es:List (V×V)}:OI st kd zero ok k (some (.map es))=Un st zero ok (fb kd k es 0):=rfl
attribute [simp] Zut Ydi Zvf Iw
def Up(st:St)(i:Nat)(k v:V)(es:List (V×V)):Option (Option (Nat×V))->Option (V×St)
 |some (some (j,_))=>some (.bg [],st.write i (.map (es.set j (k,v))))
 |some none=>some (.bg [],st.write i (.map (es++[(k,v)])))
 |none=>none
def OJ(st:St)(kd:kc)(i:Nat)(k v:V):Option O->Option (V×St)
 |some (.map es)=>Up st i k v es (fb kd k es 0)
 |_=>none
def zz(st:St)(kd:kc):Option V->Option V->Option V->Option (V×St)
 |some (.map i),some k,some v=>if kd.fits k=true then OJ st kd i k v (st.h.get i) else none
 |_,_,_=>none
def Zus{kd:kc}{m k v:Src}{call:cG}{r:T V}{st:St}:DJ kd m k v call r st=zz st kd (m.ev r) (k.ev r) (v.ev r):=by
 unfold DJ zz
 rcases m.ev r with _|m
 ·rfl
 ·rcases k.ev r with _|k
  ·cases m<;>rfl
  ·rcases v.ev r with _|v
   ·cases m<;>rfl
   ·cases m with
    |map i=>
     simp only[]
     by_cases hf:kd.fits k=true
     ·simp only[hf,if_true]
      rcases st.h.get i with _|o
      ·rfl
      ·cases o<;>simp only[OJ]
       rename_i es
       rcases fb kd k es 0 with _|_|⟨_,_⟩<;>rfl
     ·simp[hf]
    |_=>rfl
def Ycw{st:St}{s:aQ}:zz st .str (some (.map i)) (some (.str s)) (some v)=OJ st .str i (.str s) v (st.h.get i):=rfl
def Zu2{st:St}{kd:kc}{es:List (V×V)}:OJ st kd i k v (some (.map es))=Up st i k v es (fb kd k es 0):=rfl
def Zy2{st:St}{es:List (V×V)}:Up st i k v es (some none)=some (.bg [],st.write i (.map (es++[(k,v)]))):=rfl
attribute [simp] Zus Ycw Zu2 Zy2
def ab.then{h h1 h2:T O}{n n1 n2:Nat}(a:ab h n h1 n1)(b:ab h1 n h2 n2):ab h n h2 n2:=⟨b.le,fun i hi=>(b.get i hi).trans (a.get i hi)⟩
def o_(l:List Int):List (List V):=l.map fun x=>[.int .i64 x]
def Cc(l:List Int):(o_ l).length=l.length:=by simp[o_]
def Uq:∀(l:List Int),(o_ l).flatten=dI l
 |[]=>rfl
 |x::l=>by
  have:=Uq l
  simp only[o_,my,List.flatten_cons,dI]at this ⊢
  rw[this];rfl
def DN(l:List Int)(x:Int):o_ (l++[x])=o_ l++[[.int .i64 x]]:=by simp[o_]
def Own.sl{e:TypeId}{N0:Nat}{h:T O}{N:Nat}{v:V}{l:List Int}(s:Own 1 e N0 h N v (o_ l)):Sl h N v (dI l):=by
 have:=s.sn
 have e1:o_ l=(dI l).map fun x=>[x]:=by simp[o_,dI]
 rw[e1]at this
 exact Sn.one.1 this
structure Yua (g:List wS):Prop where
 le:g.length<=16
 name:∀(j:Nat) (s:wS),g[j]?=some s->j<=pos (g.take j) s.name
 qC:∀(j:Nat) (s:wS),g[j]?=some s->∀n∈s.kj,pos (g.take j) n<j
 cost:∀s∈g,1<=s.cost/\s.cost<=1000
variable {N:Nat} {h:T O}
def Cp(h:T O)(N:Nat)(v:V)(l:List V):Prop:=∃j c,v=.slice j 0 l.length c 1/\j<N/\h.get j=some (.cells l 9 true)/\∀k,c=some k->l.length<=k
def Cp.ae{h':T O}{N':Nat}{v:V}{l:List V}(s:Cp h N v l)(k:ab h N h' N'):Cp h' N' v l:=by
 obtain⟨j,c,h1,h2,h3,h4⟩:=s
 exact⟨j,c,h1,fE h2 k.le,(k.get j h2).trans h3,h4⟩
def Yp4{w:List Nat}{v:V}{l:List V}(s:Sl h N v l):eD ⟨h,N,w⟩ 1 v=some (l.length,l):=by
 rcases s with⟨rfl,rfl|rfl⟩|⟨i,o,cp,c,e,rw,rfl,h2,h3,h4,h5,h6⟩
 ·rfl
 ·rfl
 ·simp only[eD,if_true,St.row,h3,yc]
  have:aE c o l.length=some l:=by
   unfold aE
   rw[aF h5]
   congr 1
   apply nD
   intro j
   rw[iy]
   by_cases hj:j<l.length
   ·rw[aF hj,fh];exact h4 j hj
   ·rw[ar hj,fC (by omega)]
  rw[this]
def Ur(h:T O)(N0 N:Nat)(u:V)(g:List wS)(k:Nat):Prop:=∃l:List (List V),Own 5 126 N0 h N u l/\l.length=k/\∀(j:Nat) (s:wS),j<k->g[j]?=some s->∃qC,l[j]?=some (Um s qC)/\Cp h N qC (strs s.kj)
def Ur.ae{h':T O}{N0 N':Nat}{u:V}{g:List wS}{k:Nat}(s:Ur h N0 N u g k)(kk:ab h N h' N'):Ur h' N0 N' u g k:=by
 obtain⟨l,h1,h2,h3⟩:=s
 refine⟨l,h1.ae kk,h2,fun j s hj hs=>?_⟩
 obtain⟨qC,h4,h5⟩:=h3 j s hj hs
 exact⟨qC,h4,h5.ae kk⟩
def Sl.setInt{h:T O}{N:Nat}{v:V}{l:List Int}{i:Nat}{c0 c1:List V}{e0 e1:TypeId}{w0 w1:Bool}(s:Sl h N v (dI l))(hr:h.get i=some (.cells c0 e0 w0))(hn:∀x∈c0,∀k n,x≠.int k n)(hc:c1.length=c0.length):Sl (h.set i (.cells c1 e1 w1)) N v (dI l):=by
 rcases s with s|⟨j,o,cp,c,e,rw,h1,h2,h3,h4,h5,h6⟩
 ·exact .inl s
 ·by_cases hj:j=i
  ·subst hj
   rw[hr]at h3
   simp only[al,O.cells.injEq]at h3
   obtain⟨rfl,rfl,rfl⟩:=h3
   cases l with
   |nil=>exact .inr ⟨j,o,cp,c1,e1,w1,h1,h2,by rw[T.ag];simp,fun k hk=>by simp[dI]at hk,by rw[hc];exact h5,h6⟩
   |cons d l=>
    have:=h4 0 (by simp[dI])
    simp only[dI,my,AL]at this
    exact absurd rfl (hn _ (cm this) .i64 d)
  ·exact .inr ⟨j,o,cp,c,e,rw,h1,h2,by rw[T.ag,ar hj];exact h3,h4,h5,h6⟩
open Go Go.Proofs
set_option maxRecDepth 1000000
noncomputable abbrev A.F(n:Nat):=x_ Tryz.prog n
def mv(a b:Nat):dt:=⟨some a,.ba (.tmp b),none⟩
def mc(a:Nat)(n:Int):dt:=⟨some a,.ba (.const (.int .i64 n)),none⟩
def ia(a z x i:Nat):dt:=⟨some a,.aU z (.tmp x) (.tmp i),none⟩
def ld(a x:Nat):dt:=⟨some a,.load none (.tmp x),none⟩
def xt(a x i:Nat):dt:=⟨some a,.extract (.tmp x) i,none⟩
def bi(a:Nat)(o:BinOp)(x y:Nat):dt:=⟨some a,.bin o (.node []) false (.tmp x) (.tmp y),none⟩
def bc(a:Nat)(o:BinOp)(x:Nat)(n:Int):dt:=⟨some a,.bin o (.node []) false (.tmp x) (.const (.int .i64 n)),none⟩
def ln(a x:Nat):dt:=⟨some a,.len 1 (.tmp x),none⟩
def so(a x:Nat):dt:=⟨none,.store 1 (.tmp a) (.tmp x),none⟩
def c1(a f x:Nat):dt:=⟨some a,.call (.const (.func f [] [])) [.tmp x],none⟩
def c2(a f x y:Nat):dt:=⟨some a,.call (.const (.func f [] [])) [.tmp x,.tmp y],none⟩
def lN(a n x:Nat):dt:=⟨some a,.load (some n) (.tmp x),none⟩
def fa(a o x:Nat):dt:=⟨some a,.eI o (.tmp x),none⟩
def pf(a x y:Nat):dt:=⟨some a,.pick (.tmp x) (.tmp y) (.const (.bool false)),none⟩
def pt(a x y:Nat):dt:=⟨some a,.pick (.tmp x) (.const (.bool true)) (.tmp y),none⟩
def ei(a x:Nat)(n:Int):dt:=⟨some a,.bin .eql (.aM .int) true (.tmp x) (.const (.int .i64 n)),none⟩
def ni(a x:Nat)(n:Int):dt:=⟨some a,.bin .neq (.aM .int) true (.tmp x) (.const (.int .i64 n)),none⟩
def mN(a:Nat):dt:=⟨some a,.ba (.const .aa),none⟩
def bx(a e x:Nat):dt:=⟨some a,.box e (.tmp x),none⟩
def mg(a x g:Nat):dt:=⟨some a,.ba (.tmp x),some (g,true)⟩
def mh(a x g:Nat):dt:=⟨some a,.ba (.tmp x),some (g,false)⟩
def sr(l:List dt)(c:av):av:=.seq (.aR l) c
def cd(x:Nat)(a b:av):av:=.cond (.tmp x) a b
def ge(a:Nat)(o:fX):dt:=⟨some a,o,none⟩
def gn(o:fX):dt:=⟨none,o,none⟩
def gy(a g:Nat)(o:fX):dt:=⟨some a,o,some (g,true)⟩
def gz(a g:Nat)(o:fX):dt:=⟨some a,o,some (g,false)⟩
abbrev tq(x:Nat):Src:=.tmp x
abbrev kq(n:Int):Src:=.const (.int .i64 n)
abbrev fq(f:Nat):Src:=.const (.func f [] [])
attribute [simp] AL Dq mv mc ia ld xt bi bc ln so c1 c2 lN fa pf pt ei ni mN bx mg mh sr cd ge gn gy gz
def A.Ko:O:=.cells (([1,10,100,1000,10000,100000,1000000,10000000,100000000,1000000000,10000000000,100000000000,1000000000000,10000000000000,100000000000000,1000000000000000,10000000000000000,100000000000000000,1000000000000000000,10000000000000000000]:List Int).map fun z=>.int .u64 z) 286 false
def A.TB:List (Nat×O):=[(5,A.Ko)]
noncomputable def A.C:Cx:=⟨IF A.TB [⟨7,[],.bool true⟩],x_ Tryz.prog⟩
def A.t:A.C.dG=x_ Tryz.prog:=rfl
def A.x0{f:Nat}{a c args:List V}{st:St}(h:Nat.beq 7 f=false):A.C.x (.func f a c) args st=none:=by
 show IF A.TB [⟨7,[],.bool true⟩] (.func f a c) args st=none
 unfold IF
 split
 ·rename_i heq
  simp only[V.func.injEq]at heq
  obtain⟨rfl,rfl,rfl⟩:=heq
  simp only[IG,h]
 ·rfl
def A.kk{n k:Nat}{res:List Df}{b:av}(hc:x_ Tryz.prog n=some ⟨k,res,b⟩)(hx:Nat.beq 7 n=false){K:List Kf}{Q:Rs->Prop}{f c args:List V}{st:St}(h:(f++args++c).length<=k):bH A.C K (rX (A.C.call (.func n f c) args st)) Q↔bH A.C (.fin res st::K) (eH (A.C.code none b ⟨yw .nil 0 (f++args++c),k,[]⟩ ⟨st.h,st.n,[]⟩)) Q:=Ygy (A.x0 (f:=n) hx) (mf:=⟨k,res,b⟩) (by rw[A.t];exact hc) h
def A.known{h:T O}{N:Nat}{w:List Nat}(hp:h.get 5=some A.Ko):A.C.call (.func 7 [] []) [] ⟨h,N,w⟩=some (.bool true,⟨h,N,w⟩):=by
 have hq:IH (h.get 5) A.Ko=true:=by rw[hp];decide+kernel
 have hi:DO ⟨h,N,w⟩ A.TB=true:=by
  show (match IH (h.get 5) A.Ko with|true=>true|false=>false)=true
  rw[hq]
 have hx:A.C.x (.func 7 [] []) [] ⟨h,N,w⟩=some (.bool true,⟨h,N,w⟩):=by
  show (match DO ⟨h,N,w⟩ A.TB with|true=>some (V.bool true,(⟨h,N,w⟩:St))|false=>none)=_
  rw[hi]
 rw[Cx.mw]
 unfold rP
 rw[hx]
variable {s:aQ}
def A.na:av:=.seq (sr [mv 4 3,mv 5 0,ge 6 (.len 0 (tq 5)),bi 7 .lss 4 6]
 (cd 7
 (.skip)
 (.exit 0)))
 (.seq (.block 1 (sr [mv 10 0,mv 11 3,ge 12 (.aZ (tq 10) (tq 11)),ge 13 (.bin .eql (.aM .int) true (tq 12) (.const (.int .u8 47)))]
 (cd 13
 (sr [mv 14 3,mv 2 14]
 (.ret))
 (.skip))))
 (.aR [mv 8 3,bc 9 .add 8 1,mv 3 9]))
def A.b116:av:=sr [mc 2 0]
 (.seq (sr [mc 3 0]
 (.block 0 (.loop A.na)))
 (sr [mv 15 0,ge 16 (.len 0 (tq 15)),mv 2 16]
 (.ret)))
def A.c116:A.F 116=some ⟨17,[.tmp 2],A.b116⟩:=by kernel_rfl
def A.k116:=@A.kk 116 _ _ _ A.c116 rfl
def A.jJ:av:=.seq (sr [mv 4 3,mv 5 0,ge 6 (.len 0 (tq 5)),bi 7 .lss 4 6]
 (cd 7
 (.skip)
 (.exit 0)))
 (.seq (.block 1 (sr [mv 10 0,mv 11 3,ge 12 (.aZ (tq 10) (tq 11)),ge 13 (.bin .lss (.node []) false (tq 12) (.const (.int .u8 48))),mv 14 13,mh 15 0 14,mh 16 3 14,gz 17 14 (.aZ (tq 15) (tq 16)),gz 18 14 (.bin .gtr (.node []) false (tq 17) (.const (.int .u8 57))),pt 19 14 18]
 (cd 19
 (sr [ge 2 (.ba (.const (.bool false)))]
 (.ret))
 (.skip))))
 (.aR [mv 8 3,bc 9 .add 8 1,mv 3 9]))
def A.b172:av:=sr [ge 2 (.ba (.const (.bool false)))]
 (.seq (sr [mc 3 0]
 (.block 0 (.loop A.jJ)))
 (sr [ge 2 (.ba (.const (.bool true)))]
 (.ret)))
def A.c172:A.F 172=some ⟨20,[.tmp 2],A.b172⟩:=by kernel_rfl
def A.k172:=@A.kk 172 _ _ _ A.c172 rfl
def A.b117:av:=sr [ge 2 (.ba (.const (.bool false)))]
 (.seq (sr [mv 3 0,ge 4 (.len 0 (tq 3)),ei 5 4 0,mv 6 5,mh 7 0 6,gz 8 6 (.len 0 (tq 7)),gz 9 6 (.bin .gtr (.node []) false (tq 8) (kq 1)),mh 10 9 6,mg 11 0 10,gy 12 10 (.aZ (tq 11) (kq 0)),gy 13 10 (.bin .eql (.aM .int) true (tq 12) (.const (.int .u8 48))),gz 14 6 (.pick (tq 10) (tq 13) (.const (.bool false))),pt 15 6 14]
 (cd 15
 (sr [ge 2 (.ba (.const (.bool false)))]
 (.ret))
 (.skip)))
 (sr [mv 16 0,c1 17 172 16,mv 2 17]
 (.ret)))
def A.c117:A.F 117=some ⟨18,[.tmp 2],A.b117⟩:=by kernel_rfl
def A.k117:=@A.kk 117 _ _ _ A.c117 rfl
def A.qZ:av:=.seq (sr [mv 5 4,mv 6 0,ge 7 (.len 0 (tq 6)),bi 8 .lss 5 7]
 (cd 8
 (.skip)
 (.exit 0)))
 (.seq (.block 1 (.aR [mv 11 3,ge 12 (.bin .mul (.node []) false (kq 10) (tq 11)),mv 13 0,mv 14 4,ge 15 (.aZ (tq 13) (tq 14)),ge 16 (.bj .i64 (tq 15)),bi 17 .add 12 16,bc 18 .sub 17 48,mv 3 18]))
 (.aR [mv 9 4,bc 10 .add 9 1,mv 4 10]))
def A.b219:av:=sr [mc 2 0]
 (sr [mc 3 0]
 (.seq (sr [mc 4 0]
 (.block 0 (.loop A.qZ)))
 (sr [mv 19 3,mv 2 19]
 (.ret))))
def A.c219:A.F 219=some ⟨20,[.tmp 2],A.b219⟩:=by kernel_rfl
def A.k219:=@A.kk 219 _ _ _ A.c219 rfl
def EF{st:St}(hl:s.length<4611686018427387904):A.C.call (.func 116 [] []) [.str s] st=some (.int .i64 (ah s:Nat),st):=by
 apply Call.eq
 rw[aO,A.k116 (by simp)]
 simp(disch:=first|(simp;done)|omega|rfl) [-getElem?_pos,A.b116]
 refine bP [(2,14)] (fun e r s1=>s1=⟨st.h,st.n,[]⟩/\((e=.exit 0/\ah s=s.length)\/(e=.ret/\r.get 2=some (.int .i64 (ah s:Nat))))) (fun m r s1=>s1=⟨st.h,st.n,[]⟩/\∃k,k+m=s.length/\r.get 3=some (.int .i64 k)/\ah s=k+ah (s.drop k)) s.length ?_ ?_ ?_
 ·exact⟨rfl,0,by omega,by simp,by simp⟩
 ·rintro m r _ hr hf ⟨rfl,k,hk,h3,hz⟩
  rw[bq]
  cases m with
  |zero=>
   have:k=s.length:=by omega
   subst this
   rw[mm,ah]at hz
   simp(disch:=first|(simp;done)|omega|rfl) [-getElem?_pos,A.na,hr,hf,h3]
   omega
  |succ m=>
   obtain⟨c,hc⟩:=bp (l:=s) (k:=k) (by omega)
   have bR:(k:Int)<(s.length:Int):=by omega
   have hk2:k<s.length:=by omega
   rw[jq hc,ah]at hz
   by_cases h47:cK c=47
   ·rw[aF (by unfold cK at h47;omega)]at hz
    simp(disch:=first|(simp;done)|omega|rfl) [-getElem?_pos,A.na,hr,hf,h3,bR,hc,h47]
    rw[hz];simp
   ·rw[ar (by unfold cK at h47;omega)]at hz
    simp(disch:=first|(simp;done)|omega|rfl) [-getElem?_pos,A.na,hr,hf,h3,bR,hc,h47]
    exact⟨m,by omega,k+1,by omega,by simp,by omega⟩
 ·rintro e r _ hr ⟨rfl,⟨rfl,hz⟩|⟨rfl,h2⟩⟩
  ·simp(disch:=first|(simp;done)|omega|rfl) [-getElem?_pos,hr,hz]
  ·simp(disch:=first|(simp;done)|omega|rfl) [-getElem?_pos,h2]
def Yeu{st:St}(hl:s.length<4611686018427387904):A.C.call (.func 172 [] []) [.str s] st=some (.bool (cH s),st):=by
 apply Call.eq
 rw[aO,A.k172 (by simp)]
 simp(disch:=first|(simp;done)|omega|rfl) [-getElem?_pos,A.b172]
 refine bP [(2,19)] (fun e r s1=>s1=⟨st.h,st.n,[]⟩/\((e=.exit 0/\cH s=true)\/(e=.ret/\cH s=false/\r.get 2=some (.bool false)))) (fun m r s1=>s1=⟨st.h,st.n,[]⟩/\∃k,k+m=s.length/\r.get 3=some (.int .i64 k)/\cH s=cH (s.drop k)) s.length ?_ ?_ ?_
 ·exact⟨rfl,0,by omega,by simp,by simp⟩
 ·rintro m r _ hr hf ⟨rfl,k,hk,h3,hz⟩
  rw[bq]
  cases m with
  |zero=>
   have:k=s.length:=by omega
   subst this
   rw[mm]at hz
   have hz:cH s=true:=hz
   simp(disch:=first|(simp;done)|omega|rfl) [A.jJ,hr,hf,h3,hz]
  |succ m=>
   obtain⟨c,hc⟩:=bp (l:=s) (k:=k) (by omega)
   have bR:(k:Int)<(s.length:Int):=by omega
   have hk2:k<s.length:=by omega
   have ed:cH s=(jU c&&cH (s.drop (k+1))):=by rw[hz,jq hc];rfl
   rw[Uj]at ed
   by_cases h1:cK c<48
   ·have:¬(48<=cK c/\cK c<=57):=by omega
    rw[decide_eq_false this,BM]at ed
    simp(disch:=first|(simp;done)|omega|rfl) [-getElem?_pos,A.jJ,hr,hf,h3,bR,hc,h1,ed]
   ·by_cases h2:57<cK c
    ·have:¬(48<=cK c/\cK c<=57):=by omega
     rw[decide_eq_false this,BM]at ed
     simp(disch:=first|(simp;done)|omega|rfl) [-getElem?_pos,A.jJ,hr,hf,h3,bR,hc,h1,h2,ed]
    ·have:(48<=cK c/\cK c<=57):=by omega
     rw[decide_eq_true this,Bool.true_and]at ed
     simp(disch:=first|(simp;done)|omega|rfl) [-getElem?_pos,A.jJ,hr,hf,h3,bR,hc,h1,h2]
     exact⟨m,by omega,k+1,by omega,by simp,ed⟩
 ·rintro e r _ hr ⟨rfl,⟨rfl,hz⟩|⟨rfl,hz,h2⟩⟩
  ·simp(disch:=first|(simp;done)|omega|rfl) [-getElem?_pos,hz]
  ·simp(disch:=first|(simp;done)|omega|rfl) [-getElem?_pos,h2,hz]
def MD{s:aQ}{st:St}(hl:s.length<4611686018427387904):A.C.call (.func 117 [] []) [.str s] st=some (.bool (iP s),st):=by
 apply Call.eq
 rw[aO,A.k117 (by simp)]
 cases s with
 |nil=>simp[A.b117,iP]
 |cons c s=>
  have hd:iP (c::s)=(cH (c::s)&&(decide (cK c≠48)||decide (s=[]))):=by
   have:decide (c.toNat≠48)=decide (cK c≠48):=by unfold cK;rw[decide_eq_decide];omega
   simp only[iP,this];rfl
  have Xt:=fun st=>Yeu (s:=c::s) (st:=st) hl
  by_cases h0:s=[]
  ·subst h0
   simp[A.b117,hd,Xt]
  ·have h1:0<s.length:=by
    cases s with
    |nil=>exact absurd rfl h0
    |cons=>simp
   have a1:¬((s.length:Int)+1=0):=by omega
   have a2:(1:Int)<(s.length:Int)+1:=by omega
   have a3:(0:Int)<(s.length:Int):=by omega
   by_cases h48:cK c=48
   ·simp[A.b117,hd,h0,a1,a2,h48]
   ·simp[A.b117,hd,Xt,h0,a1,a2,h48]
def ME{st:St}(hd:cH s=true)(hl:s.length<=18):A.C.call (.func 219 [] []) [.str s] st=some (.int .i64 (aH s:Nat),st):=by
 apply Call.eq
 rw[aO,A.k219 (by simp)]
 simp[A.b219]
 refine bP [(3,18)] (fun e r s1=>s1=⟨st.h,st.n,[]⟩/\e=.exit 0/\r.get 3=some (.int .i64 (aH s:Nat))) (fun m r s1=>s1=⟨st.h,st.n,[]⟩/\∃k,k+m=s.length/\r.get 4=some (.int .i64 k)/\r.get 3=some (.int .i64 (aH (s.take k):Nat))) s.length ?_ ?_ ?_
 ·exact⟨rfl,0,by omega,by simp,by simp[aH]⟩
 ·rintro m r _ hr hf ⟨rfl,k,hk,h4,h3⟩
  rw[bq]
  cases m with
  |zero=>
   have:k=s.length:=by omega
   subst this
   rw[wo]at h3
   simp[A.qZ,hr,hf,h4,h3]
  |succ m=>
   obtain⟨c,hc⟩:=bp (l:=s) (k:=k) (by omega)
   have bR:(k:Int)<(s.length:Int):=by omega
   have hk2:k<s.length:=by omega
   have sX:=Kn hd hc
   have hv:=Ul hc
   have ED:=OF hd k (by omega)
   have pe:=OG (a:=k) (b:=17) (by omega)
   have b3:((aH (s.take (k+1)):Nat):Int)=10*(aH (s.take k):Nat)+cK c-48:=by
    rw[hv];unfold cK at*;omega
   have b4:((aH (s.take k):Nat):Int)<100000000000000000:=by
    have:(10:Nat)^17=100000000000000000:=by decide
    omega
   generalize hy:aH (s.take (k+1))=y at*
   generalize aH (s.take k)=x at*
   simp(disch:=first|(simp;done)|omega|rfl) [-getElem?_pos,A.qZ,hr,hf,h4,h3,bR,hc]
   exact⟨m,by omega,k+1,by omega,by simp,by rw[hy,b3]⟩
 ·rintro e r _ hr ⟨rfl,rfl,h3⟩
  simp[h3]
def A.nb:av:=.seq (sr [mv 3 0,ln 4 3,bc 5 .gtr 4 0,mv 6 5,mg 7 0 6,mg 8 0 6,gy 9 6 (.len 1 (tq 8)),gy 10 6 (.bin .sub (.node []) false (tq 9) (kq 1)),gy 11 6 (.aU 1 (tq 7) (tq 10)),gy 12 6 (.load none (tq 11)),gy 13 6 (.bin .eql (.aM .int) true (tq 12) (kq 0)),pf 14 6 13]
 (cd 14
 (.skip)
 (.exit 0)))
 (.block 1 (.aR [mv 15 0,mv 16 0,ln 17 16,bc 18 .sub 17 1,ge 19 (.cQ 1 (tq 15) none (some (tq 18)) none),mv 0 19]))
def A.b223:av:=sr [mN 2]
 (.seq (.block 0 (.loop A.nb))
 (sr [mv 20 0,mv 2 20]
 (.ret)))
def A.c223:A.F 223=some ⟨21,[.tmp 2],A.b223⟩:=by kernel_rfl
def A.k223:=@A.kk 223 _ _ _ A.c223 rfl
def A.b220:av:=sr [ge 4 (.alloc [.bool false,.aa] 139)]
 (sr [mv 5 1,c1 6 223 5,mv 1 6]
 (sr [mv 7 0,mv 8 7,mg 9 1 8,gy 10 8 (.len 1 (tq 9)),gy 11 8 (.bin .gtr (.node []) false (tq 10) (kq 0)),pf 12 8 11,mv 13 1,ge 14 (.build [.bool false,.aa] [(0,1,(tq 12)),(1,1,(tq 13))]),gn (.store 2 (tq 4) (tq 14))]
 (.ret)))
def A.c220:A.F 220=some ⟨15,[.cell 4 (some 2)],A.b220⟩:=by kernel_rfl
def A.k220:=@A.kk 220 _ _ _ A.c220 rfl
def A.jK:av:=.seq (sr [mv 19 5,bc 20 .geq 19 0]
 (cd 20
 (.skip)
 (.exit 0)))
 (.seq (.block 1 (.seq (.seq (.aX [mv 23 0,mv 24 5,ia 25 1 23 24,ld 26 25,mv 27 1,mv 28 5,ia 29 1 27 28,ld 30 29,bi 31 .lss 26 30] [0,0,3,7,0,0,48,112,255])
 (cd 31
 (sr [ge 4 (.ba (.const (.int .i64 (-1))))]
 (.ret))
 (.skip)))
 (.seq (.aX [mv 32 0,mv 33 5,ia 34 1 32 33,ld 35 34,mv 36 1,mv 37 5,ia 38 1 36 37,ld 39 38,bi 40 .gtr 35 39] [0,0,3,7,0,0,48,112,255])
 (cd 40
 (sr [mc 4 1]
 (.ret))
 (.skip)))))
 (.aR [mv 21 5,bc 22 .sub 21 1,mv 5 22]))
def A.b221:av:=sr [mc 4 0]
 (.seq (sr [mv 6 0,ln 7 6,mv 8 1,ln 9 8,ge 10 (.bin .neq (.aM .int) false (tq 7) (tq 9))]
 (cd 10
 (.seq (sr [mv 11 0,ln 12 11,mv 13 1,ln 14 13,bi 15 .lss 12 14]
 (cd 15
 (sr [ge 4 (.ba (.const (.int .i64 (-1))))]
 (.ret))
 (.skip)))
 (sr [mc 4 1]
 (.ret)))
 (.skip)))
 (.seq (sr [mv 16 0,ln 17 16,bc 18 .sub 17 1,mv 5 18]
 (.block 0 (.loop A.jK)))
 (sr [mc 4 0]
 (.ret))))
def A.c221:A.F 221=some ⟨41,[.tmp 4],A.b221⟩:=by kernel_rfl
def A.k221:=@A.kk 221 _ _ _ A.c221 rfl
def A.q8:av:=.seq (sr [mv 16 8,bc 17 .geq 16 0]
 (cd 17
 (.skip)
 (.exit 0)))
 (.seq (.block 1 (sr [mv 20 7,bc 21 .mul 20 1000000000,mv 22 0,mv 23 8,ia 24 1 22 23,ld 25 24,bi 26 .add 21 25,mv 9 26]
 (sr [mv 27 6,mv 28 8,mv 29 9,mv 30 1,bi 31 .quo 29 30,ia 32 1 27 28,so 32 31]
 (.aR [mv 33 9,mv 34 1,bi 35 .rem 33 34,mv 7 35]))))
 (.aR [mv 18 8,bc 19 .sub 18 1,mv 8 19]))
def A.b222:av:=sr [mN 4,mc 5 0]
 (sr [mv 10 0,ln 11 10,ge 12 (.bY 3 1 8 [.int .i64 0] (tq 11) (tq 11)),mv 6 12]
 (sr [mc 7 0]
 (.seq (sr [mv 13 0,ln 14 13,bc 15 .sub 14 1,mv 8 15]
 (.block 0 (.loop A.q8)))
 (sr [mv 36 6,c1 37 223 36,mv 38 7,mv 4 37,mv 5 38]
 (.ret)))))
def A.c222:A.F 222=some ⟨39,[.tmp 4,.tmp 5],A.b222⟩:=by kernel_rfl
def A.k222:=@A.kk 222 _ _ _ A.c222 rfl
def Hp{h:T O}{N:Nat}{v:V}{l:List Int}(hs:Sl h N v (dI l))(hl:l.length<1152921504606846976):Fn A.C 223 [v] h N (fun v' h' N'=>Sl h' N' v' (dI (qz l))):=by
 intro w
 rw[aO,A.k223 (by simp)]
 simp[A.b223]
 refine bP [(0,0),(3,19)] (fun e r st=>e=.exit 0/\st=⟨h,N,[]⟩/\∃u,r.get 0=some u/\Sl h N u (dI (qz l))) (fun m r st=>st=⟨h,N,[]⟩/\m<=l.length/\∃u,r.get 0=some u/\Sl h N u (dI (l.take m))/\qz (l.take m)=qz l) l.length ?_ ?_ ?_
 ·exact⟨rfl,aW _,v,rfl,by rw[wo];exact hs,by rw[wo]⟩
 ·rintro m r _ hr hf ⟨rfl,hm,u,h0,hu,ht⟩
  rw[bq]
  have lu:=hu.len
  rw[gk,gm,py hm]at lu
  cases m with
  |zero=>
   simp[A.nb,hf,h0,lu]
   rw[<-ht];exact hu
  |succ k=>
   obtain⟨d,hd⟩:=bp (l:=l) (k:=k) (by omega)
   have By:(l.take (k+1))[k]?=some d:=by rw[iy,aF (by omega)];exact hd
   obtain⟨i,o,c,e,rw,q1,q2,q3,q4⟩:=hu.at (gl By)
   have e1:l.take (k+1)=l.take k++[d]:=by rw[tE,hd];rfl
   have k1:(0:Int)<(k:Int)+1:=by omega
   have k2:(k:Int)<(k:Int)+1:=by omega
   have k3:(k:Int)+1-1=(k:Int):=by omega
   by_cases hz:d=0
   ·subst hz
    rw[e1,Uf]at ht
    obtain⟨v',x1,x2⟩:=Dj (w:=[]) hu (lo:=0) (hi:=k) (tH _) (by rw[gk,gm];omega) none (some (.int .i64 k)) (.inr ⟨rfl,rfl⟩) (.inl rfl)
    have x3:((dI (l.take (k+1))).take k).drop 0=dI (l.take k):=by
     rw[yk,dI,<-List.map_take,List.take_take,py (by omega)];rfl
    rw[x3]at x2
    simp(disch:=first|(simp;done)|omega|rfl) [A.nb,hf,h0,lu,k1,k3,q1,q3,q4,AG,aC,x1]
    exact⟨k,by omega,by omega,x2,ht⟩
   ·rw[e1,ZV hz,<-e1]at ht
    simp(disch:=first|(simp;done)|omega|rfl) [A.nb,hf,h0,lu,k1,k3,q1,q3,q4,hz]
    rw[<-ht];exact hu
 ·rintro _ r _ hr ⟨rfl,rfl,u,h0,hu⟩
  simp[h0,az]
  exact⟨ab.refl,hu⟩
def Rg(h:T O)(N:Nat)(v:V)(z:Int):Prop:=∃u,v=.agg [.bool (decide (z<0)),u]/\Dn h N u z.natAbs
def xn{h:T O}{N:Nat}{v:V}{l:List Int}{b:Bool}{n:Nat}(hs:Sl h N v (dI l))(hd:Di l)(hn:vI l=n)(hl:l.length<1152921504606846976):Fn A.C 220 [.bool b,v] h N (fun v' h' N'=>Rg h' N' v' (if b=true then -(n:Int) else n)):=by
 intro w
 rw[aO,A.k220 (by simp)]
 simp[A.b220]
 refine aA (Hp (hs.ae (ab.refl.new _)) hl) ?_
 rintro u h1 n1 k1 hu
 rw[Gc hd hn]at hu
 have lu:=hu.len
 rw[gk]at lu
 have vt:=k1.le
 have ak:=k1.get N (by omega)
 simp at ak
 have Bk:=hu.form.one
 have Qn:=hu.form.cells
 unfold V.one at Bk
 unfold V.cells at Qn
 have k0:=(ab.refl (h:=h) (n:=N)).new (.cells [.bool false,.aa] 139 true)
 have kx:=fun o=>((k0.trans k1).set (i:=N) (o:=o) (aW N))
 have fu:=fun c1 (hc:c1.length=2)=>hu.setInt (i:=N) (c1:=c1) (e1:=139) (w1:=true) ak (by intro x hx k m;simp at hx;rcases hx with rfl|rfl<;>simp) hc
 cases b with
 |false=>
  simp[ad,ak,Bk,Qn,bO,aS,aE,az]
  refine⟨kx _,u,?_,?_⟩
  ·have:¬(n:Int)<0:=by omega
   simp
  ·exact fu _ rfl
 |true=>
  by_cases hz:n=0
  ·have fj:(ds n).length=0:=by rw[hz,sO];rfl
   simp[lu,fj,ad,ak,Bk,Qn,bO,aS,aE,az]
   refine⟨kx _,u,?_,?_⟩
   ·simp[hz]
   ·simpa[hz,Dn]using fu _ rfl
  ·have fj:¬(ds n).length=0:=fun hc=>hz (B7.1 (qj hc))
   have D4:(0:Int)<((ds n).length:Int):=by omega
   have kO:0<(ds n).length:=by omega
   have hl3:ds n≠[]:=fun hc=>hz (B7.1 hc)
   simp[lu,kO,ad,ak,Bk,Qn,bO,aS,aE,az]
   refine⟨kx _,u,?_,?_⟩
   ·have: -(n:Int)<0:=by omega
    simp;try omega
   ·simpa[Dn]using fu _ rfl
def tW:∀{b a:Nat},a<=b->(ds a).length<=(ds b).length:=by
 intro b
 induction b using Nat.strongRecOn with
 |_ b ih=>
  intro a h
  by_cases h0:a=0
  ·rw[h0,sO];simp
  ·rw[zv h0,zv (n:=b) (by omega)]
   have:=ih (b/1000000000) (BS (by omega) (by decide)) (a:=a/1000000000) (Nat.div_le_div_right h)
   simp only[bD];omega
def MF{A:List Int}{k:Nat}{x:Int}(hx:A[k]?=some x):vI A=vI (A.take k)+pI k*(x+1000000000*vI (A.drop (k+1))):=by
 have hk:=j_ hx
 rw[Kk A k (by omega),jq hx,vI]
def Yk1{A B:List Int}{k:Nat}{x y:Int}(hA:Di A)(hB:Di B)(hx:A[k]?=some x)(hy:B[k]?=some y)(he:A.drop (k+1)=B.drop (k+1))(PG:x<y):vI A<vI B:=by
 have hk:=j_ hx
 rw[MF hx,MF hy,he]
 have h1:=uQ (hA.take k)
 have h2:=uP (hB.take k)
 rw[gm,py (by omega)]at h1
 have h3:pI k*(x+1000000000*vI (B.drop (k+1))+1)<=pI k*(y+1000000000*vI (B.drop (k+1))):=qt (by omega) (tO (B4 k))
 have h4:pI k*(x+1000000000*vI (B.drop (k+1))+1)=pI k*(x+1000000000*vI (B.drop (k+1)))+pI k:=by grind
 omega
def Bl(a b:Nat):Int:=if a<b then -1 else if b<a then 1 else 0
def Xu{h:T O}{N:Nat}{u v:V}{a b:Nat}{w:List Nat}(hu:Dn h N u a)(hv:Dn h N v b)(hl:(ds a).length<1152921504606846976)(kO:(ds b).length<1152921504606846976):A.C.call (.func 221 [] []) [u,v] ⟨h,N,w⟩=some (.int .i64 (Bl a b),⟨h,N,w⟩):=by
 apply Call.eq
 have lu:=hu.len
 have lv:=hv.len
 rw[gk]at lu lv
 have va:=fZ a
 have vb:=fZ b
 have da:=fT a
 have db:=fT b
 rw[aO,A.k221 (by simp)]
 unfold Bl
 by_cases h1:(ds a).length=(ds b).length
 ·have fH:((ds a).length:Int)=((ds b).length:Int):=by omega
  simp(disch:=omega) [A.b221,lu,lv,h1]
  generalize hA:ds a=X at*
  generalize hB:ds b=Y at*
  refine bP [(4,5),(19,40)] (fun e r st=>st=⟨h,N,[]⟩/\((e=.exit 0/\a=b)\/(e=.ret/\a<b/\r.get 4=some (.int .i64 (-1)))\/(e=.ret/\b<a/\r.get 4=some (.int .i64 1)))) (fun m r st=>st=⟨h,N,[]⟩/\m<=X.length/\r.get 5=some (.int .i64 ((m:Int)-1))/\X.drop m=Y.drop m) X.length ?_ ?_ ?_
  ·exact⟨rfl,aW _,by simp[h1],by rw[mm,h1,mm]⟩
  ·rintro m r _ hr hf ⟨rfl,hm,h5,he⟩
   rw[bq]
   cases m with
   |zero=>
    have:a=b:=by
     simp at he;rw[he]at va;omega
    simp[A.jK,hf,h5,this]
   |succ k=>
    obtain⟨x,hx⟩:=bp (l:=X) (k:=k) (by omega)
    obtain⟨y,hy⟩:=bp (l:=Y) (k:=k) (by omega)
    obtain⟨b1,b2,b3,b4,b5,z1,z2,z3,z4⟩:=Sl.at (show Sl h N u (dI (ds a)) from hu) (by rw[hA];exact gl hx)
    obtain⟨c1,c2,c3,c4,c5,y1,y2,y3,y4⟩:=Sl.at (show Sl h N v (dI (ds b)) from hv) (by rw[hB];exact gl hy)
    have pr:(((k+1:Nat):Int)-1)=(k:Int):=by omega
    rw[pr]at h5
    have bR:(k:Int)<(X.length:Int):=by omega
    have hk2:(k:Int)<(Y.length:Int):=by omega
    have Bc:(0:Int)<=(k:Int):=by omega
    have Xv:k<Y.length:=by omega
    by_cases ay:x<y
    ·have:=Yk1 da db hx hy he ay
     have h_:a<b:=by omega
     simp[A.jK,hr,hf,h5,lu,lv,bR,hk2,Bc,z1,z2,z3,z4,y1,y2,y3,y4,ay,h_]
    ·by_cases IT:y<x
     ·have:=Yk1 db da hy hx he.symm IT
      have h_:b<a:=by omega
      have Hq:¬a<b:=by omega
      simp[A.jK,hr,hf,h5,lu,lv,bR,hk2,Bc,z1,z2,z3,z4,y1,y2,y3,y4,ay,IT,h_,Hq]
     ·have PG:x=y:=by omega
      simp(disch:=first|(simp;done)|omega|rfl) [A.jK,hr,hf,h5,lu,lv,Bc,z1,z2,z3,z4,y1,y2,y3,y4,ay,IT]
      exact⟨k,by omega,by omega,rfl,by rw[jq hx,jq hy,he,PG]⟩
  ·rintro e r _ hr ⟨rfl,⟨rfl,hz⟩|⟨rfl,hz,h4⟩|⟨rfl,hz,h4⟩⟩
   ·simp[hz]
   ·simp[h4,hz]
   ·have:¬a<b:=by omega
    simp[h4,hz,this]
 ·have fH:¬((ds a).length:Int)=((ds b).length:Int):=by omega
  by_cases h2:(ds a).length<(ds b).length
  ·have h_:a<b:=by
    apply sM;intro hc;have:=tW hc;omega
   simp[A.b221,lu,lv,h1,h2,h_]
  ·have h_:b<a:=by
    apply sM;intro hc;have:=tW hc;omega
   have Hq:¬a<b:=by omega
   simp[A.b221,lu,lv,h1,h2,h_,Hq]
structure DdA (h:T O) (N:Nat) (l:List Int) (d:Int) (m:Nat) (r:T V) (st:St):Prop where
 w:ax N st.w=[]
 ae:ab h N st.h (N+1)
 n:st.n=N+1
 r8:r.get 8=some (.int .i64 ((m:Int)-1))
 hm:m<=l.length
 ex:∃out rest,st.h.get N=some (.cells (dI out) 3 true)/\out.length=l.length/\r.get 7=some (.int .i64 rest)/\0<=rest/\rest<d/\Di (out.drop m)/\vI (out.drop m)*d+rest=vI (l.drop m)
def Zof{h:T O}{N:Nat}{v:V}{l:List Int}{d:Int}(hs:Sl h N v (dI l))(hd:Di l)(hl:l.length<1099511627776)(h0:0<d)(h1:d<1000000000):Fn A.C 222 [v,.int .i64 d] h N (fun u h' n'=>∃q,u=.bg [q,.int .i64 ((vI l).toNat%d.toNat:Nat)]/\Dn h' n' q ((vI l).toNat/d.toNat)):=by
 intro w
 have lv:=hs.len
 rw[gk]at lv
 rw[aO,A.k222 (by simp)]
 simp(disch:=first|(simp;done)|omega|rfl) [A.b222,lv]
 refine bP [(7,9),(16,35)] (fun e r st=>e=.exit 0/\DdA h N l d 0 r st) (DdA h N l d) l.length ?_ ?_ ?_
 ·refine⟨by simp,ab.refl.new _,rfl,by simp,aW _,List.replicate l.length 0,0,by simp[Ue],by simp,by simp,by omega,h0,?_,?_⟩
  ·rw[yd (by simp)];exact Di.nil
  ·rw[yd (by simp),mm];simp[vI]
 ·rintro m r ⟨H,n1,W⟩ hr hf ⟨hW,hK,hn,h8,hm,out,rest,ak,gV,h7,eC,yg,iE,hv⟩
  simp only at hW hK hn ak
  subst hn
  rw[bq]
  cases m with
  |zero=>
   simp[A.q8,hf,h8]
   exact⟨hW,hK,rfl,by simpa using h8,hm,out,rest,ak,gV,by simp[h7],eC,yg,iE,hv⟩
  |succ k=>
   obtain⟨x,hx⟩:=bp (l:=l) (k:=k) (by omega)
   obtain⟨b1,b2,b3,b4,b5,z1,z2,z3,z4⟩:=hs.at (gl hx)
   have z3:=(hK.get _ z2).trans z3
   have MG:=hd.get hx
   have pr:(((k+1:Nat):Int)-1)=(k:Int):=by omega
   rw[pr]at h8
   have bR:(k:Int)<(l.length:Int):=by omega
   have hk2:k<l.length:=by omega
   have Bc:(0:Int)<=(k:Int):=by omega
   have w1:bu .i64 (rest*1000000000)=rest*1000000000:=cF (by omega) (by omega)
   have w2:bu .i64 (rest*1000000000+x)=rest*1000000000+x:=cF (by omega) (by omega)
   have s0:0<=rest*1000000000+x:=by omega
   have pE:¬d=0:=by omega
   have t1:(rest*1000000000+x).tdiv d=(rest*1000000000+x)/d:=AK s0
   have t2:(rest*1000000000+x).tmod d=(rest*1000000000+x)%d:=Ds s0
   have t3:=Dv (rest*1000000000+x) d
   have t4:0<=(rest*1000000000+x)/d:=Int.ediv_nonneg s0 (by omega)
   have t5:(rest*1000000000+x)/d<1000000000:=by
    apply Int.ediv_lt_of_lt_mul h0
    omega
   have t6:=Dy (rest*1000000000+x) pE
   have t7:=Dw (rest*1000000000+x) h0
   have w3:bu .i64 ((rest*1000000000+x)/d)=(rest*1000000000+x)/d:=cF (by omega) (by omega)
   have w8:=gk out
   have w7:=AX (l:=out) (k:=k) (v:=(rest*1000000000+x)/d) (by omega)
   simp(disch:=first|(simp;done)|omega|rfl) [A.q8,hr,hf,h8,h7,Bc,lv,z1,z3,z4,w1,w2,w3,t1,t2,ak,w7]
   have e1:(out.set k ((rest*1000000000+x)/d)).drop k=((rest*1000000000+x)/d)::out.drop (k+1):=by
    rw[jq (d:=(rest*1000000000+x)/d) (by rw[iI (by omega)])]
    rw[List.drop_set_of_lt (by omega)]
   generalize (rest*1000000000+x)/d=q at*
   generalize (rest*1000000000+x)%d=r' at*
   refine⟨k,by omega,⟨by simp[ax,hW],hK.set (aW N),rfl,by simp,by omega,out.set k q,r',by simp,by simp[gV],by simp,t6,t7,?_,?_⟩⟩
   ·rw[e1];exact Di.app (Di.one t4 t5) iE
   ·rw[e1,jq hx,vI,vI,<-hv]
    grind
 ·rintro _ r ⟨H,n1,W⟩ hr ⟨rfl,hW,hK,hn,h8,hm,out,rest,ak,gV,h7,eC,yg,iE,hv⟩
  simp only at hW hK hn ak
  subst hn
  rw[yk,yk]at*
  have nO:Sl H (N+1) (.slice N 0 l.length (some l.length) 1) (dI out):=Sl.row (by omega) ak (by simp[gV]) (fun k hk=>by simp at hk;omega)
  simp[hr]
  refine aA (Hp nO (by omega)) ?_
  rintro u h2 n2 k2 hu
  have hvo:=uP iE
  have hvl:=uP hd
  have m1:(vI l).toNat/d.toNat=(vI out).toNat:=by
   have:(vI l)/d=vI out:=by
    rw[<-hv,Int.mul_comm,Int.add_comm,Int.add_mul_ediv_left _ _ (by omega),Int.ediv_eq_zero_of_lt eC yg];omega
   rw[<-this]
   obtain⟨a,ha⟩:=Du hvl
   obtain⟨b,hb⟩:=Du (tO h0)
   rw[ha,hb];rfl
  have m2:(((vI l).toNat%d.toNat:Nat):Int)=rest:=by
   have:(vI l)%d=rest:=by
    rw[<-hv,Int.mul_comm,Int.add_comm,Int.add_mul_emod_self_left,Int.emod_eq_of_lt eC yg]
   rw[<-this]
   obtain⟨a,ha⟩:=Du hvl
   obtain⟨b,hb⟩:=Du (tO h0)
   rw[ha,hb];rfl
  rw[Ug iE]at hu
  have m2':rest=max (vI l) 0%max d 0:=by rw[<-m2];simp
  simp[h7,az,hW]
  refine⟨hK.trans k2,u,⟨rfl,m2'⟩,?_⟩
  rw[m1]
  exact hu
end Go.Mx
