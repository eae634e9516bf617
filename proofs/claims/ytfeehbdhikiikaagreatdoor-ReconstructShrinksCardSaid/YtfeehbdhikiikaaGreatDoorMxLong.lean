/-Long division by digits to the base 10^9-/
import Derived.Test.YtfeehbdhikiikaaGreatDoorMxWord
import Derived.Test.YtfeehbdhikiikaaGreatDoorProg
set_option linter.all false
namespace Go.Mx
variable{P U' V' d u1 u2 v1 v2 x y:Int}{es:List (V×V)}{l:List Int}{args c0:List V}{N' a f hi j lo n n1:Nat}{h' h1 h2:T O}{r:T V}{u:V}{b:ct}{kd:mW}
noncomputable section
open Go
variable {w:List Int}
def Zx6{t r:Int}(hP:0<P)(EO:0<=U')(gp:0<=u2)(Aj:0<=u1)(pW:0<v1)(l8:0<=v2)(zb:0<=V')(EP:V'<P)(h0:0<=t)(ht:t<=1000000000)(hinv:u1=t*v1+r)(hc:t*v2<=r*1000000000+u2):
  (t-1)*(V'+P*(v2+1000000000*v1))<=U'+P*(u2+1000000000*u1):=by
 by_cases q_:t=0
 ·subst q_;have h1:0<=P*(v2+1000000000*v1):=yX (by omega) (by omega);have h2:0<=P*(u2+1000000000*u1):=yX (by omega) (by omega);omega
 have h1:(t-1)*V'<=1000000000*P:=by have:(t-1)*V'<=1000000000*V':=Gs (by omega) zb;omega
 have h2:P*1<=P*v1:=tD (by omega) (by omega);have h3:P*(t*v2)<=P*(r*1000000000+u2):=tD hc (by omega);have h4:0<=P*v2:=yX (by omega) l8;have h5:(t-1)*(V'+P*(v2+1000000000*v1))=(t-1)*V'+P*(t*v2)-P*v2+1000000000*(P*(t*v1))-1000000000*(P*v1):=by grind
 have h6:U'+P*(u2+1000000000*u1)=U'+P*(r*1000000000+u2)+1000000000*(P*(t*v1)):=by subst hinv;grind
 omega
def Ysv{t r:Int}(hP:0<P)(EO:U'<P)(zb:0<=V')(h0:0<=t)(hinv:u1=t*v1+r)(hc:r*1000000000+u2<t*v2):
  U'+P*(u2+1000000000*u1)<t*(V'+P*(v2+1000000000*v1)):=by
 have h1:0<=t*V':=yX h0 zb;have h3:P*(r*1000000000+u2+1)<=P*(t*v2):=tD (by omega) (by omega);have h5:t*(V'+P*(v2+1000000000*v1))=t*V'+P*(t*v2)+1000000000*(P*(t*v1)):=by grind
 have h6:U'+P*(u2+1000000000*u1)=U'+P*(r*1000000000+u2+1)-P+1000000000*(P*(t*v1)):=by subst hinv;grind
 omega
def Ygk(h1:1<=x)(h2:x<1000000000):500000000<=x*(1000000000/(x+1)):=by
 have hd:(x+1)*(1000000000/(x+1))+1000000000%(x+1)=1000000000:=Gy ..;have hr:1000000000%(x+1)<x+1:=Gz _ (by omega);have gI:0<=1000000000%(x+1):=Gu _ (by omega);generalize 1000000000/(x+1)=d at*;generalize 1000000000%(x+1)=r at*;have e:(x+1)*d=x*d+d:=by grind
 apply Gt;intro hc;by_cases hx:x<=500000000
 ·have h3:500000000-x+1<=d:=by omega
  have h4:x*(500000000-x+1)<=x*d:=tD h3 (by omega);have h5:0<=(x-1)*(500000000-x):=yX (by omega) (by omega);have h6:(x-1)*(500000000-x)=x*(500000000-x+1)-500000000:=by grind
  omega
 have h3:1<=d:=by
  apply Gt;intro h;have:d<=0:=by omega
  have:(x+1)*d<=0:=Int.mul_nonpos_of_nonneg_of_nonpos (by omega) this;omega
 have h4:x*1<=x*d:=tD h3 (by omega);omega
def Zh9{m:Nat}(h:∀t,m<=t->t<w.length->w[t]?=some 0):vI w=vI (w.take m):=by
 by_cases hm:m<=w.length
 ·have h1:=O3 w m hm;have h2:w.drop m=List.replicate (w.length-m) 0:=by
   apply pM;intro t;rw[fU,List.getElem?_replicate];by_cases ht:t<w.length-m
   ·rw[av ht];exact h _ (by omega) (by omega)
   rw[ak ht];exact gl (by omega)
  rw[h2,Zsg]at h1;omega
 rw[gm (by omega)]
def Ypx{k:Nat}{a c:Int}(ha:w[k]?=some a)(hc:w[k+1]?=some c)(hd:w[k+2]?=some d)(hz:∀t,k+3<=t->t<w.length->w[t]?=some 0):
  vI w=vI (w.take k)+pI k*(a+1000000000*(d*1000000000+c)):=by rw[Zh9 hz,show k+3=(k+2)+1 by omega,AS hd,AS hc,AS ha,xC (k+1),xC k];grind
def Ypy{k:Nat}{a c:Int}(ha:w[k]?=some a)(hc:w[k+1]?=some c)(hl:w.length=k+2):
  vI w=vI (w.take k)+pI k*(a+1000000000*c):=by
 have h1:vI w=vI (w.take (k+1+1)):=by rw[gm (by omega)]
 rw[h1,AS hc,AS ha,xC k];grind
def Yj7{t:Int}(hd:Di (w.take n))(ht:w[n]?=some t)(hz:∀j,n<j->j<w.length->w[j]?=some 0)(h1:vI w<pI n):(0<=vI w->t=0)/\(vI w<0->t<0):=by
 have hl:=fv ht;have h2:vI w=vI (w.take n)+pI n*t:=by rw[Zh9 (m:=n+1) (fun j h1 h2=>hz j (by omega) h2),AS ht]
 have h3:=xD hd;have h4:=xE hd;rw[iV,rP (by omega)]at h4;have h5:=EK n;constructor
 ·intro h;have h6:¬t<= -1:=fun hc=>by have:=tD hc (wx h5);omega
  have h7:¬1<=t:=fun hc=>by have:=tD hc (wx h5);omega
  omega
 intro h;apply Mk;intro hc;have:=yX (wx h5) hc;omega
variable {N k:Nat} {s:aH}
def Xbv:(N=N+1)=False:=eq_false (by omega)
def Xbm:(N+1=N)=False:=eq_false (by omega)
def Xcd:(N+1<N)=False:=eq_false (by omega)
def Xbu:(N=N+1+1)=False:=eq_false (by omega)
def Xbl:(N+1+1=N)=False:=eq_false (by omega)
def Xcc:(N+1+1<N)=False:=eq_false (by omega)
def Xbt:(N=N+1+1+1)=False:=eq_false (by omega)
def Xbk:(N+1+1+1=N)=False:=eq_false (by omega)
def Xcb:(N+1+1+1<N)=False:=eq_false (by omega)
def Xbs:(N=N+1+1+1+1)=False:=eq_false (by omega)
def Xbj:(N+1+1+1+1=N)=False:=eq_false (by omega)
def Xca:(N+1+1+1+1<N)=False:=eq_false (by omega)
def Xbr:(N=N+1+1+1+1+1)=False:=eq_false (by omega)
def Xbi:(N+1+1+1+1+1=N)=False:=eq_false (by omega)
def Xb9:(N+1+1+1+1+1<N)=False:=eq_false (by omega)
def Xbq:(N=N+1+1+1+1+1+1)=False:=eq_false (by omega)
def Xbh:(N+1+1+1+1+1+1=N)=False:=eq_false (by omega)
def Xb8:(N+1+1+1+1+1+1<N)=False:=eq_false (by omega)
def Xbp:(N=N+1+1+1+1+1+1+1)=False:=eq_false (by omega)
def Xbg:(N+1+1+1+1+1+1+1=N)=False:=eq_false (by omega)
def Xb7:(N+1+1+1+1+1+1+1<N)=False:=eq_false (by omega)
def Xbo:(N=N+1+1+1+1+1+1+1+1)=False:=eq_false (by omega)
def Xbf:(N+1+1+1+1+1+1+1+1=N)=False:=eq_false (by omega)
def Xb6:(N+1+1+1+1+1+1+1+1<N)=False:=eq_false (by omega)
def Xbn:(N=N+1+1+1+1+1+1+1+1+1)=False:=eq_false (by omega)
def Xbe:(N+1+1+1+1+1+1+1+1+1=N)=False:=eq_false (by omega)
def Xb5:(N+1+1+1+1+1+1+1+1+1<N)=False:=eq_false (by omega)
def Yzh:(N=N+1+1+1+1+1+1+1+1+1+1)=False:=eq_false (by omega)
def Yzb:(N+1+1+1+1+1+1+1+1+1+1=N)=False:=eq_false (by omega)
def Yzt:(N+1+1+1+1+1+1+1+1+1+1<N)=False:=eq_false (by omega)
def Yzg:(N=N+1+1+1+1+1+1+1+1+1+1+1)=False:=eq_false (by omega)
def Yza:(N+1+1+1+1+1+1+1+1+1+1+1=N)=False:=eq_false (by omega)
def Yzs:(N+1+1+1+1+1+1+1+1+1+1+1<N)=False:=eq_false (by omega)
def Yzf:(N=N+1+1+1+1+1+1+1+1+1+1+1+1)=False:=eq_false (by omega)
def Yy9:(N+1+1+1+1+1+1+1+1+1+1+1+1=N)=False:=eq_false (by omega)
def Yzr:(N+1+1+1+1+1+1+1+1+1+1+1+1<N)=False:=eq_false (by omega)
def Yze:(N=N+1+1+1+1+1+1+1+1+1+1+1+1+1)=False:=eq_false (by omega)
def Yy8:(N+1+1+1+1+1+1+1+1+1+1+1+1+1=N)=False:=eq_false (by omega)
def Yzq:(N+1+1+1+1+1+1+1+1+1+1+1+1+1<N)=False:=eq_false (by omega)
def Yzd:(N=N+1+1+1+1+1+1+1+1+1+1+1+1+1+1)=False:=eq_false (by omega)
def Yy7:(N+1+1+1+1+1+1+1+1+1+1+1+1+1+1=N)=False:=eq_false (by omega)
def Yzp:(N+1+1+1+1+1+1+1+1+1+1+1+1+1+1<N)=False:=eq_false (by omega)
def Yzc:(N=N+1+1+1+1+1+1+1+1+1+1+1+1+1+1+1)=False:=eq_false (by omega)
def Yy6:(N+1+1+1+1+1+1+1+1+1+1+1+1+1+1+1=N)=False:=eq_false (by omega)
def Yzo:(N+1+1+1+1+1+1+1+1+1+1+1+1+1+1+1<N)=False:=eq_false (by omega)
attribute [simp] Xbv Xbm Xcd Xbu Xbl Xcc Xbt Xbk Xcb Xbs Xbj Xca Xbr Xbi Xb9 Xbq Xbh Xb8 Xbp Xbg Xb7 Xbo Xbf Xb6 Xbn Xbe Xb5 Yzh Yzb Yzt Yzg Yza Yzs Yzf Yy9 Yzr Yze Yy8 Yzq Yzd Yy7 Yzp Yzc Yy6 Yzo
def Xb4:(N<N+1)=True:=eq_true (by omega)
def Xb3:(N<N+1+1)=True:=eq_true (by omega)
def Xb2:(N<N+1+1+1)=True:=eq_true (by omega)
def Xb1:(N<N+1+1+1+1)=True:=eq_true (by omega)
def Xb0:(N<N+1+1+1+1+1)=True:=eq_true (by omega)
def Xbz:(N<N+1+1+1+1+1+1)=True:=eq_true (by omega)
def Xby:(N<N+1+1+1+1+1+1+1)=True:=eq_true (by omega)
def Xbx:(N<N+1+1+1+1+1+1+1+1)=True:=eq_true (by omega)
def Xbw:(N<N+1+1+1+1+1+1+1+1+1)=True:=eq_true (by omega)
def Yzn:(N<N+1+1+1+1+1+1+1+1+1+1)=True:=eq_true (by omega)
def Yzm:(N<N+1+1+1+1+1+1+1+1+1+1+1)=True:=eq_true (by omega)
def Yzl:(N<N+1+1+1+1+1+1+1+1+1+1+1+1)=True:=eq_true (by omega)
def Yzk:(N<N+1+1+1+1+1+1+1+1+1+1+1+1+1)=True:=eq_true (by omega)
def Yzj:(N<N+1+1+1+1+1+1+1+1+1+1+1+1+1+1)=True:=eq_true (by omega)
def Yzi:(N<N+1+1+1+1+1+1+1+1+1+1+1+1+1+1+1)=True:=eq_true (by omega)
attribute [simp] Xb4 Xb3 Xb2 Xb1 Xb0 Xbz Xby Xbx Xbw Yzn Yzm Yzl Yzk Yzj Yzi
def Call.eq{C:Cx}{g:V}{st aB:St}(h:Call C g args st (fun v s=>v=u/\s=aB)):C.call g args st=some (u,aB):=by obtain⟨v,s,e,rfl,rfl⟩:=h.ex;exact e
def Zs7{C:Cx}{K:List Kf}{Q:Rs->Prop}{fr:Fr}{st:St}{i:Nat}(h:¬j=i):bD C (.block i::K) (some (.ex (.exit j) fr st)) Q↔bD C K (some (.ex (.exit j) fr st)) Q:=Zs8 (by
 cases hb:Nat.beq j i with
 |false=>rfl
 |true=>exact absurd (TT hb) h)
attribute [simp] Zs7
def cM:List Int->Int
 |[]=>0
 |e::l=>if e=0 then cM l else e
def bs{α:Type}{l:List α}(h:k<l.length):∃d,l[k]?=some d:=⟨_,cj h⟩
def Yij(c:UInt8):mU c=decide (48<=cZ c/\cZ c<=57):=by unfold mU cZ;rw[decide_eq_decide];omega
def pX(k:Nat):List V:=(List.range 256).map fun i=>.bool (decide (48<=i/\i<48+k))
def BU(k:Nat):(pX k).length=256:=by simp[pX]
def MA{i:Nat}(hi:i<256):(pX k)[i]?=some (.bool (decide (48<=i/\i<48+k))):=by simp[pX,hi]
def Ybp(k:Nat):(pX k).all V.one=true:=by simp[pX,V.one]
def Ynt(hk:k<10):ae (pX k) (48+k) [.bool true]=pX (k+1):=by
 apply pM;intro j;unfold ae;rw[uJ,List.getElem?_append,iV,BU,rP (by omega)];by_cases h1:j<48+k
 ·rw[av h1,jZ,av h1,MA (by omega),MA (by omega)];congr 3;rw[eq_iff_iff];omega
 rw[ak h1];by_cases h2:j=48+k
 ·subst h2;rw[MA (by omega)];simp
 rw[show j-(48+k)=(j-(48+k)-1)+1 by omega];simp only[TW,Gw,fU,AH];rw[show 48+k+1+(j-(48+k)-1)=j by omega];by_cases h3:j<256
 ·rw[MA h3,MA h3];congr 3;rw[eq_iff_iff];omega
 rw[gl (by rw[BU];omega),gl (by rw[BU];omega)]
def Yjd(k:Nat):(pX k).take 256=pX k:=gm (by rw[BU];omega)
def Yns(j k:Nat):ae (pX j) 0 (pX k)=pX k:=by unfold ae;rw[BU,Df (by rw[BU];omega)];simp
attribute [simp] BU Ybp Yjd Yns
def cO(s:aH):Bool:=s.all mU
def Yz9:aH:=[48,49,50,51,52,53,54,55,56,57]
def Ymz(hk:k<10):∃c,Yz9[k]?=some c/\cZ c=48+k:=by
 have:k=0\/k=1\/k=2\/k=3\/k=4\/k=5\/k=6\/k=7\/k=8\/k=9:=by omega
 rcases this with rfl|rfl|rfl|rfl|rfl|rfl|rfl|rfl|rfl|rfl<;>exact⟨_,rfl,rfl⟩
def Dx{n:Int}(h1:0<=n)(h2:n<256):bn .u8 n=n:=by rw[BP];simp[IntKind.wrap,IntKind.bits,IntKind.signed];omega
def O4{n:Int}(h1: -9223372036854775808<=n)(h2:n<9223372036854775808):IntKind.wrap .i64 n=n:=by simp[IntKind.wrap,IntKind.bits,IntKind.signed];omega
def O5(l:aH)(c:UInt8):aE (l++[c])=10*aE l+(c.toNat-48):=by simp[aE]
def Zpg{c:UInt8}(h:s[k]?=some c):aE (s.take (k+1))=10*aE (s.take k)+(c.toNat-48):=by rw[Bi,h];simp only[Option.toList,O5]
def O6(h:cO s=true){c:UInt8}(hc:s[k]?=some c):48<=cZ c/\cZ c<=57:=by unfold cO at h;rw[kJ]at h;have:=h c (cP hc);rw[Yij]at this;simpa using this
def T4{s:aH}(h:cO s=true):∀k,k<=s.length->aE (s.take k)<10^k
 |0,_=>by simp[aE]
 |k+1,hk=>by
  obtain⟨c,hc⟩:=bs (l:=s) (k:=k) (by omega)
  have h1:=T4 h k (by omega)
  have h2:=O6 h hc
  unfold cZ at h2
  rw[Zpg hc,iD]
  omega
def Dy(h:cO s=true):aE s<10^s.length:=by have:=T4 h s.length (aN _);rwa [Ay]at this
def T5{b:Nat}(h:a<=b):10^a<=10^b:=rL (by decide) h
def Ynu(h:k<9223372036854775808):tF .and .i64 (k:Int) 1=some (.int .i64 ((k%2:Nat):Int)):=by
 show some (V.int .i64 (IntKind.wrap .i64 (BitVec.ofInt 64 (k:Int)&&& BitVec.ofInt 64 1).toNat))=_;have e:(BitVec.ofInt 64 1).toNat=2^1-1:=by decide
 rw[BitVec.toNat_and,T6 k (by omega),e,Nat.and_two_pow_sub_one_eq_mod,O4 (by omega) (by omega)]
def Yki:AM .shr .i64 (k:Int) 1=some (.int .i64 ((k/2:Nat):Int)):=by
 unfold AM;have e:min (1:Int).toNat (IntKind.bits .i64)=1:=by decide
 rw[ak (by decide),e];simp only[ar,V.int.injEq,true_and];rw[Int.fdiv_eq_ediv_of_nonneg _ (by decide)];rfl
variable {N i:Nat} {h:T O} {k v:V}
def ab.new(k:ab h n h1 n1)(o:O):ab h n (h1.set n1 o) (n1+1):=(k.set k.le).up (vY _)
abbrev fW(C:Cx)(f:V)(args:List V)(h:T O)(n:Nat)(P:V->T O->Nat->Prop):Prop:=∀w,Call C f args ⟨h,n,w⟩ (ay P h n w)
def Bo{C:Cx}{f args h n w P K Q}(hf:fW C f args h n P)(k:∀v h' n',ab h n h' n'->P v h' n'->bD C K (some (.val v ⟨h',n',w⟩)) Q):bD C K (uM (C.call f args ⟨h,n,w⟩)) Q:=
 BV (hf w) fun v aB=>by
  obtain⟨h',n',w'⟩:=aB
  rintro⟨rfl,hk,hp⟩
  exact k v h' n' hk hp
def pL(p:Nat->Bool)(k:Nat):Nat->Int
 |0=> -1
 |m+1=>if p k=true then (k:Int) else pL p (k+1) m
def Zvk{p:Nat->Bool}:∀{m k:Nat},(0<=pL p k m↔∃j,k<=j/\j<k+m/\p j=true)
 |0,k=>by simp[pL];intro j h1 h2;omega
 |m+1,k=>by
  simp only[pL]
  by_cases h:p k=true
  ·rw[av h];exact⟨fun _=>⟨k,aN _,by omega,h⟩,fun _=>by omega⟩
  ·rw[ak h,Zvk (m:=m) (k:=k+1)]
   constructor
   ·rintro⟨j,h1,h2,h3⟩;exact⟨j,by omega,by omega,h3⟩
   ·rintro⟨j,h1,h2,h3⟩
    refine⟨j,?_,by omega,h3⟩
    have:j≠k:=fun hj=>h (hj▸h3)
    omega
def JE(v:V):Prop:=v=.aa\/v=.empty\/∃i o n c z,v=.slice i o n c z
def Sl.form{l:List V}(s:Sl h N v l):JE v:=by
 rcases s with⟨_,h|h⟩|⟨i,o,cp,c,e,rw,h,_⟩
 ·exact .inl h
 ·exact .inr (.inl h)
 exact .inr (.inr ⟨_,_,_,_,_,h⟩)
def JE.one(h:JE v):V.one v=true:=by rcases h with rfl|rfl|⟨_,_,_,_,_,rfl⟩<;>rfl
def JE.cells(h:JE v):V.cells v=[v]:=by rcases h with rfl|rfl|⟨_,_,_,_,_,rfl⟩<;>rfl
def strs(l:List aH):List V:=l.map .str
def pK(l:List aH):(strs l).length=l.length:=by simp[strs]
def Gk{l:List aH}{n:aH}(h:l[j]?=some n):(strs l)[j]?=some (.str n):=by simp[strs,h]
attribute [simp] pK
def Yyu(s:zc)(tI:V):List V:=[.str s.name,.str s.op,.str s.JF,tI,.int .i64 s.cost]
def Gr(h:T O)(N:Nat)(v:V)(g:List zc):Prop:=∃l:List (List V),Sn 5 h N v l/\l.length=g.length/\∀(j:Nat) (s:zc),g[j]?=some s->∃tI,l[j]?=some (Yyu s tI)/\Sl h N tI (strs s.nj)
def Gr.ad{h':T O}{N':Nat}{g:List zc}(s:Gr h N v g)(k:ab h N h' N'):Gr h' N' v g:=by obtain⟨l,h1,h2,h3⟩:=s;refine⟨l,h1.ad k,h2,fun j s hs=>?_⟩;obtain⟨tI,h4,h5⟩:=h3 j s hs;exact⟨tI,h4,h5.ad k⟩
def Gr.at{g:List zc}(s:Gr h N v g){j:Nat}{x:zc}(hj:g[j]?=some x):∃i o c e rw tI,yC v=some (i,o)/\i<N/\h.get i=some (.cells c e rw)/\aO c (o+j*5) 5=some (Yyu x tI)/\Sl h N tI (strs x.nj):=by obtain⟨l,h1,h2,h3⟩:=s;obtain⟨tI,h4,h5⟩:=h3 j x hj;obtain⟨i,o,c,e,rw,q1,q2,q3,q4⟩:=h1.at h4;exact⟨i,o,c,e,rw,tI,q1,q2,q3,q4,h5⟩
def Gr.slice{g:List zc}{w:List Nat}(s:Gr h N v g)(h1:lo<=hi)(h2:hi<=g.length)(x y:Option V)(hx:x=some (.int .i64 lo)\/x=none/\lo=0)(hy:y=some (.int .i64 hi)\/y=none/\hi=g.length):
  ∃v',oF ⟨h,N,w⟩ 5 (some v) (some x) (some y) (some none)=some (v',⟨h,N,w⟩)/\Gr h N v' ((g.take hi).drop lo):=by
 obtain⟨l,g1,g2,g3⟩:=s;obtain⟨v',e1,e2⟩:=Zub (z:=5) (w:=w) (by decide) g1 h1 (by omega) x y hx (by rw[g2];exact hy);refine⟨v',e1,(l.take hi).drop lo,e2,by simp[g2],fun j s hs=>?_⟩;have hj:lo+j<hi:=by apply u_;intro hc;rw[fU,jZ,ak (by omega)]at hs;cases hs
 rw[fU,jZ,av hj]at hs;obtain⟨tI,q1,q2⟩:=g3 _ s hs;exact⟨tI,by rw[fU,jZ,av hj];exact q1,q2⟩
def Yyv{a b c d e:V}:aO [a,b,c,d,e] 0 5=some [a,b,c,d,e]:=rfl
def Yyw{a b:V}:aO [a,b] 0 2=some [a,b]:=rfl
attribute [simp] Yyv Yyw
def Ysi(st:St)(zero:V)(ok:Bool):Option (Option (Nat×V))->Option (V×St)
 |some (some (_,v))=>some (if ok then .aU [v,.bool true] else v,st)
 |some none=>some (if ok then .aU [zero,.bool false] else zero,st)
 |none=>none
def T7(st:St)(kd:mW)(zero:V)(ok:Bool)(k:V):Option O->Option (V×St)
 |some (.map es)=>Ysi st zero ok (fY kd k es 0)
 |_=>none
def Ysj(st:St)(kd:mW)(zero:V)(ok:Bool):Option V->Option V->Option (V×St)
 |some (.map i),some k=>if kd.fits k=true then T7 st kd zero ok k (st.h.get i) else none
 |some .bW,some k=>if kd.fits k=true then Ysi st zero ok (some none) else none
 |_,_=>none
def Zxf{zero:V}{m k:Src}{ok:Bool}{call:cQ}{st:St}:Jx kd zero m k ok call r st=Ysj st kd zero ok (m.ev r) (k.ev r):=by
 unfold Jx Ysj;rcases m.ev r with _|m
 ·rfl
 rcases k.ev r with _|k
 ·cases m<;>rfl
 cases m<;>simp only[]<;>(try (by_cases hf:kd.fits k=true<;>simp[hf]))<;>try rfl
 rename_i i;rcases st.h.get i with _|o
 ·rfl
 cases o<;>simp only[T7];rename_i es;rcases fY kd k es 0 with _|_|⟨_,_⟩<;>rfl
def Yg9{st:St}{zero:V}{ok:Bool}:Ysj st .str zero ok (some (.map i)) (some (.str s))=T7 st .str zero ok (.str s) (st.h.get i):=rfl
def Zx2{st:St}{zero:V}{ok:Bool}:T7 st kd zero ok k (some (.map es))=Ysi st zero ok (fY kd k es 0):=rfl
attribute [simp] Zxf Yg9 Zx2 Mq
def Yrz(st:St)(i:Nat)(k v:V)(es:List (V×V)):Option (Option (Nat×V))->Option (V×St)
 |some (some (j,_))=>some (.aU [],st.write i (.map (es.set j (k,v))))
 |some none=>some (.aU [],st.write i (.map (es++[(k,v)])))
 |none=>none
def T8(st:St)(kd:mW)(i:Nat)(k v:V):Option O->Option (V×St)
 |some (.map es)=>Yrz st i k v es (fY kd k es 0)
 |_=>none
def BW(st:St)(kd:mW):Option V->Option V->Option V->Option (V×St)
 |some (.map i),some k,some v=>if kd.fits k=true then T8 st kd i k v (st.h.get i) else none
 |_,_,_=>none
def Zxe{m k v:Src}{call:cQ}{st:St}:GJ kd m k v call r st=BW st kd (m.ev r) (k.ev r) (v.ev r):=by
 unfold GJ BW;rcases m.ev r with _|m
 ·rfl
 rcases k.ev r with _|k
 ·cases m<;>rfl
 rcases v.ev r with _|v
 ·cases m<;>rfl
 cases m with
 |map i=>
  simp only[];by_cases hf:kd.fits k=true
  ·simp only[hf,if_true];rcases st.h.get i with _|o
   ·rfl
   cases o<;>simp only[T8];rename_i es;rcases fY kd k es 0 with _|_|⟨_,_⟩<;>rfl
  simp[hf]
 |_=>rfl
def Ygp{st:St}:BW st .str (some (.map i)) (some (.str s)) (some v)=T8 st .str i (.str s) v (st.h.get i):=rfl
def Zxo{st:St}:T8 st kd i k v (some (.map es))=Yrz st i k v es (fY kd k es 0):=rfl
def Ycu{st:St}:Yrz st i k v es (some none)=some (.aU [],st.write i (.map (es++[(k,v)]))):=rfl
attribute [simp] Zxe Ygp Zxo Ycu
def ab.then{n2:Nat}(a:ab h n h1 n1)(b:ab h1 n h2 n2):ab h n h2 n2:=⟨b.le,fun i hi=>(b.get i hi).trans (a.get i hi)⟩
def rF(l:List Int):List (List V):=l.map fun x=>[.int .i64 x]
def ER(l:List Int):(rF l).length=l.length:=by simp[rF]
def Zmr:∀(l:List Int),(rF l).flatten=dI l
 |[]=>rfl
 |x::l=>by
  have:=Zmr l
  simp only[rF,pU,List.flatten_cons,dI]at this ⊢
  rw[this];rfl
def GN(l:List Int)(x:Int):rF (l++[x])=rF l++[[.int .i64 x]]:=by simp[rF]
def Own.sl{e:TypeId}{N0:Nat}(s:Own 1 e N0 h N v (rF l)):Sl h N v (dI l):=by
 have:=s.sn;have e1:rF l=(dI l).map fun x=>[x]:=by simp[rF,dI]
 rw[e1]at this;exact Sn.one.1 this
structure Xa2 (g:List zc):Prop where
 le:g.length<=16
 name:∀(j:Nat) (s:zc),g[j]?=some s->j<=pos (g.take j) s.name
 tI:∀(j:Nat) (s:zc),g[j]?=some s->∀n∈s.nj,pos (g.take j) n<j
 cost:∀s∈g,1<=s.cost/\s.cost<=1000
variable {N:Nat} {h:T O}
def Cp(h:T O)(N:Nat)(v:V)(l:List V):Prop:=∃j c,v=.slice j 0 l.length c 1/\j<N/\h.get j=some (.cells l 9 true)/\∀k,c=some k->l.length<=k
def Cp.ad{l:List V}(s:Cp h N v l)(k:ab h N h' N'):Cp h' N' v l:=by obtain⟨j,c,h1,h2,h3,h4⟩:=s;exact⟨j,c,h1,fH h2 k.le,(k.get j h2).trans h3,h4⟩
def Yvp{w:List Nat}{l:List V}(s:Sl h N v l):fO ⟨h,N,w⟩ 1 v=some (l.length,l):=by
 rcases s with⟨rfl,rfl|rfl⟩|⟨i,o,cp,c,e,rw,rfl,h2,h3,h4,h5,h6⟩
 ·rfl
 ·rfl
 simp only[fO,if_true,St.row,h3,AL];have:aO c o l.length=some l:=by
  unfold aO;rw[av h5];congr 1;apply pM;intro j;rw[jZ];by_cases hj:j<l.length
  ·rw[av hj,fU];exact h4 j hj
  rw[ak hj,gl (by omega)]
 rw[this]
def PgA(h:T O)(N0 N:Nat)(u:V)(g:List zc)(k:Nat):Prop:=∃l:List (List V),Own 5 126 N0 h N u l/\l.length=k/\∀(j:Nat) (s:zc),j<k->g[j]?=some s->∃tI,l[j]?=some (Yyu s tI)/\Cp h N tI (strs s.nj)
def PgA.ad{h':T O}{N0 N':Nat}{u:V}{g:List zc}{k:Nat}(s:PgA h N0 N u g k)(kk:ab h N h' N'):PgA h' N0 N' u g k:=by obtain⟨l,h1,h2,h3⟩:=s;refine⟨l,h1.ad kk,h2,fun j s hj hs=>?_⟩;obtain⟨tI,h4,h5⟩:=h3 j s hj hs;exact⟨tI,h4,h5.ad kk⟩
def Sl.setInt{c1:List V}{e0 e1:TypeId}{w0 w1:Bool}(s:Sl h N v (dI l))(hr:h.get i=some (.cells c0 e0 w0))(hn:∀x∈c0,∀k n,x≠.int k n)(hc:c1.length=c0.length):Sl (h.set i (.cells c1 e1 w1)) N v (dI l):=by
 rcases s with s|⟨j,o,cp,c,e,rw,h1,h2,h3,h4,h5,h6⟩
 ·exact .inl s
 by_cases hj:j=i
 ·subst hj;rw[hr]at h3;simp only[ar,O.cells.injEq]at h3;obtain⟨rfl,rfl,rfl⟩:=h3;cases l with
  |nil=>exact .inr ⟨j,o,cp,c1,e1,w1,h1,h2,by rw[T.ag];simp,fun k hk=>by simp[dI]at hk,by rw[hc];exact h5,h6⟩
  |cons d l=> have:=h4 0 (by simp[dI]);simp only[dI,pU,De]at this;exact absurd rfl (hn _ (cP this) .i64 d)
 exact .inr ⟨j,o,cp,c,e,rw,h1,h2,by rw[T.ag,ak hj];exact h3,h4,h5,h6⟩
open Go Go.Proofs
set_option maxRecDepth 1000000
abbrev A.F(n:Nat):=Ar Tryz.prog n
def mv(a b:Nat):dS:=⟨some a,.pP (.tmp b),none⟩
def mc(a:Nat)(n:Int):dS:=⟨some a,.pP (.const (.int .i64 n)),none⟩
def ia(a z x i:Nat):dS:=⟨some a,.bF z (.tmp x) (.tmp i),none⟩
def ld(a x:Nat):dS:=⟨some a,.load none (.tmp x),none⟩
def xt(a x i:Nat):dS:=⟨some a,.extract (.tmp x) i,none⟩
def bi(a:Nat)(o:BinOp)(x y:Nat):dS:=⟨some a,.bin o (.node []) false (.tmp x) (.tmp y),none⟩
def bc(a:Nat)(o:BinOp)(x:Nat)(n:Int):dS:=⟨some a,.bin o (.node []) false (.tmp x) (.const (.int .i64 n)),none⟩
def ln(a x:Nat):dS:=⟨some a,.len 1 (.tmp x),none⟩
def so(a x:Nat):dS:=⟨none,.store 1 (.tmp a) (.tmp x),none⟩
def c1(a f x:Nat):dS:=⟨some a,.call (.const (.func f [] [])) [.tmp x],none⟩
def c2(a f x y:Nat):dS:=⟨some a,.call (.const (.func f [] [])) [.tmp x,.tmp y],none⟩
def lN(a n x:Nat):dS:=⟨some a,.load (some n) (.tmp x),none⟩
def fa(a o x:Nat):dS:=⟨some a,.iZ o (.tmp x),none⟩
def pf(a x y:Nat):dS:=⟨some a,.pick (.tmp x) (.tmp y) (.const (.bool false)),none⟩
def pt(a x y:Nat):dS:=⟨some a,.pick (.tmp x) (.const (.bool true)) (.tmp y),none⟩
def ei(a x:Nat)(n:Int):dS:=⟨some a,.bin .eql (.dJ .int) true (.tmp x) (.const (.int .i64 n)),none⟩
def ni(a x:Nat)(n:Int):dS:=⟨some a,.bin .neq (.dJ .int) true (.tmp x) (.const (.int .i64 n)),none⟩
def mN(a:Nat):dS:=⟨some a,.pP (.const .aa),none⟩
def bx(a e x:Nat):dS:=⟨some a,.box e (.tmp x),none⟩
def mg(a x g:Nat):dS:=⟨some a,.pP (.tmp x),some (g,true)⟩
def mh(a x g:Nat):dS:=⟨some a,.pP (.tmp x),some (g,false)⟩
def sr(l:List dS)(c:ct):ct:=.seq (.fV l) c
def cd(x:Nat)(a b:ct):ct:=.cond (.tmp x) a b
def ge(a:Nat)(o:iH):dS:=⟨some a,o,none⟩
def gn(o:iH):dS:=⟨none,o,none⟩
def gy(a g:Nat)(o:iH):dS:=⟨some a,o,some (g,true)⟩
def gz(a g:Nat)(o:iH):dS:=⟨some a,o,some (g,false)⟩
abbrev tq(x:Nat):Src:=.tmp x
abbrev kq(n:Int):Src:=.const (.int .i64 n)
abbrev fq(f:Nat):Src:=.const (.func f [] [])
attribute [simp] De Gw mv mc ia ld xt bi bc ln so c1 c2 lN fa pf pt ei ni mN bx mg mh sr cd ge gn gy gz
def A.Iz:O:=.cells (([1,10,100,1000,10000,100000,1000000,10000000,100000000,1000000000,10000000000,100000000000,1000000000000,10000000000000,100000000000000,1000000000000000,10000000000000000,100000000000000000,1000000000000000000,10000000000000000000]:List Int).map fun z=>.int .u64 z) 279 false
def A.TB:List (Nat×O):=[(5,A.Iz)]
def A.C:Cx:=⟨MB A.TB [⟨11,[],.bool true⟩],Ar Tryz.prog⟩
def A.t:A.C.eg=Ar Tryz.prog:=rfl
def A.x0{a c:List V}{st:St}(h:Nat.beq 11 f=false):A.C.x (.func f a c) args st=none:=by
 show MB A.TB [⟨11,[],.bool true⟩] (.func f a c) args st=none;unfold MB;split
 ·rename_i heq;simp only[V.func.injEq]at heq;obtain⟨rfl,rfl,rfl⟩:=heq;simp only[MC,h]
 rfl
def Xad(P:Program)(fn:Func):ct:=match fn.body with
 |some c=>jH P c
 |none=>.skip
def GO:ct->List ct
 |.seq a b=>GO a++GO b
 |.cond _ a b=>GO a++GO b
 |.block _ a=>GO a
 |.scope a=>GO a
 |.loop a=>a::GO a
 |_=>[]
def ES:List ct->ct->ct×List ct
 |ls,.seq a b=>match ES ls a with
  |(a,ls)=>match ES ls b with
   |(b,ls)=>(.seq a b,ls)
 |ls,.cond s a b=>match ES ls a with
  |(a,ls)=>match ES ls b with
   |(b,ls)=>(.cond s a b,ls)
 |ls,.block k a=>match ES ls a with
  |(a,ls)=>(.block k a,ls)
 |ls,.scope a=>match ES ls a with
  |(a,ls)=>(.scope a,ls)
 |l::ls,.loop _=>(.loop l,ls)
 |ls,c=>(c,ls)
@[simp] def A.q(f:Func)(_h:Xad Tryz.prog f=b:=by conv=>lhs;cbv):ct:=b
@[simp] def A.ql(w:ct)(i:Nat)(ls:List ct) (_h:(ES ls ((GO w)[i]?.getD .skip)).1=b:=by conv=>lhs;cbv):ct:=b
@[simp] def A.qb(w:ct)(ls:List ct)(_h:(ES ls w).1=b:=by conv=>lhs;cbv):ct:=b
def JG:List Nat->ct->ct
 |0::p,.seq a _=>JG p a
 |_::p,.seq _ b=>JG p b
 |0::p,.cond _ a _=>JG p a
 |_::p,.cond _ _ b=>JG p b
 |_::p,.block _ a=>JG p a
 |_::p,.scope a=>JG p a
 |_,c=>c
def JH(x:ct):List Nat->ct->ct
 |0::p,.seq a b=>.seq (JH x p a) b
 |_::p,.seq a b=>.seq a (JH x p b)
 |0::p,.cond s a b=>.cond s (JH x p a) b
 |_::p,.cond s a b=>.cond s a (JH x p b)
 |_::p,.block k a=>.block k (JH x p a)
 |_::p,.scope a=>.scope (JH x p a)
 |_,_=>x
def Xaq:List (List Nat×ct)->ct->ct
 |[],w=>w
 |(p,x)::l,w=>Xaq l (JH x p w)
@[simp] def A.qt(w:ct)(ls:List ct)(cs:List (List Nat×ct))(p:List Nat)(_h:JG p (Xaq cs (ES ls w).1)=b:=by conv=>lhs;cbv):ct:=b
def A.kk{n k:Nat}{res:List FY}{b:ct}(hc:Ar Tryz.prog n=some ⟨k,res,b⟩)(hx:Nat.beq 11 n=false){K:List Kf}{Q:Rs->Prop}{f c args:List V}{st:St}(h:(f++args++c).length<=k):bD A.C K (uM (A.C.call (.func n f c) args st)) Q↔bD A.C (.fin res st::K) (fy (A.C.code none b ⟨AR .nil 0 (f++args++c),k,[]⟩ ⟨st.h,st.n,[]⟩)) Q:=Ykt (A.x0 (f:=n) hx) (mf:=⟨k,res,b⟩) (by rw[A.t];exact hc) h
def A.known{w:List Nat}(hp:h.get 5=some A.Iz):A.C.call (.func 11 [] []) [] ⟨h,N,w⟩=some (.bool true,⟨h,N,w⟩):=by
 have hq:MD (h.get 5) A.Iz=true:=by rw[hp];decide+kernel
 have hi:GP ⟨h,N,w⟩ A.TB=true:=by show (match MD (h.get 5) A.Iz with|true=>true|false=>false)=true;rw[hq]
 have hx:A.C.x (.func 11 [] []) [] ⟨h,N,w⟩=some (.bool true,⟨h,N,w⟩):=by show (match GP ⟨h,N,w⟩ A.TB with|true=>some (V.bool true,(⟨h,N,w⟩:St))|false=>none)=_;rw[hi]
 rw[Cx.od];unfold uD;rw[hx]
variable {s:aH}
def A.w89:=A.q Tryz.f89
def A.tJ:=A.ql A.w89 0 []
def A.b89:=(fun x0=>A.qb A.w89 [x0]) A.tJ
def A.k89:=@A.kk 89 17 [.tmp 2] A.b89 (by kernel_rfl) rfl
def A.O7:=A.q Tryz.f157
def A.l9:=A.ql A.O7 0 []
def A.b157:=(fun x0=>A.qb A.O7 [x0]) A.l9
def A.k157:=@A.kk 157 20 [.tmp 2] A.b157 (by kernel_rfl) rfl
def A.b90:=A.q Tryz.f90
def A.k90:=@A.kk 90 18 [.tmp 2] A.b90 (by kernel_rfl) rfl
def A.O8:=A.q Tryz.f125
def A.tK:=A.ql A.O8 0 []
def A.b125:=(fun x0=>A.qb A.O8 [x0]) A.tK
def A.k125:=@A.kk 125 20 [.tmp 2] A.b125 (by kernel_rfl) rfl
def GQ{st:St}(hl:s.length<9223372036854775808):A.C.call (.func 89 [] []) [.str s] st=some (.int .i64 (ah s:Nat),st):=by
 apply Call.eq;rw[aP,A.k89 (by simp)];simp(disch:=first|(simp;done)|omega|rfl) [-getElem?_pos,A.b89];refine cB [(2,14)] (fun e r s1=>s1=⟨st.h,st.n,[]⟩/\((e=.exit 0/\ah s=s.length)\/(e=.ret/\r.get 2=some (.int .i64 (ah s:Nat))))) (fun m r s1=>s1=⟨st.h,st.n,[]⟩/\∃k,k+m=s.length/\r.get 3=some (.int .i64 k)/\ah s=k+ah (s.drop k)) s.length ?_ ?_ ?_
 ·exact⟨rfl,0,by omega,by simp,by simp⟩
 ·rintro m r _ hr hf ⟨rfl,k,hk,h3,hz⟩;rw[bG];cases m with
  |zero=>
   have:k=s.length:=by omega
   subst this;rw[rE,ah]at hz;simp(disch:=first|(simp;done)|omega|rfl) [-getElem?_pos,A.tJ,hr,hf,h3];omega
  |succ m=>
   obtain⟨c,hc⟩:=bs (l:=s) (k:=k) (by omega);have dj:(k:Int)<(s.length:Int):=by omega
   have jV:k<s.length:=by omega
   rw[oh hc,ah]at hz;by_cases h47:cZ c=47
   ·rw[av (by unfold cZ at h47;omega)]at hz;simp(disch:=first|(simp;done)|omega|rfl) [-getElem?_pos,A.tJ,hr,hf,h3,dj,hc,h47];rw[hz];simp
   rw[ak (by unfold cZ at h47;omega)]at hz;simp(disch:=first|(simp;done)|omega|rfl) [-getElem?_pos,A.tJ,hr,hf,h3,dj,hc,h47];exact⟨m,by omega,k+1,by omega,by simp,by omega⟩
 rintro e r _ hr ⟨rfl,⟨rfl,hz⟩|⟨rfl,h2⟩⟩
 ·simp(disch:=first|(simp;done)|omega|rfl) [-getElem?_pos,hr,hz]
 simp(disch:=first|(simp;done)|omega|rfl) [-getElem?_pos,h2]
def Yih{st:St}(hl:s.length<9223372036854775808):A.C.call (.func 157 [] []) [.str s] st=some (.bool (cO s),st):=by
 apply Call.eq;rw[aP,A.k157 (by simp)];simp(disch:=first|(simp;done)|omega|rfl) [-getElem?_pos,A.b157];refine cB [(2,19)] (fun e r s1=>s1=⟨st.h,st.n,[]⟩/\((e=.exit 0/\cO s=true)\/(e=.ret/\cO s=false/\r.get 2=some (.bool false)))) (fun m r s1=>s1=⟨st.h,st.n,[]⟩/\∃k,k+m=s.length/\r.get 3=some (.int .i64 k)/\cO s=cO (s.drop k)) s.length ?_ ?_ ?_
 ·exact⟨rfl,0,by omega,by simp,by simp⟩
 ·rintro m r _ hr hf ⟨rfl,k,hk,h3,hz⟩;rw[bG];cases m with
  |zero=>
   have:k=s.length:=by omega
   subst this;rw[rE]at hz;have hz:cO s=true:=hz;simp(disch:=first|(simp;done)|omega|rfl) [A.l9,hr,hf,h3,hz]
  |succ m=>
   obtain⟨c,hc⟩:=bs (l:=s) (k:=k) (by omega);have dj:(k:Int)<(s.length:Int):=by omega
   have jV:k<s.length:=by omega
   have er:cO s=(mU c&&cO (s.drop (k+1))):=by rw[hz,oh hc];rfl
   rw[Yij]at er;by_cases h1:cZ c<48
   ·have:¬(48<=cZ c/\cZ c<=57):=by omega
    rw[decide_eq_false this,Ei]at er;simp(disch:=first|(simp;done)|omega|rfl) [-getElem?_pos,A.l9,hr,hf,h3,dj,hc,h1,er]
   by_cases h2:57<cZ c
   ·have:¬(48<=cZ c/\cZ c<=57):=by omega
    rw[decide_eq_false this,Ei]at er;simp(disch:=first|(simp;done)|omega|rfl) [-getElem?_pos,A.l9,hr,hf,h3,dj,hc,h1,h2,er]
   have:(48<=cZ c/\cZ c<=57):=by omega
   rw[decide_eq_true this,Bool.true_and]at er;simp(disch:=first|(simp;done)|omega|rfl) [-getElem?_pos,A.l9,hr,hf,h3,dj,hc,h1,h2];exact⟨m,by omega,k+1,by omega,by simp,er⟩
 rintro e r _ hr ⟨rfl,⟨rfl,hz⟩|⟨rfl,hz,h2⟩⟩
 ·simp(disch:=first|(simp;done)|omega|rfl) [-getElem?_pos,hz]
 simp(disch:=first|(simp;done)|omega|rfl) [-getElem?_pos,h2,hz]
def O9{st:St}(hl:s.length<9223372036854775808):A.C.call (.func 90 [] []) [.str s] st=some (.bool (jK s),st):=by
 apply Call.eq;rw[aP,A.k90 (by simp)];cases s with
 |nil=>simp[A.b90,jK]
 |cons c s=>
  have hd:jK (c::s)=(cO (c::s)&&(decide (cZ c≠48)||decide (s=[]))):=by
   have:decide (c.toNat≠48)=decide (cZ c≠48):=by unfold cZ;rw[decide_eq_decide];omega
   simp only[jK,this];rfl
  have hdg:=fun st=>Yih (s:=c::s) (st:=st) hl;by_cases h0:s=[]
  ·subst h0;simp[A.b90,hd,hdg]
  have h1:0<s.length:=by
   cases s with
   |nil=>exact absurd rfl h0
   |cons=>simp
  have a1:¬((s.length:Int)+1=0):=by omega
  have a2:(1:Int)<(s.length:Int)+1:=by omega
  have a3:(0:Int)<(s.length:Int):=by omega
  by_cases h48:cZ c=48
  ·simp[A.b90,hd,h0,a1,a2,h48]
  simp[A.b90,hd,hdg,h0,a1,a2,h48]
def Pa{st:St}(hd:cO s=true)(hl:s.length<=18):A.C.call (.func 125 [] []) [.str s] st=some (.int .i64 (aE s:Nat),st):=by
 apply Call.eq;rw[aP,A.k125 (by simp)];simp[A.b125];refine cB [(3,18)] (fun e r s1=>s1=⟨st.h,st.n,[]⟩/\e=.exit 0/\r.get 3=some (.int .i64 (aE s:Nat))) (fun m r s1=>s1=⟨st.h,st.n,[]⟩/\∃k,k+m=s.length/\r.get 4=some (.int .i64 k)/\r.get 3=some (.int .i64 (aE (s.take k):Nat))) s.length ?_ ?_ ?_
 ·exact⟨rfl,0,by omega,by simp,by simp[aE]⟩
 ·rintro m r _ hr hf ⟨rfl,k,hk,h4,h3⟩;rw[bG];cases m with
  |zero=>
   have:k=s.length:=by omega
   subst this;rw[Ay]at h3;simp[A.tK,hr,hf,h4,h3]
  |succ m=>
   obtain⟨c,hc⟩:=bs (l:=s) (k:=k) (by omega);have dj:(k:Int)<(s.length:Int):=by omega
   have jV:k<s.length:=by omega
   have vf:=O6 hd hc;have hv:=Zpg hc;have ME:=T4 hd k (by omega);have rZ:=T5 (a:=k) (b:=17) (by omega);have b3:((aE (s.take (k+1)):Nat):Int)=10*(aE (s.take k):Nat)+cZ c-48:=by rw[hv];unfold cZ at*;omega
   have b4:((aE (s.take k):Nat):Int)<100000000000000000:=by
    have:(10:Nat)^17=100000000000000000:=by decide
    omega
   generalize hy:aE (s.take (k+1))=y at*;generalize aE (s.take k)=x at*;simp(disch:=first|(simp;done)|omega|rfl) [-getElem?_pos,A.tK,hr,hf,h4,h3,dj,hc];exact⟨m,by omega,k+1,by omega,by simp,by rw[hy,b3]⟩
 rintro e r _ hr ⟨rfl,rfl,h3⟩;simp[h3]
def A.Ry:=A.q Tryz.f190
def A.pg:=A.ql A.Ry 0 []
def A.b190:=(fun x0=>A.qb A.Ry [x0]) A.pg
def A.k190:=@A.kk 190 21 [.tmp 2] A.b190 (by kernel_rfl) rfl
def A.b133:=A.q Tryz.f133
def A.k133:=@A.kk 133 15 [.cell 4 (some 2)] A.b133 (by kernel_rfl) rfl
def A.Rz:=A.q Tryz.f159
def A.mI:=A.ql A.Rz 0 []
def A.b159:=(fun x0=>A.qb A.Rz [x0]) A.mI
def A.k159:=@A.kk 159 41 [.tmp 4] A.b159 (by kernel_rfl) rfl
def A.RA:=A.q Tryz.f189
def A.uj:=A.ql A.RA 0 []
def A.b189:=(fun x0=>A.qb A.RA [x0]) A.uj
def A.k189:=@A.kk 189 39 [.tmp 4,.tmp 5] A.b189 (by kernel_rfl) rfl
def J4(hs:Sl h N v (dI l))(hl:l.length<1152921504606846976):Fn A.C 190 [v] h N (fun v' h' N'=>Sl h' N' v' (dI (tH l))):=by
 intro w;rw[aP,A.k190 (by simp)];simp[A.b190];refine cB [(0,0),(3,19)] (fun e r st=>e=.exit 0/\st=⟨h,N,[]⟩/\∃u,r.get 0=some u/\Sl h N u (dI (tH l))) (fun m r st=>st=⟨h,N,[]⟩/\m<=l.length/\∃u,r.get 0=some u/\Sl h N u (dI (l.take m))/\tH (l.take m)=tH l) l.length ?_ ?_ ?_
 ·exact⟨rfl,aN _,v,rfl,by rw[Ay];exact hs,by rw[Ay]⟩
 ·rintro m r _ hr hf ⟨rfl,hm,u,h0,hu,ht⟩;rw[bG];have lu:=hu.len;rw[jo,iV,rP hm]at lu;cases m with
  |zero=> simp[A.pg,hf,h0,lu];rw[<-ht];exact hu
  |succ k=>
   obtain⟨d,hd⟩:=bs (l:=l) (k:=k) (by omega);have Tr:(l.take (k+1))[k]?=some d:=by rw[jZ,av (by omega)];exact hd
   obtain⟨i,o,c,e,rw,q1,q2,q3,q4⟩:=hu.at (jq Tr);have e1:l.take (k+1)=l.take k++[d]:=by rw[Bi,hd];rfl
   have k1:(0:Int)<(k:Int)+1:=by omega
   have k2:(k:Int)<(k:Int)+1:=by omega
   have k3:(k:Int)+1-1=(k:Int):=by omega
   by_cases hz:d=0
   ·subst hz;rw[e1,Zmo]at ht;obtain⟨v',x1,x2⟩:=LK (w:=[]) hu (lo:=0) (hi:=k) (wX _) (by rw[jo,iV];omega) none (some (.int .i64 k)) (.inr ⟨rfl,rfl⟩) (.inl rfl);have x3:((dI (l.take (k+1))).take k).drop 0=dI (l.take k):=by rw[Bx,dI,<-List.map_take,List.take_take,rP (by omega)];rfl
    rw[x3]at x2;simp(disch:=first|(simp;done)|omega|rfl) [A.pg,hf,h0,lu,k1,k3,q1,q3,q4,Ge,aC,x1];exact⟨k,by omega,by omega,x2,ht⟩
   rw[e1,Zq4 hz,<-e1]at ht;simp(disch:=first|(simp;done)|omega|rfl) [A.pg,hf,h0,lu,k1,k3,q1,q3,q4,hz];rw[<-ht];exact hu
 rintro _ r _ hr ⟨rfl,rfl,u,h0,hu⟩;simp[h0,ay];exact⟨ab.refl,hu⟩
def Rg(h:T O)(N:Nat)(v:V)(z:Int):Prop:=∃u,v=.agg [.bool (decide (z<0)),u]/\Dn h N u z.natAbs
def zn{b:Bool}(hs:Sl h N v (dI l))(hd:Di l)(hn:vI l=n)(hl:l.length<1152921504606846976):Fn A.C 133 [.bool b,v] h N (fun v' h' N'=>Rg h' N' v' (if b=true then -(n:Int) else n)):=by
 intro w;rw[aP,A.k133 (by simp)];simp[A.b133];refine au (J4 (hs.ad (ab.refl.new _)) hl) ?_;rintro u h1 n1 k1 hu;rw[JD hd hn]at hu;have lu:=hu.len;rw[jo]at lu;have xS:=k1.le;have aA:=k1.get N (by omega);simp at aA;have DR:=hu.form.one;have VG:=hu.form.cells;unfold V.one at DR;unfold V.cells at VG;have k0:=(ab.refl (h:=h) (n:=N)).new (.cells [.bool false,.aa] 80 true);have kx:=fun o=>((k0.trans k1).set (i:=N) (o:=o) (aN N));have gp:=fun c1 (hc:c1.length=2)=>hu.setInt (i:=N) (c1:=c1) (e1:=80) (w1:=true) aA (by intro x hx k m;simp at hx;rcases hx with rfl|rfl<;>simp) hc;cases b with
 |false=>
  simp[ae,aA,DR,VG,bM,aS,aO,ay];refine⟨kx _,u,?_,?_⟩
  ·have:¬(n:Int)<0:=by omega
   simp
  exact gp _ rfl
 |true=>
  by_cases hz:n=0
  ·have dk:(ds n).length=0:=by rw[hz,ve];rfl
   simp[lu,dk,ae,aA,DR,VG,bM,aS,aO,ay];refine⟨kx _,u,?_,?_⟩
   ·simp[hz]
   simpa[hz,Dn]using gp _ rfl
  have dk:¬(ds n).length=0:=fun hc=>hz (EN.1 (tC hc));have JR:(0:Int)<((ds n).length:Int):=by omega
  have iC:0<(ds n).length:=by omega
  have hl3:ds n≠[]:=fun hc=>hz (EN.1 hc);simp[lu,iC,ae,aA,DR,VG,bM,aS,aO,ay];refine⟨kx _,u,?_,?_⟩
  ·have: -(n:Int)<0:=by omega
   simp;try omega
  simpa[Dn]using gp _ rfl
def wC:∀{b a:Nat},a<=b->(ds a).length<=(ds b).length:=by
 intro b;induction b using Nat.strongRecOn with
 |_ b ih=>
  intro a h;by_cases h0:a=0
  ·rw[h0,ve];simp
  rw[BT h0,BT (n:=b) (by omega)];have:=ih (b/1000000000) (Ez (by omega) (by decide)) (a:=a/1000000000) (Nat.div_le_div_right h);simp only[bl];omega
def RB{A:List Int}{k:Nat}(hx:A[k]?=some x):vI A=vI (A.take k)+pI k*(x+1000000000*vI (A.drop (k+1))):=by have hk:=fv hx;rw[O3 A k (by omega),oh hx,vI]
def Ype{A B:List Int}{k:Nat}(hA:Di A)(hB:Di B)(hx:A[k]?=some x)(hy:B[k]?=some y)(he:A.drop (k+1)=B.drop (k+1))(VH:x<y):vI A<vI B:=by
 have hk:=fv hx;rw[RB hx,RB hy,he];have h1:=xE (hA.take k);have h2:=xD (hB.take k);rw[iV,rP (by omega)]at h1;have h3:pI k*(x+1000000000*vI (B.drop (k+1))+1)<=pI k*(y+1000000000*vI (B.drop (k+1))):=tD (by omega) (wx (EK k));have h4:pI k*(x+1000000000*vI (B.drop (k+1))+1)=pI k*(x+1000000000*vI (B.drop (k+1)))+pI k:=by grind
 omega
def DK(a b:Nat):Int:=if a<b then -1 else if b<a then 1 else 0
def Zyr{b:Nat}{w:List Nat}(hu:Dn h N u a)(hv:Dn h N v b)(hl:(ds a).length<1152921504606846976)(iC:(ds b).length<1152921504606846976):A.C.call (.func 159 [] []) [u,v] ⟨h,N,w⟩=some (.int .i64 (DK a b),⟨h,N,w⟩):=by
 apply Call.eq;have lu:=hu.len;have lv:=hv.len;rw[jo]at lu lv;have va:=iJ a;have vb:=iJ b;have da:=iB a;have db:=iB b;rw[aP,A.k159 (by simp)];unfold DK;by_cases h1:(ds a).length=(ds b).length
 ·have iz:((ds a).length:Int)=((ds b).length:Int):=by omega
  simp(disch:=omega) [A.b159,lu,lv,h1];generalize hA:ds a=X at*;generalize hB:ds b=Y at*;refine cB [(4,5),(19,40)] (fun e r st=>st=⟨h,N,[]⟩/\((e=.exit 0/\a=b)\/(e=.ret/\a<b/\r.get 4=some (.int .i64 (-1)))\/(e=.ret/\b<a/\r.get 4=some (.int .i64 1)))) (fun m r st=>st=⟨h,N,[]⟩/\m<=X.length/\r.get 5=some (.int .i64 ((m:Int)-1))/\X.drop m=Y.drop m) X.length ?_ ?_ ?_
  ·exact⟨rfl,aN _,by simp[h1],by rw[rE,h1,rE]⟩
  ·rintro m r _ hr hf ⟨rfl,hm,h5,he⟩;rw[bG];cases m with
   |zero=>
    have:a=b:=by simp at he;rw[he]at va;omega
    simp[A.mI,hf,h5,this]
   |succ k=>
    obtain⟨x,hx⟩:=bs (l:=X) (k:=k) (by omega);obtain⟨y,hy⟩:=bs (l:=Y) (k:=k) (by omega);obtain⟨b1,b2,b3,b4,b5,z1,z2,z3,z4⟩:=Sl.at (show Sl h N u (dI (ds a)) from hu) (by rw[hA];exact jq hx);obtain⟨c1,c2,c3,c4,c5,y1,y2,y3,y4⟩:=Sl.at (show Sl h N v (dI (ds b)) from hv) (by rw[hB];exact jq hy);have rO:(((k+1:Nat):Int)-1)=(k:Int):=by omega
    rw[rO]at h5;have dj:(k:Int)<(X.length:Int):=by omega
    have jV:(k:Int)<(Y.length:Int):=by omega
    have EW:(0:Int)<=(k:Int):=by omega
    have hk4:k<Y.length:=by omega
    by_cases aD:x<y
    ·have:=Ype da db hx hy he aD;have eF:a<b:=by omega
     simp[A.mI,hr,hf,h5,lu,lv,dj,jV,EW,z1,z2,z3,z4,y1,y2,y3,y4,aD,eF]
    by_cases MP:y<x
    ·have:=Ype db da hy hx he.symm MP;have eF:b<a:=by omega
     have KM:¬a<b:=by omega
     simp[A.mI,hr,hf,h5,lu,lv,dj,jV,EW,z1,z2,z3,z4,y1,y2,y3,y4,aD,MP,eF,KM]
    have VH:x=y:=by omega
    simp(disch:=first|(simp;done)|omega|rfl) [A.mI,hr,hf,h5,lu,lv,EW,z1,z2,z3,z4,y1,y2,y3,y4,aD,MP];exact⟨k,by omega,by omega,rfl,by rw[oh hx,oh hy,he,VH]⟩
  rintro e r _ hr ⟨rfl,⟨rfl,hz⟩|⟨rfl,hz,h4⟩|⟨rfl,hz,h4⟩⟩
  ·simp[hz]
  ·simp[h4,hz]
  have:¬a<b:=by omega
  simp[h4,hz,this]
 have iz:¬((ds a).length:Int)=((ds b).length:Int):=by omega
 by_cases h2:(ds a).length<(ds b).length
 ·have eF:a<b:=by apply u_;intro hc;have:=wC hc;omega
  simp[A.b159,lu,lv,h1,h2,eF]
 have eF:b<a:=by apply u_;intro hc;have:=wC hc;omega
 have KM:¬a<b:=by omega
 simp[A.b159,lu,lv,h1,h2,eF,KM]
structure DdA (h:T O) (N:Nat) (l:List Int) (d:Int) (m:Nat) (r:T V) (st:St):Prop where
 w:az N st.w=[]
 ad:ab h N st.h (N+1)
 n:st.n=N+1
 r8:r.get 8=some (.int .i64 ((m:Int)-1))
 hm:m<=l.length
 ex:∃out rest,st.h.get N=some (.cells (dI out) 3 true)/\out.length=l.length/\r.get 7=some (.int .i64 rest)/\0<=rest/\rest<d/\Di (out.drop m)/\vI (out.drop m)*d+rest=vI (l.drop m)
def Zp1(hs:Sl h N v (dI l))(hd:Di l)(hl:l.length<1099511627776)(h0:0<d)(h1:d<1000000000):Fn A.C 189 [v,.int .i64 d] h N (fun u h' n'=>∃q,u=.aU [q,.int .i64 ((vI l).toNat%d.toNat:Nat)]/\Dn h' n' q ((vI l).toNat/d.toNat)):=by
 intro w;have lv:=hs.len;rw[jo]at lv;rw[aP,A.k189 (by simp)];simp(disch:=first|(simp;done)|omega|rfl) [A.b189,lv];refine cB [(7,9),(16,35)] (fun e r st=>e=.exit 0/\DdA h N l d 0 r st) (DdA h N l d) l.length ?_ ?_ ?_
 ·refine⟨by simp,ab.refl.new _,rfl,by simp,aN _,List.replicate l.length 0,0,by simp[Ztn],by simp,by simp,by omega,h0,?_,?_⟩
  ·rw[Df (by simp)];exact Di.nil
  rw[Df (by simp),rE];simp[vI]
 ·rintro m r ⟨H,n1,W⟩ hr hf ⟨hW,hK,hn,h8,hm,out,rest,aA,gJ,h7,gI,Gg,jL,hv⟩;simp only at hW hK hn aA;subst hn;rw[bG];cases m with
  |zero=> simp[A.uj,hf,h8];exact⟨hW,hK,rfl,by simpa using h8,hm,out,rest,aA,gJ,by simp[h7],gI,Gg,jL,hv⟩
  |succ k=>
   obtain⟨x,hx⟩:=bs (l:=l) (k:=k) (by omega);obtain⟨b1,b2,b3,b4,b5,z1,z2,z3,z4⟩:=hs.at (jq hx);have z3:=(hK.get _ z2).trans z3;have RC:=hd.get hx;have rO:(((k+1:Nat):Int)-1)=(k:Int):=by omega
   rw[rO]at h8;have dj:(k:Int)<(l.length:Int):=by omega
   have jV:k<l.length:=by omega
   have EW:(0:Int)<=(k:Int):=by omega
   have w1:bn .i64 (rest*1000000000)=rest*1000000000:=cN (by omega) (by omega);have w2:bn .i64 (rest*1000000000+x)=rest*1000000000+x:=cN (by omega) (by omega);have s0:0<=rest*1000000000+x:=by omega
   have qG:¬d=0:=by omega
   have t1:(rest*1000000000+x).tdiv d=(rest*1000000000+x)/d:=Dd s0;have t2:(rest*1000000000+x).tmod d=(rest*1000000000+x)%d:=Gq s0;have t3:=Gy (rest*1000000000+x) d;have t4:0<=(rest*1000000000+x)/d:=Int.ediv_nonneg s0 (by omega);have t5:(rest*1000000000+x)/d<1000000000:=by apply Int.ediv_lt_of_lt_mul h0;omega
   have t6:=Gu (rest*1000000000+x) qG;have t7:=Gz (rest*1000000000+x) h0;have w3:bn .i64 ((rest*1000000000+x)/d)=(rest*1000000000+x)/d:=cN (by omega) (by omega);have w8:=jo out;have w7:=Dw (l:=out) (k:=k) (v:=(rest*1000000000+x)/d) (by omega);simp(disch:=first|(simp;done)|omega|rfl) [A.uj,hr,hf,h8,h7,EW,lv,z1,z3,z4,w1,w2,w3,t1,t2,aA,w7];have e1:(out.set k ((rest*1000000000+x)/d)).drop k=((rest*1000000000+x)/d)::out.drop (k+1):=by rw[oh (d:=(rest*1000000000+x)/d) (by rw[mQ (by omega)])];rw[List.drop_set_of_lt (by omega)]
   generalize (rest*1000000000+x)/d=q at*;generalize (rest*1000000000+x)%d=r' at*;refine⟨k,by omega,⟨by simp[az,hW],hK.set (aN N),rfl,by simp,by omega,out.set k q,r',by simp,by simp[gJ],by simp,t6,t7,?_,?_⟩⟩
   ·rw[e1];exact Di.app (Di.one t4 t5) jL
   rw[e1,oh hx,vI,vI,<-hv];grind
 rintro _ r ⟨H,n1,W⟩ hr ⟨rfl,hW,hK,hn,h8,hm,out,rest,aA,gJ,h7,gI,Gg,jL,hv⟩;simp only at hW hK hn aA;subst hn;rw[Bx,Bx]at*;have p_:Sl H (N+1) (.slice N 0 l.length (some l.length) 1) (dI out):=Sl.row (by omega) aA (by simp[gJ]) (fun k hk=>by simp at hk;omega);simp[hr];refine au (J4 p_ (by omega)) ?_;rintro u h2 n2 k2 hu;have hvo:=xD jL;have hvl:=xD hd;have m1:(vI l).toNat/d.toNat=(vI out).toNat:=by
  have:(vI l)/d=vI out:=by rw[<-hv,Int.mul_comm,Int.add_comm,Int.add_mul_ediv_left _ _ (by omega),Int.ediv_eq_zero_of_lt gI Gg];omega
  rw[<-this];obtain⟨a,ha⟩:=Gx hvl;obtain⟨b,hb⟩:=Gx (wx h0);rw[ha,hb];rfl
 have m2:(((vI l).toNat%d.toNat:Nat):Int)=rest:=by
  have:(vI l)%d=rest:=by rw[<-hv,Int.mul_comm,Int.add_comm,Int.add_mul_emod_self_left,Int.emod_eq_of_lt gI Gg]
  rw[<-this];obtain⟨a,ha⟩:=Gx hvl;obtain⟨b,hb⟩:=Gx (wx h0);rw[ha,hb];rfl
 rw[Zsh jL]at hu;have m2':rest=max (vI l) 0%max d 0:=by rw[<-m2];simp
 simp[h7,ay,hW];refine⟨hK.trans k2,u,⟨rfl,m2'⟩,?_⟩;rw[m1];exact hu
end
end Go.Mx
