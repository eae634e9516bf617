/-num-/
import Derived.Test.YtfeehbdhikiikaaGreatDoorNcD
set_option linter.all false
set_option maxHeartbeats 2000000
namespace Go.Mx
variable{a b:List V}{d j k0 o:Nat}
noncomputable section
open Go Go.Proofs
set_option maxRecDepth 1000000
def A.b65:=A.q Tryz.f65
def A.k65:=@A.kk 65 22 [.cell 2 (some 4)] A.b65 (by kernel_rfl) rfl
def Zo2{z:Int}{h:T O}{N:Nat}(hl:(aM z).length<=100000):Fn A.C 149 [.str (aM z)] h N (fun v h' n'=>In h' n' v z):=by
 have hb:(aq z.natAbs).length<=100000:=by unfold aM at hl;split at hl<;>(try simp at hl)<;>omega
 have:=Yf6 (s:=aM z) (h:=h) (N:=N) (by rw[MW];exact Am _) (by rw[MW];exact hb);rw[MV,MW,Cs]at this;have e:(if decide (z<0)=true then -(z.natAbs:Int) else (z.natAbs:Int))=z:=by by_cases hz:z<0<;>simp[hz]<;>omega
 rw[e]at this;exact this
def Zyb{q:Rat}{h:T O}{N:Nat}(l1:(aM q.num).length<=100000)(l2:(aq q.den).length<=100000):Fn A.C 65 [.str (aI q)] h N (fun v h' n'=>Fc h' n' v q):=by
 intro w;have hc:=fun st=>Ypc (s:=aI q) (st:=st) (by unfold aI;split<;>(try simp)<;>omega);rw[Qe]at hc;have kB:=aQ (ab.refl (h:=h) (n:=N)) (.cells [.int .i64 0,.aa,.int .i64 0,.aa] 101 true);rw[aP,A.k65 (by simp)];by_cases c1:q.den=1
 ·have aD:¬ah (aI q)<(aI q).length:=fun hx=>(Fi q).1 hx c1;simp[A.b65,hc,aD];refine au (Zo2 l1) ?_;rintro v1 h1 m1 k1 q1;simp[];refine au (Zse q1) ?_;rintro _ h3 m3 k3 ⟨n5,u5,n6,u6,rfl,t1,t2⟩;have o5:=eh t1;have o6:=eh t2;unfold V.one at o5 o6;have gT:=k1.le;have jE:=k3.le;have kk:=(kB.trans k1).trans k3;have f5:=((k1.trans k3).get N (by omega));rw[T.ag,av rfl]at f5;simp[f5,aS,aO,ae,bM,o5,o6,ay];rw[Zog c1];exact⟨kk.set (by omega),n5,u5,n6,u6,rfl,t1.aG f5 qp rfl,t2.aG f5 qp rfl⟩
 have aD:ah (aI q)<(aI q).length:=(Fi q).2 c1;have hd:=Qf q c1;have hdI:aq q.den=aM ((q.den:Nat):Int):=by unfold aM;rw[ak (by omega)];rfl
 rw[hdI]at l2 hd;simp[A.b65,hc,aD,hd];refine au (Zo2 l1) ?_;rintro v1 h1 m1 k1 q1;simp[];refine au (Zo2 l2) ?_;rintro v2 h2 m2 k2 q2;obtain⟨n5,u5,rfl,CD⟩:=q1.cells;obtain⟨n6,u6,rfl,KC⟩:=q2.cells;have o5:=CD;have o6:=KC;unfold V.one at o5 o6;have gT:=k1.le;have jN:=k2.le;have kk:=(kB.trans k1).trans k2;have f5:=((k1.trans k2).get N (by omega));rw[T.ag,av rfl]at f5;simp[f5,aS,aO,ae,bM,o5,o6,ay];exact⟨kk.set (by omega),n5,u5,n6,u6,rfl,(q1.ad k2).aG f5 qp rfl,q2.aG f5 qp rfl⟩
variable {N k:Nat} {h:T O} {x:V} {z:Int}
def A.b123:=A.q Tryz.f123
def A.k123:=@A.kk 123 6 [.tmp 2] A.b123 (by kernel_rfl) rfl
def A.b80:=A.q Tryz.f80
def A.k80:=@A.kk 80 11 [.tmp 2] A.b80 (by kernel_rfl) rfl
def A.b155:=A.q Tryz.f155
def A.k155:=@A.kk 155 13 [.tmp 2] A.b155 (by kernel_rfl) rfl
def A.b214:=A.q Tryz.f214
def A.k214:=@A.kk 214 25 [.tmp 2] A.b214 (by kernel_rfl) rfl
def Fc.parts{q:Rat}(s:Fc h N x q):∃n1 u1 n2 u2,x=.agg [.int .i64 n1,u1,.int .i64 n2,u2]/\In h N (.agg [.int .i64 n1,u1]) q.num/\In h N (.agg [.int .i64 n2,u2]) (q.den:Int)/\V.one u1=true/\V.one u2=true:=by obtain⟨n1,u1,n2,u2,rfl,s1,s2⟩:=s;exact⟨n1,u1,n2,u2,rfl,s1,s2,eh s1,eh s2⟩
def ZM{q:Rat}(hx:Fc h N x q):Fn A.C 123 [x] h N (fun v _ _=>v=.int .i64 (dB q.num)):=by intro w;obtain⟨n1,u1,n2,u2,rfl,s1,s2,o1,o2⟩:=hx.parts;unfold V.one at o1 o2;rw[aP,A.k123 (by simp)];have k0:=(ab.refl (h:=h) (n:=N)).new (.cells [.int .i64 n1,u1,.int .i64 n2,u2] 101 true);simp[A.b123,aS,aO,o1,o2];refine au (Kj (s1.ad k0)) ?_;rintro _ h1 m1 k1 rfl;simp[ay];exact k0.trans k1
def Ynq{n:Nat}(hk:(aJ n).length=k+1)(hd:(aJ n)[k]?=some d):n<2^(64*k+aY d):=by
 have h1:=oM n;have h2:=Hi (b:=B) hd;rw[gm (by omega),h1]at h2;have h3:val B ((aJ n).take k)<B^k:=by have:=Hh (b:=B) (l:=(aJ n).take k) (fun x hx=>tR n x (AG hx));rw[iV,rP (by omega)]at this;exact this
 have h4:d+1<=2^aY d:=Vd d;have h5:B^k*(d+1)<=B^k*2^aY d:=mZ _ h4;have h6:B^k=2^(64*k):=by rw[Nat.pow_mul];rfl
 rw[mT,<-h6];rw[vc]at h5;omega
def Zx0{n b:Nat}(h:600<(aq n).length)(hb:n<2^b):1800<b:=by
 apply Classical.byContradiction;intro hc;obtain⟨M,hM⟩:∃M:Nat,M=600:=⟨_,rfl⟩;have h1:n<2^(3*M):=fH hb (Qj (by omega));have h2:(2:Nat)^(3*M)<=10^M:=by rw[Nat.pow_mul];exact Jg (by decide) _
 have h3:=(C5 (n:=n) (k:=M) (by omega)).2 (fH h1 h2);omega
def Yuf(hx:In h N x z)(hl:wl z<10000000000):Fn A.C 214 [x] h N (fun v _ _=>∃b:Nat,v=.int .i64 b/\z.natAbs<2^b):=by
 intro w;obtain⟨n,u,rfl,hu⟩:=hx.cells;have nJ:=hu;unfold V.one at nJ;have k0:=(ab.refl (h:=h) (n:=N)).new (.cells [.int .i64 n,u] 99 true);rw[aP,A.k214 (by simp)];simp[A.b214,aS,aO,nJ];refine au (Fw (hx.ad k0)) ?_;rintro _ h1 m1 k1 ⟨u2,rfl,hw⟩;have hlen:=Sl.len hw;rw[bu]at hlen;by_cases h0:(aJ z.natAbs).length=0
 ·rw[h0]at hlen;have hz:z.natAbs=0:=by have:=oM z.natAbs;rw[tC h0]at this;simpa[val]using this.symm
  simp[hlen,ay];exact⟨k0.trans k1,0,rfl,by omega⟩
 obtain⟨k,hk⟩:∃k,(aJ z.natAbs).length=k+1:=⟨(aJ z.natAbs).length-1,by omega⟩;rw[hk]at hlen;obtain⟨d,hd⟩:=bs (l:=aJ z.natAbs) (k:=k) (by omega);obtain⟨i,o,c,e,rw,q1,q2,q3,q4⟩:=Sl.at hw (gw hd);have hdB:d<18446744073709551616:=(tR _).get hd;have yO:k+1<10000000000:=by have:=hl;unfold wl at this;omega
 have wV:aY d<=64:=by
  apply Classical.byContradiction;intro hc;have h1:d≠0:=fun h=>by rw[h]at hc;simp[aY]at hc
  have h2:=M8 h1;have h3:=Qj (j:=64) (k:=aY d-1) (by omega);have h4:(2:Nat)^64=18446744073709551616:=by decide
  omega
 have c1:¬((k:Int)+1=0):=by omega
 have c2:bn .i64 ((k:Int)+1-1)=(k:Int):=by rw[cN (by omega) (by omega)];omega
 have c3:bn .i64 (64*(k:Int))=64*(k:Int):=cN (by omega) (by omega);have c4:bn .i64 (64*(k:Int)+(aY d:Nat))=64*(k:Int)+(aY d:Nat):=cN (by omega) (by omega);have c5:(k:Int)<(k:Int)+1:=by omega
 simp(disch:=omega) [hlen,c1,c3,q1,q3,q4];refine au (Zs5 hdB) ?_;rintro _ h2 m2 k2 ⟨rfl,rfl,rfl⟩;simp[c4,ay];exact⟨k0.trans k1,64*k+aY d,by simp,Ynq hk hd⟩
def Yha(hx:In h N x z)(hP:iT h N)(hl:wl z<10000000000)(hd:(dC z.natAbs).length<1000000000):Fn A.C 155 [x] h N (fun v _ _=>v=.bool (decide (600<(aq z.natAbs).length))):=by
 intro w;obtain⟨n,u,rfl,hu⟩:=hx.cells;have nJ:=hu;unfold V.one at nJ;have k0:=(ab.refl (h:=h) (n:=N)).new (.cells [.int .i64 n,u] 99 true);have g0:(h.set N (.cells [.int .i64 n,u] 99 true)).get N=some (.cells [.int .i64 n,u] 99 true):=by rw[T.ag,av rfl]
 rw[aP,A.k155 (by simp)];simp[A.b155,aS,aO,nJ];refine au (Yuf (hx.ad k0) hl) ?_;rintro _ h1 m1 k1 ⟨b,rfl,hb⟩;have g1:=(k1.get N (by omega)).trans g0;by_cases uY:1800<b
 ·have KI:(1800:Int)<(b:Int):=by omega
  simp[KI,g1,aS,aO];refine au (Vy ((hx.ad k0).ad k1) ((hP.ad k0).ad k1) (by omega)) ?_;rintro _ h2 m2 k2 rfl;have ht:=fun st=>Zk4 (s:=aM z) (st:=st);rw[MW]at ht;simp[ht,ay];exact⟨(k0.trans k1).trans k2,by omega⟩
 have KI:¬(1800:Int)<(b:Int):=by omega
 have Oo:¬600<(aq z.natAbs).length:=fun hc=>uY (Zx0 hc hb);simp[KI,Oo,ay];exact k0.trans k1
def wE(h:z.natAbs<2^k):wl z<=k:=by have:=HR (fH h (Jg (by decide) k));unfold wl at this ⊢;rwa [dT]at this
def YO{q:Rat}(hx:Fc h N x q)(hP:iT h N)(hq:Qb k q)(hk:k<=400000000):Fn A.C 80 [x] h N (fun v _ _=>v=.bool (vV q)):=by
 intro w;obtain⟨n1,u1,n2,u2,rfl,s1,s2,o1,o2⟩:=hx.parts;unfold V.one at o1 o2;have k0:=(ab.refl (h:=h) (n:=N)).new (.cells [.int .i64 n1,u1,.int .i64 n2,u2] 101 true);have g0:(h.set N (.cells [.int .i64 n1,u1,.int .i64 n2,u2] 101 true)).get N=some (.cells [.int .i64 n1,u1,.int .i64 n2,u2] 101 true):=by rw[T.ag,av rfl]
 have l1:=D5 hq.1;have l2:=D5 hq.2;have z1:=wE hq.1;have z2:=wE (z:=(q.den:Int)) (k:=k) (by rw[dT];exact hq.2);rw[aP,A.k80 (by simp)];simp[A.b80,aS,aO,o1,o2];refine au (Yha (s1.ad k0) (hP.ad k0) (by omega) (by omega)) ?_;rintro _ h1 m1 k1 rfl;have g1:=(k1.get N (by omega)).trans g0;unfold vV;by_cases c1:600<(aq q.num.natAbs).length
 ·simp[c1,ay];exact k0.trans k1
 simp[c1,g1,aS,aO];refine au (Yha ((s2.ad k0).ad k1) ((hP.ad k0).ad k1) (by omega) (by rw[dT];omega)) ?_;rintro _ h2 m2 k2 rfl;simp[ay];exact(k0.trans k1).trans k2
variable {N:Nat} {h:T O} {l:List Rat} {v:V}
def A.w57:=A.q Tryz.f57
def A.yf:=A.ql A.w57 0 []
def A.b57:=(fun x0=>A.qb A.w57 [x0]) A.yf
def A.k57:=@A.kk 57 23 [.tmp 2] A.b57 (by kernel_rfl) rfl
def A.Rq:=A.q Tryz.f153
def A.lF:=A.ql A.Rq 0 []
def A.b153:=(fun x0=>A.qb A.Rq [x0]) A.lF
def A.k153:=@A.kk 153 23 [.tmp 2] A.b153 (by kernel_rfl) rfl
def fI(h:T O)(N:Nat)(c:List V)(q:Rat):Prop:=∃n1 u1 n2 u2,c=[.int .i64 n1,u1,.int .i64 n2,u2]/\In h N (.agg [.int .i64 n1,u1]) q.num/\In h N (.agg [.int .i64 n2,u2]) (q.den:Int)
def fI.ad{h':T O}{N':Nat}{c:List V}{q:Rat}(s:fI h N c q)(k:ab h N h' N'):fI h' N' c q:=by obtain⟨n1,u1,n2,u2,rfl,s1,s2⟩:=s;exact⟨n1,u1,n2,u2,rfl,s1.ad k,s2.ad k⟩
def fI.fc{c:List V}{q:Rat}(s:fI h N c q):Fc h N (.agg c) q:=by obtain⟨n1,u1,n2,u2,rfl,s1,s2⟩:=s;exact⟨n1,u1,n2,u2,rfl,s1,s2⟩
def Fc.c{x:V}{q:Rat}(s:Fc h N x q):∃c,x=.agg c/\fI h N c q:=by obtain⟨n1,u1,n2,u2,rfl,s1,s2⟩:=s;exact⟨_,rfl,n1,u1,n2,u2,rfl,s1,s2⟩
def tc(c:List V):Prop:=∀x∈c,∀m,x≠.int .u64 m
def Yau{n:Int}{u:V}(s:In h N (.agg [.int .i64 n,u]) z):∀m,u≠.int .u64 m:=by
 rcases s with⟨h1,_⟩|⟨i,o,l,c,h1,_⟩
 ·simp at h1;rw[h1.2];simp
 simp at h1;rw[h1.2];simp
def fI.IH{c:List V}{q:Rat}(s:fI h N c q):tc c:=by
 obtain⟨n1,u1,n2,u2,rfl,s1,s2⟩:=s;intro x hx m;simp at hx;rcases hx with rfl|rfl|rfl|rfl
 ·simp
 ·exact Yau s1 m
 ·simp
 exact Yau s2 m
def fI.len{c:List V}{q:Rat}(s:fI h N c q):c.length=4/\c.all V.one=true:=by obtain⟨n1,u1,n2,u2,rfl,s1,s2⟩:=s;have o1:=eh s1;have o2:=eh s2;exact⟨rfl,by simp only[List.all_cons,List.all_nil,o1,o2,Bool.and_true];rfl⟩
def fI.aG{i:Nat}{c c0 c1:List V}{q:Rat}{e0 e1:TypeId}{w0 w1:Bool}(s:fI h N c q)(g:h.get i=some (.cells c0 e0 w0))(hn:tc c0)(hc:c1.length=c0.length):fI (h.set i (.cells c1 e1 w1)) N c q:=by obtain⟨n1,u1,n2,u2,rfl,s1,s2⟩:=s;exact⟨n1,u1,n2,u2,rfl,s1.aG g hn hc,s2.aG g hn hc⟩
def iM(h:T O)(N:Nat)(v:V)(l:List Rat):Prop:=∃cs:List (List V),Sn 4 h N v cs/\cs.length=l.length/\∀(j:Nat) (q:Rat),l[j]?=some q->∃c,cs[j]?=some c/\fI h N c q
def iM.ad{h':T O}{N':Nat}(s:iM h N v l)(k:ab h N h' N'):iM h' N' v l:=by obtain⟨cs,h1,h2,h3⟩:=s;refine⟨cs,h1.ad k,h2,fun j q hq=>?_⟩;obtain⟨c,g1,g2⟩:=h3 j q hq;exact⟨c,g1,g2.ad k⟩
def iM.len(s:iM h N v l):oe v=some l.length:=by obtain⟨cs,h1,h2,_⟩:=s;rw[h1.len,h2]
def iM.at(s:iM h N v l){j:Nat}{q:Rat}(hj:l[j]?=some q):∃i o x e rw c,yC v=some (i,o)/\i<N/\h.get i=some (.cells x e rw)/\aO x (o+j*4) 4=some c/\fI h N c q:=by obtain⟨cs,h1,h2,h3⟩:=s;obtain⟨c,h4,h5⟩:=h3 j q hj;obtain⟨i,o,x,e,rw,q1,q2,q3,q4⟩:=h1.at h4;exact⟨i,o,x,e,rw,c,q1,q2,q3,q4,h5⟩
def dR(h:T O)(N:Nat)(v:V)(l:List Rat):Prop:=iM h N v l/\∀i∈bI v,∃z w,h.get i=some (.cells z 101 w)
def tx(l:List Rat):List V:=strs (l.map aI)
def CY(l:List Rat):(tx l).length=l.length:=by simp[tx,strs]
def Ob{q:Rat}(h:l[j]?=some q):(tx l)[j]?=some (.str (aI q)):=by simp[tx,strs,h]
def zF:List V:=[.int .i64 0,.aa,.int .i64 0,.aa]
def Gh{z:List V}{n:Nat}:du z (n+1)=z++du z n:=by
 unfold du;rw[Nat.succ_mul,Nat.add_comm (n*z.length),List.range_add,List.map_append,List.map_map];congr 1
 ·apply pM;intro j;by_cases hj:j<z.length
  ·rw[eH,zD hj];simp[Ad hj,hj]
  rw[gl (by simp;omega),gl (by omega)]
 apply Ax;intro i _;simp[Nat.add_mod_left]
def NN{c x:List V}{n:Nat}(ha:a.length=o)(hb:b.length=n)(hx:x.length=n):ae (a++(b++c)) o x=a++(x++c):=by unfold ae;rw[<-ha,List.take_left,hx,<-List.drop_drop,List.drop_left,<-hb,List.drop_left,uJ]
structure FaI (h:T O) (N:Nat) (l:List Rat) (m:Nat) (r:T V) (st:St):Prop where
 w:az N st.w=[]
 ad:ab h N st.h st.n
 ex:∃(k:Nat) (cs:List (List V)),k+m=l.length/\r.get 11=some (.int .i64 k)/\r.get 3=some (.slice N 0 l.length (some l.length) 4)/\N<st.n/\st.h.get N=some (.cells (cs.flatten++du zF m) 101 true)/\cs.length=k/\∀(j:Nat) (q:Rat),j<k->l[j]?=some q->∃c,cs[j]?=some c/\fI st.h st.n c q
def OC{cs:List (List V)}(hl:cs.length<=l.length)(hc:∀(j:Nat) (q:Rat),j<cs.length->l[j]?=some q->∃c,cs[j]?=some c/\fI h N c q):(∀c∈cs,c.length=4)/\tc cs.flatten/\cs.flatten.all V.one=true:=by
 have key:∀c∈cs,∃q,fI h N c q:=fun c Co=>by obtain⟨j,hj⟩:=nP Co;have aD:=fv hj;obtain⟨q,hq⟩:=bs (l:=l) (k:=j) (by omega);obtain⟨c',h1,h2⟩:=hc j q aD hq;rw[hj]at h1;simp only[ar]at h1;subst h1;exact⟨q,h2⟩
 refine⟨fun c Co=>?_,fun x hx m=>?_,?_⟩
 ·obtain⟨q,hq⟩:=key c Co;exact hq.len.1
 ·obtain⟨c,Co,KJ⟩:=List.mem_flatten.1 hx;obtain⟨q,hq⟩:=key c Co;exact hq.IH x KJ m
 rw[kJ];intro x hx;obtain⟨c,Co,KJ⟩:=List.mem_flatten.1 hx;obtain⟨q,hq⟩:=key c Co;exact kJ.1 hq.len.2 x KJ
def TC:∀{n:Nat},tc (du zF n)
 |0=>by intro x hx;simp[du]at hx
 |n+1=>by
  intro x hx m
  rw[Gh]at hx
  rcases iS.1 hx with hx|hx
  ·simp[zF]at hx
   rcases hx with rfl|rfl|rfl|rfl<;>simp
  ·exact TC x hx m
def tc.app(ha:tc a)(hb:tc b):tc (a++b):=fun x hx m=>by
 rcases iS.1 hx with hx|hx
 ·exact ha x hx m
 ·exact hb x hx m
def Z5(n:Nat):(du zF n).length=n*4:=by
 induction n with
 |zero=>simp[du]
 |succ n ih=>rw[Gh,iU,ih];simp[zF];omega
def F4(hs:Sl h N v (tx l))(hl:l.length<1000000000)(hq:∀q∈l,Qb k0 q)(pG:k0<=4000):Fn A.C 57 [v] h N (fun u h' n'=>dR h' n' u l):=by
 intro w;have hlen:=hs.len;rw[CY]at hlen;have c1:(64:Int)*(l.length:Int)<=140737488355328:=by omega
 have c2:(l.length:Int)<4611686018427387904:=by omega
 have kB:ab h N (h.set N (.cells (du zF l.length) 101 true)) (N+1):=ab.refl.new _;rw[aP,A.k57 (by simp)];simp[A.b57,hlen,c1,c2];refine cB [(4,5),(11,21)] (fun e r st=>e=.exit 0/\FaI h N l 0 r st) (FaI h N l) l.length ?_ ?_ ?_
 ·exact⟨by simp,kB,0,[],by omega,by simp,by simp,by show N<N+1;omega,by rw[T.ag,av rfl];rfl,rfl,fun j q hj=>by omega⟩
 ·rintro m r ⟨H,n1,W⟩ hr hf ⟨hW,hK,k,cs,hk,fl,h3,lE,hM,cy,kZ⟩;simp only at hW hK hM lE kZ;rw[bG];cases m with
  |zero=>
   obtain rfl:k=l.length:=by omega
   simp[A.yf,hr,hf,fl];exact⟨hW,hK,l.length,cs,by omega,by simp[fl],by simp[h3],lE,hM,cy,kZ⟩
  |succ m=>
   have aD:k<l.length:=by omega
   have bV:(k:Int)<(l.length:Int):=by omega
   obtain⟨q,Bh⟩:=bs aD;have j_:=hq q (cP Bh);obtain⟨i,o,cc,e,rw,q1,q2,q3,q4⟩:=(hs.ad hK).at (Ob Bh);have la:=LF j_.1;have Lq:=IK j_.2;simp[A.yf,hr,fl,bV,hlen,q1,q3,q4];refine au (Zyb (q:=q) (by omega) (by omega)) ?_;rintro _ H2 n2 k2 eI;obtain⟨c,rfl,hc⟩:=eI.c;have lf:=k2.le;have iy:=hK.le;have rz:=(k2.get N lE).trans hM;have KK:∀(j:Nat) (q:Rat),j<cs.length->l[j]?=some q->∃c,cs[j]?=some c/\fI H2 n2 c q:=fun j q hj hq=>by obtain⟨c,g1,g2⟩:=kZ j q (by omega) hq;exact⟨c,g1,g2.ad k2⟩
   obtain⟨f1,f2,f3⟩:=OC (l:=l) (by omega) KK;have lG:=wQ f1;obtain⟨e1,e2⟩:=hc.len;have iw:ae (cs.flatten++du zF (m+1)) (k*4) c=(cs++[c]).flatten++du zF m:=by rw[Gh,NN (n:=4) (by rw[lG,cy]) rfl e1,LN,uJ]
   have hb:k*4+4<=(cs.flatten++du zF (m+1)).length:=by rw[iU,lG,Z5];omega
   have jT:(V.agg c).cells=c:=rfl;have Gi:tc (cs.flatten++du zF (m+1)):=f2.app TC;have qq:((cs++[c]).flatten++du zF m).length=(cs.flatten++du zF (m+1)).length:=by rw[Gh,LN];simp[e1,zF];omega
   generalize cs.flatten++du zF (m+1)=X at*;obtain⟨Y,hY⟩:∃Y,(cs++[c]).flatten++du zF m=Y:=⟨_,rfl⟩;rw[hY]at iw qq;simp(disch:=first|(simp;done)|omega|(simp only[bu,cr,bl];omega)|rfl) [-V.cells, -V.one,hr,hf,fl,h3,aD,bV,rz,bM,jT,e1,e2,hb,iw];have jC:¬N<N:=by omega
   refine⟨m,by omega,⟨by simp[az,hW],(hK.trans k2).set (aN N),k+1,cs++[c],by omega,by simp,by simp[h3],by show N<n2;omega,by show T.get _ N=_;rw[T.ag,av rfl,hY],by simp[cy],fun j q' hj nQ=>?_⟩⟩;by_cases qW:j<k
   ·obtain⟨c',g1,g2⟩:=kZ j q' qW nQ;exact⟨c',by rw[k_ (by omega)];exact g1,(g2.ad k2).aG rz Gi qq⟩
   obtain rfl:j=k:=by omega
   rw[Bh]at nQ;simp only[ar]at nQ;subst nQ;exact⟨c,by rw[pC (by omega),cy];simp,hc.aG rz Gi qq⟩
 rintro _ r ⟨H,n1,W⟩ hr ⟨rfl,hW,hK,k,cs,hk,fl,h3,lE,hM,cy,kZ⟩;simp only at hW hK hM lE kZ;obtain rfl:k=l.length:=by omega
 simp[hr,ay,hW,hK];have hz:du zF 0=[]:=by simp[du]
 obtain⟨f1,_,_⟩:=OC (l:=l) (by omega) (fun j q hj hq=>kZ j q (by omega) hq);have lG:=wQ f1;rw[hz,zO]at hM;refine⟨⟨cs,.inr ⟨N,0,some l.length,cs.flatten,_,true,by rw[cy],lE,hM,fun j x hx=>by rw[xd];exact LQ f1 hx,by omega,fun k hk=>by simp at hk;omega⟩,cy,fun j q hq=>kZ j q (fv hq) hq⟩,fun i hi=>?_⟩;simp[bI]at hi;subst hi;exact⟨_,_,hM⟩
structure S5 (h:T O) (N:Nat) (l:List Rat) (m:Nat) (r:T V) (st:St):Prop where
 w:az N st.w=[]
 ad:ab h N st.h st.n
 ex:∃(k:Nat),k+m=l.length/\r.get 11=some (.int .i64 k)/\r.get 3=some (.slice N 0 l.length (some l.length) 1)/\N<st.n/\st.h.get N=some (.cells (tx (l.take k)++List.replicate m (V.str [])) 26 true)
def Ykb(hs:iM h N v l)(hP:iT h N)(hl:l.length<1000000000)(hq:∀q∈l,Qb k0 q)(pG:k0<=400000000):Fn A.C 153 [v] h N (fun u h' n'=>Sl h' n' u (tx l)/\∀i∈bI u,∃z w,h'.get i=some (.cells z 26 w)):=by
 intro w;have hlen:=hs.len;have c1:(16:Int)*(l.length:Int)<=140737488355328:=by omega
 have c2:(l.length:Int)<4611686018427387904:=by omega
 have kB:ab h N (h.set N (.cells (du [.str []] l.length) 26 true)) (N+1):=ab.refl.new _;rw[aP,A.k153 (by simp)];simp[A.b153,hlen,c1,c2];refine cB [(4,5),(11,21)] (fun e r st=>e=.exit 0/\S5 h N l 0 r st) (S5 h N l) l.length ?_ ?_ ?_
 ·exact⟨by simp,kB,0,by omega,by simp,by simp,by show N<N+1;omega,by rw[T.ag,av rfl,S6];simp[tx,strs]⟩
 ·rintro m r ⟨H,n1,W⟩ hr hf ⟨hW,hK,k,hk,fl,h3,lE,hM⟩;simp only at hW hK hM lE;rw[bG];cases m with
  |zero=>
   obtain rfl:k=l.length:=by omega
   simp[A.lF,hr,hf,fl];exact⟨hW,hK,l.length,by omega,by simp[fl],by simp[h3],lE,hM⟩
  |succ m=>
   have aD:k<l.length:=by omega
   have bV:(k:Int)<(l.length:Int):=by omega
   obtain⟨q,Bh⟩:=bs aD;have j_:=hq q (cP Bh);obtain⟨i,o,x,e,rw,c,q1,q2,q3,q4,q5⟩:=(hs.ad hK).at Bh;obtain⟨jl,u1,jS,u2,rfl,s1,s2⟩:=q5;have o1:=eh s1;have o2:=eh s2;unfold V.one at o1 o2;have la:=D5 j_.1;have Lq:=D5 j_.2;have iy:=hK.le;have e4:ae [.int .i64 0,.aa,.int .i64 0,.aa] 0 [.int .i64 jl,u1,.int .i64 jS,u2]=[.int .i64 jl,u1,.int .i64 jS,u2]:=rfl;have e5:aO [.int .i64 jl,u1,.int .i64 jS,u2] 0 4=some [.int .i64 jl,u1,.int .i64 jS,u2]:=rfl;have kA:ab H n1 ((H.set n1 (.cells [.int .i64 0,.aa,.int .i64 0,.aa] 101 true)).set n1 (.cells [.int .i64 jl,u1,.int .i64 jS,u2] 101 true)) (n1+1):=(ab.refl.new _).set (aN _);simp[A.lF,hr,fl,bV,hlen,q1,q3,q4,aS,bM,o1,o2,e4,e5];refine au (YN (q:=q) (Fc.ad ⟨jl,u1,jS,u2,rfl,s1,s2⟩ kA) ((hP.ad hK).ad kA) (by omega) (by omega)) ?_;rintro _ H2 n2 k2 rfl;have lf:=k2.le;have rz:=(k2.get N (by omega)).trans ((kA.get N lE).trans hM);have hb:k+1<=(tx (l.take k)++List.replicate (m+1) (V.str [])).length:=by rw[iU,CY,List.length_replicate,iV];omega
   have iw:ae (tx (l.take k)++List.replicate (m+1) (V.str [])) k [.str (aI q)]=tx (l.take (k+1))++List.replicate m (V.str []):=by
    have e1:(tx (l.take k)++List.replicate (m+1) (V.str []))=tx (l.take k)++([V.str []]++List.replicate m (V.str [])):=by rw[NM];rfl
    rw[e1,NN (n:=1) (by rw[CY,iV];omega) rfl rfl,Bi,Bh];simp[tx,strs]
   generalize tx (l.take k)++List.replicate (m+1) (V.str [])=X at*;obtain⟨Y,hY⟩:∃Y,tx (l.take (k+1))++List.replicate m (V.str [])=Y:=⟨_,rfl⟩;rw[hY]at iw;simp(disch:=first|(simp;done)|omega|(simp only[bu,cr,bl];omega)|rfl) [hr,hf,fl,h3,aD,bV,rz,bM,hb,iw];refine⟨m,by omega,⟨by simp[az,hW];omega,((hK.trans kA).trans k2).set (aN N),k+1,by omega,by simp,by simp[h3],by show N<n2;omega,by show T.get _ N=_;rw[T.ag,av rfl,hY]⟩⟩
 rintro _ r ⟨H,n1,W⟩ hr ⟨rfl,hW,hK,k,hk,fl,h3,lE,hM⟩;simp only at hW hK hM lE;obtain rfl:k=l.length:=by omega
 rw[Ay]at hM;simp only[List.replicate_zero,zO]at hM;simp[hr,ay,hW,hK];exact⟨Sl.row lE hM (CY l) (fun k hk=>by simp at hk;omega),fun i hi=>by simp[bI]at hi;subst hi;exact⟨_,.inr hM⟩⟩
variable {N k:Nat} {h:T O} {l:List Rat} {v:V}
def A.w22:=A.q Tryz.f22
def A.yg:=A.ql A.w22 0 []
def A.b22:=(fun x0=>A.qb A.w22 [x0]) A.yg
def A.k22:=@A.kk 22 25 [.tmp 4] A.b22 (by kernel_rfl) rfl
def lI(a b:List Rat):Nat->Rat
 |0=>0
 |k+1=>lI a b k+a[k]?.getD 0*b[k]?.getD 0
def ed(a b:List Rat):Rat:=lI a b a.length
def Qb.zero:Qb 1 0:=⟨by decide,by decide⟩
def rN(h:∀q∈l,Qb k q)(hk:1<=k)(j:Nat):Qb k (l[j]?.getD 0):=by
 cases hj:l[j]? with
 |none=>exact Qb.zero.mono hk
 |some q=>exact h q (cP hj)
def VC{a b:List Rat}{j k:Nat}(ha:∀q∈a,Qb j q)(hb:∀q∈b,Qb k q)(hj:1<=j)(hk:1<=k):∀n,Qb (n*(j+k+1)+1) (lI a b n)
 |0=>by simpa[lI]using Qb.zero
 |n+1=>by
  have h:=(VC ha hb hj hk n).add ((rN ha hj n).mul (rN hb hk n))
  exact h.mono (by rw[iR];omega)
def Tx(h:T O)(N:Nat)(v:V)(l:List Rat):Prop:=Sl h N v (tx l)
def Tx.ad{h':T O}{N':Nat}(s:Tx h N v l)(k:ab h N h' N'):Tx h' N' v l:=Sl.ad s k
def Tx.len(s:Tx h N v l):oe v=some l.length:=by have:=Sl.len s;rwa [CY]at this
def Zj{u:V}{a b:List Rat}(hu:Tx h N u a)(hv:Tx h N v b)(eF:a.length<=b.length)(ha:∀q∈a,Qb j q)(hb:∀q∈b,Qb k q)(hj:1<=j)(hk:1<=k)(hl:a.length*(j+k+1)+j+k+1<=400000000):Fn A.C 22 [u,v] h N (fun x _ _=>x=.str (aI (ed a b))):=by
 intro w;have l1:=hu.len;have l2:=hv.len;have uX:a.length<=400000000:=by have:=TS a.length (show 0<j+k+1 by omega);omega
 rw[aP,A.k22 (by simp)];simp[A.b22];refine cB [(5,23)] (fun e r st=>e=.exit 0/\az N st.w=[]/\ab h N st.h st.n/\r.get 5=some (.str (aI (ed a b)))) (fun m r st=>az N st.w=[]/\ab h N st.h st.n/\∃t,t+m=a.length/\r.get 6=some (.int .i64 t)/\r.get 5=some (.str (aI (lI a b t)))) a.length ?_ ?_ ?_
 ·exact⟨by simp,ab.refl,0,by omega,by simp,by simp[lI,Tl]⟩
 ·rintro m r ⟨H,n1,W⟩ hr hf ⟨hW,hK,t,ht,h6,h5⟩;simp only at hW hK;rw[bG];cases m with
  |zero=>
   obtain rfl:t=a.length:=by omega
   simp[A.yg,hr,hf,h6,h5,l1,hW,hK];rfl
  |succ m=>
   have aD:t<a.length:=by omega
   have bV:(t:Int)<(a.length:Int):=by omega
   have nt:t<b.length:=by omega
   have CE:(t:Int)<(b.length:Int):=by omega
   obtain⟨p,hp⟩:=bs aD;obtain⟨q,hq⟩:=bs nt;have Bt:=ha p (cP hp);have j_:=hb q (cP hq);have AZ:=VC ha hb hj hk t;have hmul:t*(j+k+1)<=a.length*(j+k+1):=kg _ (by omega);have e1:lI a b (t+1)=lI a b t+p*q:=by simp[lI,hp,hq]
   obtain⟨i,o,cc,e,rw,q1,q2,q3,q4⟩:=(Sl.ad hu hK).at (Ob hp);obtain⟨i',o',cc',e',sO,p1,p2,p3,p4⟩:=(Sl.ad hv hK).at (Ob hq);simp[A.yg,hr,h6,h5,l1,l2,bV,CE,q1,q2,q3,q4,p1,p2,p3,p4];refine au (IF Bt j_ (by omega) (by omega)) ?_;rintro _ H2 n2 k2 rfl;simp[];refine au (NL AZ (Bt.mul j_) (by omega) (by omega)) ?_;rintro _ H3 n3 k3 rfl;rw[<-e1];simp(disch:=first|(simp;done)|omega|rfl) [hf,h6,hW];exact⟨m,by omega,(hK.trans k2).trans k3,t+1,by omega,by simp,by simp⟩
 rintro _ r ⟨H,n1,W⟩ hr ⟨rfl,hW,hK,h5⟩;simp only at hW hK;simp[h5,ay,hW,hK]
def uF(h:T O)(N:Nat)(v:V)(m:List (List Rat)):Prop:=∃us:List V,Sl h N v us/\us.length=m.length/\∀(j:Nat) (l:List Rat),m[j]?=some l->∃u,us[j]?=some u/\Tx h N u l
def uF.ad{h':T O}{N':Nat}{m:List (List Rat)}(s:uF h N v m)(k:ab h N h' N'):uF h' N' v m:=by obtain⟨us,h1,h2,h3⟩:=s;refine⟨us,h1.ad k,h2,fun j l hl=>?_⟩;obtain⟨u,g1,g2⟩:=h3 j l hl;exact⟨u,g1,g2.ad k⟩
def uF.len{m:List (List Rat)}(s:uF h N v m):oe v=some m.length:=by obtain⟨us,h1,h2,_⟩:=s;rw[h1.len,h2]
variable {N:Nat} {h h':T O} {l:List Rat} {m:List (List Rat)} {u v:V}
def By(h:T O)(N:Nat)(u:V)(l:List Rat):Prop:=Tx h N u l/\∀i∈bI u,∃z w,h.get i=some (.cells z 26 w)
def Yfv{l:List V}(s:Sl h N v l):∀i∈bI v,i<N:=fun i hi=>by
 rcases s with⟨_,rfl|rfl⟩|⟨j,o,cp,c,e,rw,rfl,hj,_⟩
 ·simp[bI]at hi
 ·simp[bI]at hi
 ·simp[bI]at hi;omega
def By.ad{N':Nat}(s:By h N u l)(k:ab h N h' N'):By h' N' u l:=⟨s.1.ad k,fun i hi=>by rw[k.get i (Yfv s.1 i hi)];exact s.2 i hi⟩
def By.bE{n n':Nat}{Y:V->Prop}{e:TypeId}(s:By h n u l)(k:ec (fun i=>i∈bI v) h n h' n')(hd:mP e Y h v)(he:e≠26):By h' n' u l:=by
 have hn:∀i∈bI u,i∉bI v:=fun i hi hc=>by obtain⟨z,w,hz⟩:=s.2 i hi;obtain⟨z2,er,_⟩:=hd i hc;rw[hz]at er;simp at er;exact he er.2.1.symm
 exact⟨Sl.bE s.1 k hn,fun i hi=>by rw[k.get i (Yfv s.1 i hi) (hn i hi)];exact s.2 i hi⟩
def Yol{N0:Nat}(s:Own 1 26 N0 h N v ((tx l).map fun y=>[y])):By h N v l:=by
 refine⟨Sn.one.1 s.sn,fun i hi=>?_⟩;obtain⟨_,⟨_,rfl⟩|⟨j,rfl,_,_,hg⟩⟩:=s
 ·simp[bI]at hi
 simp[bI]at hi;subst hi;exact⟨_,_,hg⟩
def yN(N0:Nat)(h:T O)(N:Nat)(v:V)(m:List (List Rat)):Prop:=∃us:List V,Own 1 23 N0 h N v (us.map fun y=>[y])/\(us=[]->v=.aa)/\us.length=m.length/\∀(j:Nat) (l:List Rat),m[j]?=some l->∃u,us[j]?=some u/\By h N u l
def yN.nil{N0:Nat}:yN N0 h N .aa []:=⟨[],Own.nil,fun _=>rfl,rfl,fun j l hl=>by simp at hl⟩
def yN.ad{N0:Nat}{N':Nat}(s:yN N0 h N v m)(k:ab h N h' N'):yN N0 h' N' v m:=by obtain⟨us,h1,h2,h3,h4⟩:=s;refine⟨us,h1.ad k,h2,h3,fun j l hl=>?_⟩;obtain⟨u,g1,g2⟩:=h4 j l hl;exact⟨u,g1,g2.ad k⟩
def yN.Z6{N0:Nat}(s:yN N0 h N v m):uF h N v m:=by obtain⟨us,h1,h2,h3,h4⟩:=s;refine⟨us,Sn.one.1 h1.sn,h3,fun j l hl=>?_⟩;obtain⟨u,g1,g2⟩:=h4 j l hl;exact⟨u,g1,g2.1⟩
def yN.push{N0:Nat}{w:List Nat}(s:yN N0 h N v m)(hu:By h N u l)(hN:N0<=N)(hx:fO ⟨h,N,w⟩ 1 x=some (1,[u]))(hm:m.length<100000):
  ∃v' h' w',mR ⟨h,N,w⟩ 1 24 23 v x=some (v',⟨h',N+1,w'⟩)/\az N0 w'=az N0 w/\ab h N0 h' (N+1)/\yN N0 h' (N+1) v' (m++[l]):=by
 obtain⟨us,h1,h2,h3,h4⟩:=s;obtain⟨v',h',w',f1,f2,f3,f4,fD,f5⟩:=D9 (Y:=fun _=>True) (x:=[u]) (u:=x) (bytes:=24) (w:=w) h1 (fun h0=>h2 (List.map_eq_nil_iff.1 h0)) (fun _ _ _ _=>trivial) hN (by decide) rfl hx (by rw[dL];omega);refine⟨v',h',w',f1,f2,f3,us++[u],by simpa using f5,by simp,by simp[h3],fun j r hr=>?_⟩;by_cases hj:j<m.length
 ·rw[k_ hj]at hr;obtain⟨u',g1,g2⟩:=h4 j r hr;exact⟨u',by rw[k_ (by omega)];exact g1,g2.bE f4 fD (by simp)⟩
 rw[pC (by omega)]at hr;cases hd:j-m.length with
 |zero=> rw[hd]at hr;simp at hr;subst hr;exact⟨u,by rw[pC (by omega),h3,hd];rfl,hu.bE f4 fD (by simp)⟩
 |succ d=>rw[hd]at hr;simp at hr
def Yoo{N i:Nat}:∀{w:List Nat},i∈w->i<N->i∈az N w
 |[],h,_=>by simp at h
 |j::w,h,hi=>by
  simp only[az]
  rcases iP.1 h with rfl|h
  ·rw[av hi]
   unfold xh
   split
   ·rename_i hc;simpa using hc
   ·exact oa
  ·have:=Yoo h hi
   split
   ·unfold xh
    split
    ·exact this
    ·exact pA _ this
   ·exact this
def FZ{w:List Nat}(h:az N w=[]):∀i∈w,N<=i:=fun i hi=>by
 apply AK
 intro hc
 have:=Yoo hi hc
 rw[h]at this
 simp at this
def qL(m:List (List Rat))(k:Nat):List Rat:=m.map fun r=>r[k]?.getD 0
def dm(m:List (List Rat))(n:Nat):List (List Rat):=(List.range n).map fun k=>qL m k
def iG(r w:List Rat):List Rat:=(List.range w.length).map fun k=>r[k]?.getD 0*w[k]?.getD 0
def yD(r w:List Rat)(n:Nat):List Rat:=(List.range n).map fun k=>r[k]?.getD 0*w[k]?.getD 0
variable {N n:Nat} {h:T O} {m:List (List aH)} {v:V} {w:List Nat}
def A.w27:=A.q Tryz.f27
def A.kv:=A.ql A.w27 0 []
def A.b27:=(fun x0=>A.qb A.w27 [x0]) A.kv
def A.k27:=@A.kk 27 32 [.tmp 4] A.b27 (by kernel_rfl) rfl
def A.w25:=A.q Tryz.f25
def A.ky:=A.ql A.w25 0 []
def A.b25:=(fun x0=>A.qb A.w25 [x0]) A.ky
def A.k25:=@A.kk 25 35 [.tmp 6] A.b25 (by kernel_rfl) rfl
def A.w21:=A.q Tryz.f21
def A.yo:=A.ql A.w21 0 []
def A.b21:=(fun x0=>A.qb A.w21 [x0]) A.yo
def A.k21:=@A.kk 21 26 [.tmp 4] A.b21 (by kernel_rfl) rfl
def Yqg{l:List aH}(hu:Sl h N u (strs l))(hv:Sl h N v (strs l))(hl:l.length<100000):A.C.call (.func 21 [] []) [u,v] ⟨h,N,w⟩=some (.bool true,⟨h,N,w⟩):=by
 apply Call.eq;have l1:=hu.len;have l2:=hv.len;rw[pK]at l1 l2;rw[aP,A.k21 (by simp)];simp[A.b21,l1,l2];refine cB [(4,5),(11,25)] (fun e r st=>st=⟨h,N,[]⟩/\e=.exit 0) (fun m r st=>st=⟨h,N,[]⟩/\∃k,k+m=l.length/\r.get 5=some (.int .i64 k)) l.length ?_ ?_ ?_
 ·exact⟨rfl,0,by omega,by simp⟩
 ·rintro m r _ hr hf ⟨rfl,k,hk,h5⟩;rw[bG];cases m with
  |zero=>
   obtain rfl:k=l.length:=by omega
   simp[A.yo,hr,hf,h5,l1]
  |succ m=>
   have aD:k<l.length:=by omega
   obtain⟨s,hs⟩:=bs aD;obtain⟨i,o,c,e,rw,q1,q2,q3,q4⟩:=hu.at (Gk hs);obtain⟨i',o',c',e',sO,p1,p2,p3,p4⟩:=hv.at (Gk hs);have dj:(k:Int)<(l.length:Int):=by omega
   simp(disch:=first|(simp;done)|omega|rfl) [A.yo,hr,hf,h5,l1,l2,dj,q1,q2,q3,q4,p1,p2,p3,p4,jJ];exact⟨m,by omega,k+1,by omega,by simp⟩
 rintro _ r _ hr ⟨rfl,rfl⟩;simp
def pO(s:aH):Bool:=decide (s.length<=24)
def qY(k n:Nat):Bool:=decide (k<=n\/64<k/\k<=66)
def ef(n:Nat)(l:List aH):Bool:=qY l.length n&&l.all pO
def Yal(h:qY k n=true)(hn:n<64):k<=66:=by simp[qY]at h;omega
def Ok{l:List aH}(hs:Sl h N v (strs l))(hl:l.length<9223372036854775808)(hn:n<64):A.C.call (.func 27 [] []) [v,.int .i64 n] ⟨h,N,w⟩=some (.bool (ef n l),⟨h,N,w⟩):=by
 apply Call.eq;have lg:=hs.len;rw[pK]at lg;rw[aP,A.k27 (by simp)];have fin:qY l.length n=true->ef n l=l.all pO:=fun h=>by simp[ef,h]
 by_cases c1:l.length<=n
 ·rw[fin (by simp[qY,c1])];have a1:¬(n:Int)<(l.length:Int):=by omega
  have a2:¬66<(l.length:Int):=by omega
  simp[A.b27,lg,a1,a2];refine cB [(4,5),(20,31)] (fun e r st=>st=⟨h,N,[]⟩/\((e=.exit 0/\l.all pO=true)\/(e=.ret/\l.all pO=false/\r.get 4=some (.bool false)))) (fun m r st=>st=⟨h,N,[]⟩/\∃k,k+m=l.length/\r.get 5=some (.int .i64 k)/\l.all pO=(l.drop k).all pO) l.length ?_ ?_ ?_
  ·exact⟨rfl,0,by omega,by simp,by simp⟩
  ·rintro m r _ hr hf ⟨rfl,k,hk,hx,hz⟩;rw[bG];cases m with
   |zero=>
    obtain rfl:k=l.length:=by omega
    rw[rE,List.all_nil]at hz;simp[A.kv,hr,hf,hx,lg,hz]
   |succ m=>
    have aD:k<l.length:=by omega
    have dj:(k:Int)<(l.length:Int):=by omega
    obtain⟨s,hc⟩:=bs aD;obtain⟨i,o,cc,e,rw,q1,q2,q3,q4⟩:=hs.at (Gk hc);rw[oh hc,List.all_cons]at hz;by_cases c4:pO s=true
    ·rw[c4,Bool.true_and]at hz;have c6:¬24<(s.length:Int):=by simp[pO]at c4;omega
     simp(disch:=first|(simp;done)|omega|rfl) [A.kv,hr,hf,hx,lg,dj,q1,q3,q4,c6];exact⟨m,by omega,k+1,by omega,by simp,hz⟩
    have c5:pO s=false:=by simpa using c4
    rw[c5,Ei]at hz;have c6:24<(s.length:Int):=by simp[pO]at c5;omega
    simp[A.kv,hr,hf,hx,lg,dj,q1,q3,q4,c6,hz]
  rintro e r _ hr ⟨rfl,⟨rfl,hq⟩|⟨rfl,hq,h2⟩⟩
  ·simp[hq]
  simp[hq,h2]
 have a1:(n:Int)<(l.length:Int):=by omega
 have Vr:n<l.length:=by omega
 by_cases c2:l.length<=64
 ·have a3:(l.length:Int)<=64:=by omega
  have e1:ef n l=false:=by simp[ef,qY,c1];omega
  simp[A.b27,lg,a1,a3,e1]
 have a3:¬(l.length:Int)<=64:=by omega
 by_cases c3:66<l.length
 ·have a4:66<(l.length:Int):=by omega
  have e1:ef n l=false:=by simp[ef,qY,c1];omega
  simp[A.b27,lg,a1,a3,a4,e1]
 have a4:¬66<(l.length:Int):=by omega
 rw[fin (by simp[qY];omega)];simp[A.b27,lg,a1,a3,a4];refine cB [(4,5),(20,31)] (fun e r st=>st=⟨h,N,[]⟩/\((e=.exit 0/\l.all pO=true)\/(e=.ret/\l.all pO=false/\r.get 4=some (.bool false)))) (fun m r st=>st=⟨h,N,[]⟩/\∃k,k+m=l.length/\r.get 5=some (.int .i64 k)/\l.all pO=(l.drop k).all pO) l.length ?_ ?_ ?_
 ·exact⟨rfl,0,by omega,by simp,by simp⟩
 ·rintro m r _ hr hf ⟨rfl,k,hk,hx,hz⟩;rw[bG];cases m with
  |zero=>
   obtain rfl:k=l.length:=by omega
   rw[rE,List.all_nil]at hz;simp[A.kv,hr,hf,hx,lg,hz]
  |succ m=>
   have aD:k<l.length:=by omega
   have dj:(k:Int)<(l.length:Int):=by omega
   obtain⟨s,hc⟩:=bs aD;obtain⟨i,o,cc,e,rw,q1,q2,q3,q4⟩:=hs.at (Gk hc);rw[oh hc,List.all_cons]at hz;by_cases c4:pO s=true
   ·rw[c4,Bool.true_and]at hz;have c6:¬24<(s.length:Int):=by simp[pO]at c4;omega
    simp(disch:=first|(simp;done)|omega|rfl) [A.kv,hr,hf,hx,lg,dj,q1,q3,q4,c6];exact⟨m,by omega,k+1,by omega,by simp,hz⟩
   have c5:pO s=false:=by simpa using c4
   rw[c5,Ei]at hz;have c6:24<(s.length:Int):=by simp[pO]at c5;omega
   simp[A.kv,hr,hf,hx,lg,dj,q1,q3,q4,c6,hz]
 rintro e r _ hr ⟨rfl,⟨rfl,hq⟩|⟨rfl,hq,h2⟩⟩
 ·simp[hq]
 simp[hq,h2]
def fE(h:T O)(N:Nat)(v:V)(m:List (List aH)):Prop:=∃us:List V,Sl h N v us/\us.length=m.length/\∀(j:Nat) (l:List aH),m[j]?=some l->∃u,us[j]?=some u/\Sl h N u (strs l)
def fE.ad{h':T O}{N':Nat}(s:fE h N v m)(k:ab h N h' N'):fE h' N' v m:=by obtain⟨us,h1,h2,h3⟩:=s;refine⟨us,h1.ad k,h2,fun j l hl=>?_⟩;obtain⟨u,g1,g2⟩:=h3 j l hl;exact⟨u,g1,g2.ad k⟩
def fE.len(s:fE h N v m):oe v=some m.length:=by obtain⟨us,h1,h2,_⟩:=s;rw[h1.len,h2]
def fE.at(s:fE h N v m){j:Nat}{l:List aH}(hj:m[j]?=some l):∃i o c e rw u,yC v=some (i,o)/\i<N/\h.get i=some (.cells c e rw)/\c[o+j]?=some u/\Sl h N u (strs l):=by obtain⟨us,h1,h2,h3⟩:=s;obtain⟨u,g1,g2⟩:=h3 j l hj;obtain⟨i,o,c,e,rw,q1,q2,q3,q4⟩:=h1.at g1;exact⟨i,o,c,e,rw,u,q1,q2,q3,q4,g2⟩
def fE.Z6{m:List (List Rat)}(s:fE h N v (m.map fun l=>l.map aI)):uF h N v m:=by obtain⟨us,h1,h2,h3⟩:=s;refine⟨us,h1,by simpa using h2,fun j l hl=>?_⟩;exact h3 j (l.map aI) (by simp[hl])
def pH(r c:Nat)(m:List (List aH)):Bool:=qY m.length r&&m.all (ef c)
def Ykj{l:List (List aH)}{p:Nat}(hs:fE h N v l)(hl:l.length<9223372036854775808)(jP:∀x∈l,x.length<9223372036854775808)(hn:n<64)(hp:p<64):A.C.call (.func 25 [] []) [v,.int .i64 n,.int .i64 p] ⟨h,N,w⟩=some (.bool (pH n p l),⟨h,N,w⟩):=by
 apply Call.eq;have lg:=hs.len;rw[aP,A.k25 (by simp)];have fin:qY l.length n=true->pH n p l=l.all (ef p):=fun h=>by simp[pH,h]
 by_cases c1:l.length<=n
 ·rw[fin (by simp[qY,c1])];have a1:¬(n:Int)<(l.length:Int):=by omega
  have a2:¬66<(l.length:Int):=by omega
  simp[A.b25,lg,a1,a2];refine cB [(6,7),(22,34)] (fun e r st=>st=⟨h,N,[]⟩/\((e=.exit 0/\l.all (ef p)=true)\/(e=.ret/\l.all (ef p)=false/\r.get 6=some (.bool false)))) (fun m r st=>st=⟨h,N,[]⟩/\∃k,k+m=l.length/\r.get 7=some (.int .i64 k)/\l.all (ef p)=(l.drop k).all (ef p)) l.length ?_ ?_ ?_
  ·exact⟨rfl,0,by omega,by simp,by simp⟩
  ·rintro m r _ hr hf ⟨rfl,k,hk,hx,hz⟩;rw[bG];cases m with
   |zero=>
    obtain rfl:k=l.length:=by omega
    rw[rE,List.all_nil]at hz;simp[A.ky,hr,hf,hx,lg,hz]
   |succ m=>
    have aD:k<l.length:=by omega
    have dj:(k:Int)<(l.length:Int):=by omega
    obtain⟨s,hc⟩:=bs aD;obtain⟨i,o,cc,e,rw,u,q1,q2,q3,q4,q5⟩:=hs.at hc;have cv:=fun w=>Ok (w:=w) q5 (jP s (cP hc)) hp;rw[oh hc,List.all_cons]at hz;by_cases c4:(ef p) s=true
    ·rw[c4,Bool.true_and]at hz;simp(disch:=first|(simp;done)|omega|rfl) [A.ky,hr,hf,hx,lg,dj,q1,q3,q4,cv,c4];exact⟨m,by omega,k+1,by omega,by simp,hz⟩
    have c5:(ef p) s=false:=by simpa using c4
    rw[c5,Ei]at hz;simp[A.ky,hr,hf,hx,lg,dj,q1,q3,q4,cv,c5,hz]
  rintro e r _ hr ⟨rfl,⟨rfl,hq⟩|⟨rfl,hq,h2⟩⟩
  ·simp[hq]
  simp[hq,h2]
 have a1:(n:Int)<(l.length:Int):=by omega
 have Vr:n<l.length:=by omega
 by_cases c2:l.length<=64
 ·have a3:(l.length:Int)<=64:=by omega
  have e1:pH n p l=false:=by simp[pH,qY,c1];omega
  simp[A.b25,lg,a1,a3,e1]
 have a3:¬(l.length:Int)<=64:=by omega
 by_cases c3:66<l.length
 ·have a4:66<(l.length:Int):=by omega
  have e1:pH n p l=false:=by simp[pH,qY,c1];omega
  simp[A.b25,lg,a1,a3,a4,e1]
 have a4:¬66<(l.length:Int):=by omega
 rw[fin (by simp[qY];omega)];simp[A.b25,lg,a1,a3,a4];refine cB [(6,7),(22,34)] (fun e r st=>st=⟨h,N,[]⟩/\((e=.exit 0/\l.all (ef p)=true)\/(e=.ret/\l.all (ef p)=false/\r.get 6=some (.bool false)))) (fun m r st=>st=⟨h,N,[]⟩/\∃k,k+m=l.length/\r.get 7=some (.int .i64 k)/\l.all (ef p)=(l.drop k).all (ef p)) l.length ?_ ?_ ?_
 ·exact⟨rfl,0,by omega,by simp,by simp⟩
 ·rintro m r _ hr hf ⟨rfl,k,hk,hx,hz⟩;rw[bG];cases m with
  |zero=>
   obtain rfl:k=l.length:=by omega
   rw[rE,List.all_nil]at hz;simp[A.ky,hr,hf,hx,lg,hz]
  |succ m=>
   have aD:k<l.length:=by omega
   have dj:(k:Int)<(l.length:Int):=by omega
   obtain⟨s,hc⟩:=bs aD;obtain⟨i,o,cc,e,rw,u,q1,q2,q3,q4,q5⟩:=hs.at hc;have cv:=fun w=>Ok (w:=w) q5 (jP s (cP hc)) hp;rw[oh hc,List.all_cons]at hz;by_cases c4:(ef p) s=true
   ·rw[c4,Bool.true_and]at hz;simp(disch:=first|(simp;done)|omega|rfl) [A.ky,hr,hf,hx,lg,dj,q1,q3,q4,cv,c4];exact⟨m,by omega,k+1,by omega,by simp,hz⟩
   have c5:(ef p) s=false:=by simpa using c4
   rw[c5,Ei]at hz;simp[A.ky,hr,hf,hx,lg,dj,q1,q3,q4,cv,c5,hz]
 rintro e r _ hr ⟨rfl,⟨rfl,hq⟩|⟨rfl,hq,h2⟩⟩
 ·simp[hq]
 simp[hq,h2]
variable {N:Nat} {h:T O} {l:List aH} {v:V}
def A.w28:=A.q Tryz.f28
def A.yp:=A.ql A.w28 0 []
def A.b28:=(fun x0=>A.qb A.w28 [x0]) A.yp
def A.k28:=@A.kk 28 19 [.tmp 2] A.b28 (by kernel_rfl) rfl
def A.b7:=A.q Tryz.f7
def A.k7:=@A.kk 7 11 [.tmp 4] A.b7 (by kernel_rfl) rfl
def A.w94:=A.q Tryz.f94
def A.yq:=A.ql A.w94 0 []
def A.b94:=(fun x0=>A.qb A.w94 [x0]) A.yq
def A.k94:=@A.kk 94 49 [.tmp 6] A.b94 (by kernel_rfl) rfl
def Ynb(hs:Sl h N v (strs l))(hl:l.length<100000)(wG:∀s∈l,s.length<9223372036854775808):Fn A.C 28 [v] h N (fun u _ _=>u=.int .i64 (cM (l.map fun s=>((aR s:Nat):Int)))):=by
 intro w;have hlen:=hs.len;rw[pK]at hlen;rw[aP,A.k28 (by simp)];simp(disch:=first|(simp;done)|omega|rfl) [-getElem?_pos,A.b28];refine cB [(2,18)] (fun e r st=>az N st.w=[]/\ab h N st.h st.n/\((e=.exit 0/\cM (l.map fun s=>((aR s:Nat):Int))=0)\/(e=.ret/\r.get 2=some (.int .i64 (cM (l.map fun s=>((aR s:Nat):Int))))))) (fun m r st=>az N st.w=[]/\ab h N st.h st.n/\∃k,k+m=l.length/\r.get 3=some (.int .i64 k)/\cM (l.map fun s=>((aR s:Nat):Int))=cM ((l.drop k).map fun s=>((aR s:Nat):Int))) l.length ?_ ?_ ?_
 ·exact⟨by simp,ab.refl,0,by omega,by simp,by simp⟩
 ·rintro m r ⟨H,n1,W⟩ hr hf ⟨hW,hK,k,hk,h7,hz⟩;simp only at hW hK;rw[bG];cases m with
  |zero=>
   obtain rfl:k=l.length:=by omega
   rw[rE,yY,cM]at hz;simp(disch:=first|(simp;done)|omega|rfl) [-getElem?_pos,A.yp,hr,hf,h7,hlen,hz,hW,hK]
  |succ m=>
   have aD:k<l.length:=by omega
   obtain⟨s,hc⟩:=bs aD;obtain⟨i,o,cc,e,rw,q1,q2,q3,q4⟩:=(hs.ad hK).at (Gk hc);rw[oh hc,pU,cM]at hz;have dj:(k:Int)<(l.length:Int):=by omega
   simp(disch:=first|(simp;done)|omega|rfl) [-getElem?_pos,A.yp,hr,hf,h7,dj,aD,hlen,q1,q3,q4];refine au (Zrf (wG s (cP hc))) ?_;rintro _ h3 n3 k3 rfl;have kk:=hK.trans k3;by_cases h0:aR s=0
   ·rw[av (by omega)]at hz;simp(disch:=first|(simp;done)|omega|rfl) [-getElem?_pos,hr,hf,h7,h0,hW,bz];exact⟨m,by omega,kk,k+1,by omega,by simp,by simpa using hz⟩
   rw[ak (by omega)]at hz;have jD:¬((aR s:Nat):Int)=0:=by omega
   simp(disch:=first|(simp;done)|omega|rfl) [-getElem?_pos,hr,hf,h7,h0,jD,hW,bz,hz];exact kk
 rintro _ r ⟨H,n1,W⟩ hr ⟨hW,hK,⟨rfl,hz⟩|⟨rfl,h2⟩⟩
 ·simp only at hW hK;simp(disch:=first|(simp;done)|omega|rfl) [-getElem?_pos,hr,hz,ay,hW,hK]
 simp only at hW hK;simp(disch:=first|(simp;done)|omega|rfl) [-getElem?_pos,hr,h2,ay,hW,hK]
def dM(l:List aH)(n:Nat):Int:=if l.length=n then cM (l.map fun s=>((aR s:Nat):Int)) else 2
def bg(l:List (List aH)):Nat:=(l[0]?.getD []).length
def gX(l:List (List aH))(r c:Nat):Int:=if l.length=0\/bg l=0 then 12 else if r<l.length\/c<bg l then 5 else cM (l.map fun x=>dM x (bg l))
def Yi5(hs:Sl h N v (strs l))(hl:l.length=n->l.length<100000)(wG:∀s∈l,s.length<9223372036854775808):Fn A.C 7 [v,.int .i64 n] h N (fun u _ _=>u=.int .i64 (dM l n)):=by
 intro w;have hlen:=hs.len;rw[pK]at hlen;rw[aP,A.k7 (by simp)];by_cases c:l.length=n
 ·subst c;simp(disch:=first|(simp;done)|omega|rfl) [-getElem?_pos,A.b7,hlen,bz];refine au (Ynb hs (hl rfl) wG) ?_;rintro _ H2 n2 k2 rfl;simp(disch:=first|(simp;done)|omega|rfl) [-getElem?_pos,ay,dM];exact k2
 have c':¬(l.length:Int)=(n:Int):=by omega
 simp(disch:=first|(simp;done)|omega|rfl) [-getElem?_pos,A.b7,hlen,c',dM,c,ay,bz];exact ab.refl
def LC(hs:Sl h N v (strs l))(hl:l.length<100000)(wG:∀s∈l,s.length<=100000):Fn A.C 7 [v,.int .i64 n] h N (fun u _ _=>u=.int .i64 (dM l n)):=Yi5 hs (fun _=>hl) fun s h=>by have:=wG s h;omega
def Yt3{l:List (List aH)}{a b:Nat}(hs:fE h N v l)(hl:l.length<100000)(hx:∀x∈l,x.length<100000/\∀s∈x,s.length<=100000):Fn A.C 94 [v,.int .i64 a,.int .i64 b] h N (fun u _ _=>u=.int .i64 (gX l a b)):=by
 intro w;have hlen:=hs.len;rw[aP,A.k94 (by simp)];by_cases c0:l.length=0
 ·have c0':(l.length:Int)=0:=by omega
  simp[A.b94,hlen,c0,gX,ay];exact ab.refl
 have c0':¬(l.length:Int)=0:=by omega
 have nZ:0<l.length:=by omega
 have vP:0<(l.length:Int):=by omega
 obtain⟨l0,dk⟩:=bs nZ;obtain⟨i0,o0,Sx,e0,EX,u0,z1,z2,z3,z4,z5⟩:=hs.at dk;have z6:=z5.len;rw[pK]at z6;rw[iX]at z4;obtain⟨n,hn⟩:∃n,n=l0.length:=⟨_,rfl⟩;have en:bg l=n:=by simp[bg,dk,hn]
 rw[<-hn]at z6;have zi:n<100000:=by have:=(hx l0 (cP dk)).1;omega
 by_cases c1:n=0
 ·have c1':(n:Int)=0:=by omega
  simp[A.b94,hlen,c0,nZ,z1,z3,z4,z6,c1,gX,en,ay];exact ab.refl
 have c1':¬(n:Int)=0:=by omega
 by_cases c2:a<l.length
 ·have c2':(a:Int)<(l.length:Int):=by omega
  simp[A.b94,hlen,c0,nZ,z1,z3,z4,z6,c1,c2,c2',gX,en,ay];exact ab.refl
 have c2':¬(a:Int)<(l.length:Int):=by omega
 by_cases c3:b<n
 ·have c3':(b:Int)<(n:Int):=by omega
  simp[A.b94,hlen,c0,nZ,z1,z3,z4,z6,c1,c2,c2',c3,c3',gX,en,ay];exact ab.refl
 have c3':¬(b:Int)<(n:Int):=by omega
 have e1:gX l a b=cM (l.map fun x=>dM x n):=by simp[gX,en,c0,c1,c2,c3]
 rw[e1];simp[A.b94,hlen,c0,nZ,z1,z3,z4,z6,c1,c2',c3'];refine cB [(6,8),(31,48)] (fun e r st=>az N st.w=[]/\ab h N st.h st.n/\((e=.exit 0/\cM (l.map fun x=>dM x n)=0)\/(e=.ret/\r.get 6=some (.int .i64 (cM (l.map fun x=>dM x n)))))) (fun m r st=>az N st.w=[]/\ab h N st.h st.n/\∃k,k+m=l.length/\r.get 7=some (.int .i64 k)/\cM (l.map fun x=>dM x n)=cM ((l.drop k).map fun x=>dM x n)) l.length ?_ ?_ ?_
 ·exact⟨by simp,ab.refl,0,by omega,by simp,by simp⟩
 ·rintro m r ⟨H,n1,W⟩ hr hf ⟨hW,hK,k,hk,h7,hz⟩;simp only at hW hK;rw[bG];cases m with
  |zero=>
   obtain rfl:k=l.length:=by omega
   rw[rE,yY,cM]at hz;simp[A.yq,hr,hf,h7,hlen,hz,hW,hK]
  |succ m=>
   have aD:k<l.length:=by omega
   obtain⟨s,hc⟩:=bs aD;obtain⟨i,o,cc,e,rw,u,q1,q2,q3,q4,q5⟩:=(hs.ad hK).at hc;rw[oh hc,pU,cM]at hz;have dj:(k:Int)<(l.length:Int):=by omega
   obtain⟨i1,o1,OA,e1,rw1,u1,y1,y2,y3,y4,y5⟩:=(hs.ad hK).at dk;have y6:=y5.len;rw[pK,<-hn]at y6;rw[iX]at y4;obtain⟨rfl,rfl⟩:i=i1/\o=o1:=by rw[q1]at y1;simpa using y1
   obtain⟨rfl,rfl,rfl⟩:cc=OA/\e=e1/\rw=rw1:=by rw[q3]at y3;simpa using y3
   simp[A.yq,hr,h7,dj,hlen,q1,q2,q3,q4,nZ,y4,y6];refine au (LC q5 (hx s (cP hc)).1 (hx s (cP hc)).2) ?_;rintro _ h3 n3 k3 rfl;have kk:=hK.trans k3;by_cases h0:dM s n=0
   ·rw[av h0]at hz;simp(disch:=first|(simp;done)|omega|rfl) [hf,h7,h0,hW];exact⟨m,by omega,kk,k+1,by omega,by simp,by simpa using hz⟩
   rw[ak h0]at hz;simp[hf,h0,hW,hz];exact kk
 rintro _ r ⟨H,n1,W⟩ hr ⟨hW,hK,⟨rfl,hz⟩|⟨rfl,h2⟩⟩
 ·simp only at hW hK;simp[hz,ay,hW,hK]
 simp only at hW hK;simp[h2,ay,hW,hK]
end
end Go.Mx
