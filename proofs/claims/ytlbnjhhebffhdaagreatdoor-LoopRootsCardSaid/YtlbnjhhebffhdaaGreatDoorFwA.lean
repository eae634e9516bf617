/-lensletref01-/
import Derived.Test.YtlbnjhhebffhdaaGreatDoorLqE
set_option linter.all false
set_option maxHeartbeats 8000000
namespace Go.Mx
noncomputable section
open Go Go.Proofs
set_option maxRecDepth 1000000
def A.b60:=A.q Tryz.f60
def A.k60:=@A.kk 60 31 [.tmp 4] A.b60 (by kernel_rfl) rfl
def A.w10:=A.q Tryz.f10
def A.tY:=A.ql A.w10 0 []
def A.b10:=(fun x0=>A.qb A.w10 [x0]) A.tY
def A.k10:=@A.kk 10 25 [.tmp 6] A.b10 (by kernel_rfl) rfl
def Nk(q:Rat)(d:Nat):Bool:=decide ((aq q.num.natAbs).length<=d)&&decide ((aq q.den).length<=d)
def pU(s:bj)(d:Nat):Bool:=decide (s.length<=2*d+2)&&(decide (aV s=0)&&Nk (aY s) d)
def wO(l:List bj)(n d:Nat):Bool:=decide (l.length<=n)&&l.all fun s=>pU s d
def Ztz(q:Rat):(aU q.num).length<=(Zao q).length:=by
 unfold Zao
 split<;>simp
def Yfd{h:T O}{N d:Nat}{s:bj}(hd:d<=100):Fn A.C 60 [.str s,.int .i64 (d:Nat)] h N (fun u _ _=>u=.bool (pU s d)):=by
 intro w
 rw[aZ,A.k60 (by simp)]
 by_cases c1:s.length<=2*d+2
 ·have c1':(s.length:Int)<=2*(d:Int)+2:=by omega
  simp(disch:=omega) [A.b60,c1']
  refine av (Ycy (s:=s) (by omega)) ?_
  rintro _ h1 n1 k1 rfl
  by_cases c2:aV s=0
  ·have et:=(kr c2).1
   obtain⟨q,hq⟩:∃q,aY s=q:=⟨_,rfl⟩
   rw[hq]at et
   have hl:(Zao q).length<1000000000:=by rw[et];omega
   have e1:=fun st=>Ymx (q:=q) (st:=st) hl
   have e2:=fun st=>Yok (q:=q) (st:=st) hl
   rw[et]at e1 e2
   have yD:(aU q.num).length<1000000000:=by
    have:=Ztz q
    rw[et]at this
    omega
   have e3:=fun st=>Yo5 (z:=q.num) (st:=st) yD
   by_cases c3:(aq q.num.natAbs).length<=d
   ·have c3':((aq q.num.natAbs).length:Int)<=(d:Int):=by omega
    by_cases c4:(aq q.den).length<=d
    ·have c4':((aq q.den).length:Int)<=(d:Int):=by omega
     simp[c2,e1,e2,e3,c3',c4',Ret]
     exact⟨k1,by simp[pU,Nk,c1,c2,hq,c3,c4]⟩
    ·have c4':¬((aq q.den).length:Int)<=(d:Int):=by omega
     simp[c2,e1,e2,e3,c3',c4',Ret]
     exact⟨k1,by simp[pU,Nk,c1,c2,hq,c3,c4]⟩
   ·have c3':¬((aq q.num.natAbs).length:Int)<=(d:Int):=by omega
    simp[c2,e1,e3,c3',Ret]
    exact⟨k1,by simp[pU,Nk,c1,c2,hq,c3]⟩
  ·have c2':¬((aV s:Nat):Int)=0:=by omega
   simp[c2,Ret]
   exact⟨k1,by simp[pU,c2]⟩
 ·have c1':¬(s.length:Int)<=2*(d:Int)+2:=by omega
  simp(disch:=omega) [A.b60,c1',Ret]
  exact⟨ah.refl,by simp[pU,c1]⟩
def Yn4{h:T O}{N d n:Nat}{v:V}{l:List bj}(hs:Sl h N v (strs l))(hl:l.length<9223372036854775808)(hd:d<=100)(hn:n<=1000):Fn A.C 10 [v,.int .i64 (n:Nat),.int .i64 (d:Nat)] h N (fun u _ _=>u=.bool (wO l n d)):=by
 intro w
 have hlen:=hs.len
 rw[HZ]at hlen
 rw[aZ,A.k10 (by simp)]
 by_cases c0:l.length<=n
 ·have c0':¬(n:Int)<(l.length:Int):=by omega
  have e0:wO l n d=l.all fun s=>pU s d:=by simp[wO,c0]
  rw[e0]
  simp[A.b10,hlen,c0']
  refine Zal [(6,7),(12,24)] (fun e r st=>aL N st.w=[]/\ah h N st.h st.n/\((e=.exit 0/\(l.all fun s=>pU s d)=true)\/(e=.ret/\(l.all fun s=>pU s d)=false/\r.get 6=some (.bool false)))) (fun m r st=>aL N st.w=[]/\ah h N st.h st.n/\∃k,k+m=l.length/\r.get 7=some (.int .i64 k)/\(l.all fun s=>pU s d)=((l.drop k).all fun s=>pU s d)) l.length ?_ ?_ ?_
  ·exact⟨by simp,ah.refl,0,by omega,by simp,by simp⟩
  ·rintro m r ⟨H,n1,W⟩ hr hf ⟨hW,hK,k,hk,h7,hz⟩
   simp only at hW hK
   rw[cn]
   cases m with
   |zero=>
    obtain rfl:k=l.length:=by omega
    rw[xD,List.all_nil]at hz
    simp[A.tY,hr,hf,h7,hlen,hW,hK]
    simpa using hz
   |succ m=>
    have aW:k<l.length:=by omega
    have zij:(k:Int)<(l.length:Int):=by omega
    obtain⟨s,hsk⟩:=eQ aW
    obtain⟨i,o,cc,e,rw,q1,q2,q3,q4⟩:=(hs.ai hK).at (KR hsk)
    rw[rV hsk,List.all_cons]at hz
    simp[A.tY,hr,h7,hlen,zij,q1,q3,q4]
    refine av (Yfd (s:=s) hd) ?_
    rintro _ h3 n3 k3 rfl
    have kk:=hK.trans k3
    cases xK:pU s d with
    |true=>
     rw[xK,Bool.true_and]at hz
     simp(disch:=first|(simp;done)|omega|rfl) [hf,h7,hW]
     exact⟨m,by omega,kk,k+1,by omega,by simp,by simpa using hz⟩
    |false=>
     rw[xK,Bool.false_and]at hz
     simp[hf,hW]
     exact⟨kk,by simpa using hz⟩
  ·rintro e r ⟨H,n1,W⟩ hr ⟨hW,hK,⟨rfl,hz⟩|⟨rfl,hz,h6⟩⟩
   ·simp only at hW hK
    simp[Ret,hW,hK]
    simpa using hz
   ·simp only at hW hK
    simp[h6,Ret,hW,hK]
    simpa using hz
 ·have c0':(n:Int)<(l.length:Int):=by omega
  simp[A.b10,hlen,c0',Ret]
  exact⟨ah.refl,by simp[wO,c0]⟩
variable {a b:Rat}
def A.b42:=A.q Tryz.f42
def A.k42:=@A.kk 42 21 [.tmp 2] A.b42 (by kernel_rfl) rfl
def lS(lo hi:bj):Int:=if gV [lo,hi]=0 then (if aY hi<aY lo then 11 else 0) else gV [lo,hi]
def Sg:0<sg3 (a.num*(b.den:Nat)-b.num*(a.den:Nat))↔b<a:=by
 rw[Rat.lt_iff]
 unfold sg3
 split
 ·constructor<;>intro h<;>omega
 ·split<;>constructor<;>intro h<;>omega
def KV{a b:Rat}:sg3 (a-b).num<0↔a<b:=by
 rw[wL]
 constructor<;>intro h<;>grind
def Ycb:0<sg3 (a-b).num↔b<a:=by
 have e:b<a↔0<a-b:=by constructor<;>intro h<;>grind
 have e2:0<a-b↔0<(a-b).num:=by rw[Rat.lt_iff];simp
 rw[e,e2]
 unfold sg3
 split
 ·constructor<;>intro h<;>omega
 ·split<;>constructor<;>intro h<;>omega
def Sh{a b:bj}(h:gV [a,b]=0):aV a=0/\aV b=0:=⟨Nh h a (by simp),Nh h b (by simp)⟩
def Zwy{h:T O}{N:Nat}{lo hi:bj}(l1:lo.length<=20000)(l2:hi.length<=20000):Fn A.C 42 [.agg [.str lo,.str hi]] h N (fun u _ _=>u=.int .i64 (lS lo hi)):=by
 intro w
 have kB:ah h N (h.set N (.cells [.str lo,.str hi] 32 true)) (N+1):=ah.refl.new _
 have b0:(h.set N (.cells [.str lo,.str hi] 32 true)).get N=some (.cells [.str lo,.str hi] 32 true):=by simp
 rw[aZ,A.k42 (by simp)]
 simp(disch:=first|(simp;done)|omega|rfl) [-getElem?_pos,A.b42,aj]
 generalize h.set N (.cells [.str lo,.str hi] 32 true)=HB at*
 have kC:ah HB (N+1) (HB.set (N+1) (.cells [.str lo,.str hi] 30 true)) (N+1+1):=ah.refl.new _
 have s0:Sl (HB.set (N+1) (.cells [.str lo,.str hi] 30 true)) (N+1+1) (.slice (N+1) 0 2 (some 2) 1) (strs [lo,hi]):=Sl.row (e:=30) (rw:=true) (cp:=some 2) (by omega) (by simp[strs]) rfl (by simp)
 refine av (Zx7 s0 (by simp) (fun s hs=>by
  simp at hs
  rcases hs with rfl|rfl<;>omega)) ?_
 rintro _ h1 n1 k1 rfl
 rw[show cN ([lo,hi].map fun s=>((aV s:Nat):Int))=gV [lo,hi] from rfl]
 have K1:=kC.trans k1
 have b1:=(K1.get N (by omega)).trans b0
 have lN:N<n1:=by have:=k1.le;omega
 by_cases c:gV [lo,hi]=0
 ·obtain⟨c1,c2⟩:=Sh c
  have q1:=yB c1 l1
  have q2:=yB c2 l2
  have e1:=(kr c1).1
  have e2:=(kr c2).1
  have es:lS lo hi=if aY hi<aY lo then 11 else 0:=by rw[lS,aR c]
  rw[c,es]
  generalize aY lo=a at*
  generalize aY hi=b at*
  subst e1 e2
  simp(disch:=first|(simp;done)|omega|rfl) [-getElem?_pos,a_,b1,lN]
  refine av (KX q1 q2 (by omega) (by omega) (by omega)) ?_
  rintro _ h4 n4 k4 rfl
  have K4:=(kB.trans K1).trans k4
  by_cases hz:b<a
  ·have s1:=Ycb.2 hz
   simp(disch:=first|(simp;done)|omega|rfl) [-getElem?_pos,s1,hz,Ret]
   exact K4
  ·have s1:¬0<sg3 (a-b).num:=fun h=>hz (Ycb.1 h)
   simp(disch:=first|(simp;done)|omega|rfl) [-getElem?_pos,s1,hz,Ret]
   exact K4
 ·have es:lS lo hi=gV [lo,hi]:=by rw[lS,aA c]
  rw[es]
  simp(disch:=first|(simp;done)|omega|rfl) [-getElem?_pos,c,a_,Ret]
  exact kB.trans K1
def Bc(h:T O)(N:Nat)(x:V)(a b:Rat):Prop:=∃n1 u1 n2 u2 n3 u3 n4 u4,x=.agg [.int .i64 n1,u1,.int .i64 n2,u2,.int .i64 n3,u3,.int .i64 n4,u4]/\In h N (.agg [.int .i64 n1,u1]) a.num/\In h N (.agg [.int .i64 n2,u2]) (a.den:Nat)/\In h N (.agg [.int .i64 n3,u3]) b.num/\In h N (.agg [.int .i64 n4,u4]) (b.den:Nat)
def mV.Np{h:T O}{N i:Nat}{e:TypeId}{rw:Bool}{a1 a2 a3 a4:Int}{x1 x2 x3 x4:V}{p q:Rat}(hi:i<N)(g:h.get i=some (.cells [.int .i64 a1,x1,.int .i64 a2,x2,.int .i64 a3,x3,.int .i64 a4,x4] e rw))(f1:fz h N [.int .i64 a1,x1,.int .i64 a2,x2] p)(f2:fz h N [.int .i64 a3,x3,.int .i64 a4,x4] q):mV h N (.slice i 0 2 (some 2) 4) [p,q]:=by
 refine⟨[[.int .i64 a1,x1,.int .i64 a2,x2],[.int .i64 a3,x3,.int .i64 a4,x4]],.inr ⟨i,0,some 2,_,e,rw,rfl,hi,g,fun j x hj=>?_,by simp,by simp⟩,rfl,fun j y hj=>?_⟩
 ·rcases j with _|_|j
  ·simp at hj;subst hj;simp[aK]
  ·simp at hj;subst hj;simp[aK]
  ·simp at hj
 ·rcases j with _|_|j
  ·simp at hj;subst hj;exact⟨_,rfl,f1⟩
  ·simp at hj;subst hj;exact⟨_,rfl,f2⟩
  ·simp at hj
def A.b46:=A.q Tryz.f46
def A.k46:=@A.kk 46 11 [.tmp 4] A.b46 (by kernel_rfl) rfl
def Xci{h:T O}{N K:Nat}{a b:Rat}(qa:Qb K a)(qb:Qb K b)(hK:K<=100000000):Fn A.C 46 [.str (Zao a),.str (Zao b)] h N (fun v _ _=>v=.str (Zao (if a<b then b else a))):=by
 intro w
 have tb:=SN qb
 rw[aZ,A.k46 (by simp)]
 simp(disch:=first|(simp;done)|omega|rfl) [-getElem?_pos,A.b46]
 refine av (KX qa qb (by omega) (by omega) (by omega)) ?_
 rintro _ h1 n1 k1 rfl
 by_cases c:a<b
 ·have s1:¬0<=sg3 (a-b).num:=by have:=KV.2 c;omega
  simp(disch:=first|(simp;done)|omega|rfl) [-getElem?_pos,s1,c,Ret]
  exact k1
 ·have s1:0<=sg3 (a-b).num:=by have:=mt KV.1 c;omega
  simp(disch:=first|(simp;done)|omega|rfl) [-getElem?_pos,s1,c,Ret]
  exact k1
variable {b:Rat}
def Zb2{q:Rat}:0<=zgb q:=by unfold zgb;split<;>grind
def Nw{q:Rat}:q<=zgb q/\ -q<=zgb q:=by unfold zgb;split<;>constructor<;>grind
def Zwd{q:Rat}(h1: -b<=q)(h2:q<=b):zgb q<=b:=by unfold zgb;split<;>grind
def BJ{a:Rat}:zgb (a*b)=zgb a*zgb b:=by
 unfold zgb
 by_cases ha:a<0
 ·by_cases hb:b<0
  ·have h:=Rat.mul_pos (show (0:Rat)< -a by grind) (show (0:Rat)< -b by grind)
   rw[aR ha,aR hb,aA (by grind)]
   grind
  ·have h:=Rat.mul_nonneg (show (0:Rat)<= -a by grind) (show (0:Rat)<=b by grind)
   rw[aR ha,aA hb]
   split<;>grind
 ·by_cases hb:b<0
  ·have h:=Rat.mul_nonneg (show (0:Rat)<=a by grind) (show (0:Rat)<= -b by grind)
   rw[aA ha,aR hb]
   split<;>grind
  ·have h:=Rat.mul_nonneg (show (0:Rat)<=a by grind) (show (0:Rat)<=b by grind)
   rw[aA ha,aA hb,aA (by grind)]
def Zrh{a b:Rat}:zgb (a+b)<=zgb a+zgb b:=by
 have h1:=@Nw a
 have h2:=@Nw b
 exact Zwd (by grind) (by grind)
def iK{x y d:Rat}(hd:0<=d)(h:x<=y):x*d<=y*d:=by
 have:=Rat.mul_nonneg (show (0:Rat)<=y-x by grind) hd
 grind
def rG(h:T O)(N:Nat)(c:List V)(x:Rat×Rat):Prop:=Bc h N (.agg c) x.1 x.2
structure rE (N0:Nat) (h:T O) (N:Nat) (v:V) (f:Nat->Rat×Rat) (t:Nat) (out:List (List V)):Prop where
 own:Own 8 142 N0 h N v out
 len:out.length=t
 nil:out=[]->v=.ziA
 nw:∀c∈out,∀y∈c,NW y
 bc:∀j,j<t->∃c,out[j]?=some c/\rG h N c (f j)
def Dl(E:Int)(b:Bool):V:=if E≠0 then .aX [.bool false,.int .i64 E] else .aX [.bool b,.int .i64 0]
def A.b11:=A.q Tryz.f11
def A.k11:=@A.kk 11 13 [.tmp 2,.tmp 3] A.b11 (by kernel_rfl) rfl
def Zza{h:T O}{N k:Nat}{u:V}{a:List bj}(hu:Sl h N u (strs a))(la:a.length<100000)(fa:∀s∈a,s.length<=20000)(hk:1<=k)(hk1:k<=4000)(hq:ks a=0->(∀q∈ziB a,Qb k q)/\k*5^(a.length-1)<=400000000):Fn A.C 11 [u] h N (fun x _ _=>x=Dl (ks a) (mW a.length (ziB a))):=by
 intro w
 rw[aZ,A.k11 (by simp)]
 simp(disch:=first|(simp;done)|omega|rfl) [-getElem?_pos,A.b11]
 refine av (Yqd hu la fun s hs=>by have:=fa s hs;omega) ?_
 rintro _ h1 n1 k1 rfl
 by_cases c:ks a=0
 ·obtain⟨a0,a1,a2,a3⟩:=Yti c
  obtain⟨q1,q2⟩:=hq c
  have ta:=Ymk a2
  have lra:=@Yht a
  have Il:Sl h1 n1 u (tx (ziB a)):=by rw[<-ta];exact hu.ai k1
  rw[c]
  rw[<-lra]at a0 a1 a3 q2 ⊢
  generalize ziB a=p at*
  simp(disch:=first|(simp;done)|omega|rfl) [-getElem?_pos,a_]
  refine av (Yhs Il (by omega) q1 hk1) ?_
  rintro _ h2 n2 k2 ⟨rfl,rq⟩
  simp(disch:=first|(simp;done)|omega|rfl) [-getElem?_pos,]
  refine av (Zrw (k:=k) rq.frt (by omega) (by omega) a3 q1 hk q2) ?_
  rintro _ h3 n3 k3 rfl
  simp(disch:=first|(simp;done)|omega|rfl) [-getElem?_pos,Ret,Dl]
  exact(k1.trans k2).trans k3
 ·simp(disch:=first|(simp;done)|omega|rfl) [-getElem?_pos,c,a_,Dl,Ret]
  exact k1
variable {a:Nat}
def A.b67:=A.q Tryz.f67
def A.k67:=@A.kk 67 14 [.cell 4 (some 4)] A.b67 (by kernel_rfl) rfl
def uf:((a:Nat):Rat).num=(a:Int)/\((a:Nat):Rat).den=1:=⟨Rat.num_natCast _,Rat.den_natCast _⟩
def BM{k:Nat}(h:a<2^k)(hk:1<=k):Qb k ((a:Nat):Rat):=⟨by rw[uf.1];simpa using h,by
 rw[uf.2]
 have:=Ywo (show 0<2 by decide) hk
 omega⟩
def Yn2{h:T O}{N k:Nat}{x:V}(hx:Fc h N x ((a:Nat):Rat))(ha:1<=a)(hk:k<1000)(la:wl a<1000)(hM:wl ((a^k:Nat):Int)<1000):Fn A.C 67 [x,.int .i64 k] h N (fun v h' n'=>Fc h' n' v ((a^k:Nat):Rat)):=by
 intro w
 obtain⟨n1,u1,n2,u2,rfl,s1,s2⟩:=hx
 rw[uf.1]at s1
 rw[uf.2]at s2
 have o1:=Zaj s1
 have o2:=Zaj s2
 unfold V.one at o1 o2
 have kB:ah h N ((h.set N (.cells [.int .i64 n1,u1,.int .i64 n2,u2] 102 true)).set (N+1) (.cells [.int .i64 0,.ziA,.int .i64 0,.ziA] 102 true)) (N+1+1):=(ah.refl.new _).new _
 have b0:((h.set N (.cells [.int .i64 n1,u1,.int .i64 n2,u2] 102 true)).set (N+1) (.cells [.int .i64 0,.ziA,.int .i64 0,.ziA] 102 true)).get N=some (.cells [.int .i64 n1,u1,.int .i64 n2,u2] 102 true):=by simp
 have b1:((h.set N (.cells [.int .i64 n1,u1,.int .i64 n2,u2] 102 true)).set (N+1) (.cells [.int .i64 0,.ziA,.int .i64 0,.ziA] 102 true)).get (N+1)=some (.cells [.int .i64 0,.ziA,.int .i64 0,.ziA] 102 true):=by simp
 have l2:wl (((1:Nat):Int))<10000000000:=by
  have:=(BM (a:=1) (k:=2) (by decide) (by decide)).eX.1
  rw[uf.1]at this
  omega
 have l1:wl (((1:Nat)^k:Nat):Int)<10000000000:=by rw[Nat.one_pow];exact l2
 generalize hM':a^k=M at*
 rw[aZ,A.k67 (by simp)]
 simp(disch:=first|(simp;done)|omega|rfl) [-getElem?_pos,A.b67,o1,o2,aI,aK]
 generalize (h.set N (.cells [.int .i64 n1,u1,.int .i64 n2,u2] 102 true)).set (N+1) (.cells [.int .i64 0,.ziA,.int .i64 0,.ziA] 102 true)=HB at*
 refine av (Yc1 (k:=k) (s1.ai kB) ha (by omega) (by omega) (by rw[hM'];omega)) ?_
 rintro v1 h1 m1 k1 t1
 rw[hM']at t1
 obtain⟨a1,x1,rfl,q1⟩:=t1.cells
 have b01:=(k1.get N (by omega)).trans b0
 have b11:=(k1.get (N+1) (by omega)).trans b1
 have xF:=k1.le
 have e0:N<m1:=by omega
 have e1:N+1<m1:=by omega
 simp(disch:=first|(simp;done)|omega|rfl) [-getElem?_pos,b01,e0,aI,aK]
 refine av (Yc1 (a:=1) (k:=k) ((s2.ai kB).ai k1) (by decide) (by omega) l2 l1) ?_
 rintro v2 h2 m2 k2 t2
 obtain⟨a2,x2,rfl,q2⟩:=t2.cells
 have b12:=(k2.get (N+1) e1).trans b11
 have oH:=k2.le
 have e2:N+1<m2:=by omega
 unfold V.one at q1 q2
 rw[Nat.one_pow]at t2
 simp(disch:=first|(simp;done)|omega|rfl) [-getElem?_pos,b12,e2,q1,q2,aI,aK,aj,bM,b_.chk,Ret]
 refine⟨((kB.trans k1).trans k2).set (by omega),a1,x1,a2,x2,rfl,?_,?_⟩
 ·rw[uf.1];exact(t1.ai k2).ay b12 nu0 rfl
 ·rw[uf.2];exact t2.ay b12 nu0 rfl
def Ybt{dec:Nat}(h:dec<=3):10^dec<=1000/\1<=10^dec:=⟨p9 (Ywo (by omega) h) (by decide),vu (by decide)⟩
def As(z:Int):Int:=if z<1\/2<z then 3 else 0
variable {K:Nat}
structure NB (A B:Nat) (q:Rat):Prop where
 num:q.num.natAbs<=A
 den:q.den<=B
def NB.txt{A B a b:Nat}{q:Rat}(h:NB A B q)(hA:A<10^a)(hB:B<10^b)(ha:0<a)(hb:0<b):(Zao q).length<=a+b+2:=by
 have h1:=(yK (n:=q.num.natAbs) ha).2 (oe h.num hA)
 have h2:=(yK (n:=q.den) hb).2 (oe h.den hB)
 have h3:(aU q.num).length<=(aq q.num.natAbs).length+1:=by
  unfold aU
  split<;>simp
 unfold Zao
 split
 ·omega
 ·simp
  omega
def NB.big{A B:Nat}{q:Rat}(h:NB A B q)(hA:A<10^600)(hB:B<10^600):vk q=false:=by
 have h1:=(yK (n:=q.num.natAbs) (k:=600) (by decide)).2 (oe h.num hA)
 have h2:=(yK (n:=q.den) (k:=600) (by decide)).2 (oe h.den hB)
 unfold vk
 simp
 omega
def Yud{c:Nat}(h:K<=3*c):2^K<=8^c:=p9 (Ywo (by decide) h) (Nat.le_of_eq (Nat.pow_mul 2 3 c))
def Ysb{c:Nat}(h:c≠0):8^c<10^c:=Nat.pow_lt_pow_left (by decide) h
def Yqa{c:Nat}{q:Rat}(h:Qb K q)(hK:K<=3*c)(hc:c≠0):q.num.natAbs<10^c/\q.den<10^c:=by
 have e:=oe (Yud hK) (Ysb hc)
 exact⟨Nat.lt_trans h.1 e,Nat.lt_trans h.2 e⟩
def NC{q:Rat}(h:Qb K q)(hK:K<=1800):vk q=false/\(Zao q).length<=1202:=by
 obtain⟨e1,e2⟩:=Yqa (c:=600) h (by omega) (by decide)
 have hb:NB q.num.natAbs q.den q:=⟨Yv5 _,Yv5 _⟩
 exact⟨hb.big e1 e2,by have:=hb.txt (a:=600) (b:=600) e1 e2 (by decide) (by decide);omega⟩
def Ye4:∀{l:List Int},(∀x∈l,x=0)->cN l=0
 |[],_=>rfl
 |x::l,h=>by
  rw[h x (by simp)]
  exact Ye4 (l:=l) fun y hy=>h y (by simp[hy])
def ND{K:Nat}{q:Rat}(h:Qb K q)(hK:K<=1800):aV (Zao q)=0:=by rw[Yba,(NC h hK).1];rfl
def Yrl{K:Nat}{l:List Rat}(h:∀q∈l,Qb K q)(hK:K<=1800):BB l=false:=by
 unfold BB
 rw[List.any_eq_false]
 exact fun q hq=>by rw[(NC (h q hq) hK).1];decide
def Zw0{l:List Rat}:ziB (l.map Zao)=l:=by
 unfold ziB
 rw[List.map_map]
 conv=>rhs;rw[<-List.map_id l]
 exact Nj fun q _=>og q
def Fn.imp{C:Cx}{f:Nat}{args:List V}{h:T O}{n:Nat}{P Q:V->T O->Nat->Prop}(hf:Fn C f args h n P)(hi:∀v h' n',P v h' n'->Q v h' n'):Fn C f args h n Q:=fun w=>(hf w).mono fun v st=>by
 rintro⟨hw,hk,hp⟩
 exact⟨hw,hk,hi _ _ _ hp⟩
variable {N:Nat} {h:T O}
def A.b76:=A.q Tryz.f76
def A.k76:=@A.kk 76 14 [.cell 2 (some 2)] A.b76 (by kernel_rfl) rfl
def Yz5{n:Nat}{v:V}(s:Fc h N v ((n:Nat):Rat))(hn:n<4611686018427387904):v=.agg [.int .i64 n,.ziA,.int .i64 1,.ziA]:=by
 obtain⟨n1,u1,n2,u2,rfl,s1,s2⟩:=s
 rw[uf.1]at s1
 rw[uf.2]at s2
 rcases s1 with⟨e1,_,_⟩|⟨_,_,_,_,_,_,b1⟩
 ·rcases s2 with⟨e2,_,_⟩|⟨_,_,_,_,_,_,b2⟩
  ·simp only[V.agg.injEq,iA,V.int.injEq,true_and,and_true]at e1 e2
   obtain⟨rfl,rfl⟩:=e1
   obtain⟨rfl,rfl⟩:=e2
   rfl
  ·exfalso
   simp at b2
 ·exfalso
  simp at b1
  omega
def Yz3{n:Nat}(hn:n<4611686018427387904):Fc h N (.agg [.int .i64 n,.ziA,.int .i64 1,.ziA]) ((n:Nat):Rat):=
 ⟨n,.ziA,1,.ziA,rfl,by rw[uf.1];exact In.small (by omega) (by omega),by rw[uf.2];exact In.small (by decide) (by decide)⟩
def Xcn{q:Rat}{x:V}(hx:Fc h N x q)(la:wl q.num<10000000000)(lb:wl (q.den:Nat)<10000000000):Fn A.C 76 [x] h N (fun v h' n'=>In h' n' v (q.num/(q.den:Nat))):=by
 intro w
 obtain⟨n1,u1,n2,u2,rfl,s1,s2⟩:=hx
 have o1:=Zaj s1
 have o2:=Zaj s2
 unfold V.one at o1 o2
 have kB:ah h N ((h.set N (.cells [.int .i64 n1,u1,.int .i64 n2,u2] 102 true)).set (N+1) (.cells [.int .i64 0,.ziA] 100 true)) (N+1+1):=(ah.refl.new _).new _
 have b1:((h.set N (.cells [.int .i64 n1,u1,.int .i64 n2,u2] 102 true)).set (N+1) (.cells [.int .i64 0,.ziA] 100 true)).get (N+1)=some (.cells [.int .i64 0,.ziA] 100 true):=by simp
 rw[aZ,A.k76 (by simp)]
 simp(disch:=first|(simp;done)|omega|rfl) [-getElem?_pos,A.b76,aI,aK,o1,o2]
 generalize (h.set N (.cells [.int .i64 n1,u1,.int .i64 n2,u2] 102 true)).set (N+1) (.cells [.int .i64 0,.ziA] 100 true)=HB at*
 have dp:(0:Int)<(q.den:Nat):=by have:=q.den_pos;omega
 refine av (Ztb (s1.ai kB) (s2.ai kB) dp la lb) ?_
 rintro _ h1 m1 k1 ⟨x,y,rfl,i1,i2⟩
 obtain⟨xn,xu,rfl,x1⟩:=i1.cells
 obtain⟨yn,yu,rfl,y1⟩:=i2.cells
 unfold V.one at x1 y1
 have xF:=k1.le
 have g1:=(k1.get (N+1) (by omega)).trans b1
 have ne1:¬N+1=m1:=by omega
 have ne2:¬N+1=m1+1:=by omega
 have ne3:¬m1=N+1:=by omega
 have ne4:¬m1+1=N+1:=by omega
 have ne5:¬N=m1:=by omega
 have ne6:¬m1=N:=by omega
 have gw:¬N+1<N:=by omega
 have fj:¬m1<N:=by omega
 have AE:¬m1+1<N:=by omega
 simp(disch:=first|(simp;done)|omega|rfl) [-getElem?_pos,aI,aK,aj,bM,x1,y1,g1,ne1,ne2,ne3,ne4,ne5,ne6,b_.chk,Ret,aL,gw,fj,AE]
 have kz:=(((((kB.trans k1).trans (aO ah.refl (.cells [.int .i64 0,.ziA] 100 true))).trans (aO ah.refl (.cells [.int .i64 0,.ziA] 100 true))).set (i:=m1) (o:=.cells [.int .i64 xn,xu] 100 true) (by omega)).set (i:=m1+1) (o:=.cells [.int .i64 yn,yu] 100 true) (by omega)).set (i:=N+1) (o:=.cells [.int .i64 xn,xu] 100 true) (by omega)
 refine⟨kz,?_⟩
 have kY:=(((ah.refl.trans (aO (ah.refl (h:=h1) (n:=m1)) (.cells [.int .i64 0,.ziA] 100 true))).trans (aO ah.refl (.cells [.int .i64 0,.ziA] 100 true))).set (i:=m1) (o:=.cells [.int .i64 xn,xu] 100 true) (by omega)).set (i:=m1+1) (o:=.cells [.int .i64 yn,yu] 100 true) (by omega)
 exact(i1.ai kY).ay (c0:=[.int .i64 0,.ziA]) (e0:=100) (w0:=true) (by simp[g1,ne1,ne2,ne3,ne4,ne5,ne6]) (by intro x hx m;simp at hx;rcases hx with rfl|rfl<;>simp) rfl
def A.b47:=A.q Tryz.f47
def A.k47:=@A.kk 47 5 [.tmp 2] A.b47 (by kernel_rfl) rfl
def Xdo{q:Rat}{K:Nat}{h:T O}{N:Nat}(hq:Qb K q)(hK:K<=1000):Fn A.C 47 [.str (Zao q)] h N (fun v _ _=>v=.str (Zao (q*(1/2)))):=by
 intro w
 have t2:Zao (1/2)=[49,47,50]:=by decide+kernel
 have qh:Qb 2 ((1:Rat)/2):=⟨by decide+kernel,by decide+kernel⟩
 rw[aZ,A.k47 (by simp)]
 simp(disch:=first|(simp;done)|omega|rfl) [-getElem?_pos,A.b47]
 rw[<-t2]
 refine av (SP hq qh (by omega) (by omega)) ?_
 rintro _ h1 n1 k1 rfl
 simp(disch:=first|(simp;done)|omega|rfl) [-getElem?_pos,Ret]
 exact k1
variable {U:Nat}
def inS(p:List Rat)(U n:Nat):Bool:=mW p.length (Xae p ((n:Rat)/(U:Rat)))
def zge(p:List Rat)(U:Nat):Nat->Nat->Nat->Nat×Nat
 |0,l,h=>(l,h)
 |f+1,l,h=>if inS p U h=true then (l,h) else zge p U f h (2*h)
def Xak(p:List Rat)(U:Nat):Nat->Nat->Nat->Nat×Nat
 |0,l,h=>(l,h)
 |f+1,l,h=>if h<=l+1 then (l,h) else if inS p U ((l+h)/2)=true then Xak p U f l ((l+h)/2) else Xak p U f ((l+h)/2) h
def Xa5(p:List Rat)(U B:Nat):Nat×Nat:=Xak p U B (zge p U B 0 1).1 (zge p U B 0 1).2
structure Xd4 (p:List Rat) (U B l h:Nat):Prop where
 lt:l<h
 le:h<=2^B
 hi:inS p U h=true
 lo:l=0\/inS p U l=false
def Xay{p:List Rat}{U B:Nat}(hB:∀n,2^B<=n->inS p U n=true):∀{f l h:Nat},f<=B->h=2^(B-f)->l<h->h-l<=2^(B-f)->(l=0\/inS p U l=false)->Xd4 p U B (zge p U f l h).1 (zge p U f l h).2/\(zge p U f l h).2-(zge p U f l h).1<=2^B
 |0,l,h,hf,hh,hl,hd,hi=>by
  rw[Nat.sub_zero]at hh hd
  exact⟨⟨hl,by show h<=2^B;omega,hB h (by omega),hi⟩,by show h-l<=2^B;omega⟩
 |f+1,l,h,hf,hh,hl,hd,hi=>by
  have hp:2^(B-(f+1))<=2^B:=Ywo (by decide) (by omega)
  unfold zge
  by_cases c:inS p U h=true
  ·rw[aR c]
   exact⟨⟨hl,by omega,c,hi⟩,by simp only;omega⟩
  ·rw[aA c]
   have e:2^(B-f)=2*2^(B-(f+1)):=by
    rw[show B-f=B-(f+1)+1 by omega,fV,iz]
   have h1:1<=2^(B-(f+1)):=vu (by decide)
   exact Xay hB (by omega) (by omega) (by omega) (by omega) (.inr (by simpa using c))
def Xb7{p:List Rat}{U B:Nat}:∀{f l h:Nat},Xd4 p U B l h->h-l<=2^f->Xd4 p U B (Xak p U f l h).1 (Xak p U f l h).2/\(Xak p U f l h).2=(Xak p U f l h).1+1
 |0,l,h,R,hd=>by
  have:=R.lt
  exact⟨R,by simp only[Xak];omega⟩
 |f+1,l,h,R,hd=>by
  have aW:=R.lt
  have hle:=R.le
  rw[fV]at hd
  unfold Xak
  by_cases c:h<=l+1
  ·rw[aR c]
   exact⟨R,by simp only;omega⟩
  ·rw[aA c]
   by_cases c2:inS p U ((l+h)/2)=true
   ·rw[aR c2]
    exact Xb7 ⟨by omega,by omega,c2,R.lo⟩ (by omega)
   ·rw[aA c2]
    exact Xb7 ⟨by omega,hle,R.hi,.inr (by simpa using c2)⟩ (by omega)
def Xdz{p:List Rat}{B:Nat}(hB:∀n,2^B<=n->inS p U n=true):Xd4 p U B (Xa5 p U B).1 (Xa5 p U B).2/\(Xa5 p U B).2=(Xa5 p U B).1+1:=by
 have e:2^(B-B)=1:=by rw[Nat.sub_self]
 obtain⟨h1,h2⟩:=Xay hB (f:=B) (l:=0) (h:=1) (Yv5 _) e.symm (by decide) (by omega) (.inl rfl)
 exact Xb7 h1 h2
def Lo{f g:Nat->Rat}:∀{n:Nat},(∀k,k<n->f k<=g k)->sR f n<=sR g n
 |0,_=>Rat.le_refl
 |n+1,h=>by
  have h1:=Lo (n:=n) fun k hk=>h k (by omega)
  have h2:=h n (by omega)
  show sR f n+f n<=sR g n+g n
  grind
def Dt{f:Nat->Rat}{n:Nat}(h:∀k,k<n->0<=f k):0<=sR f n:=by
 induction n with
 |zero=>exact Rat.le_refl
 |succ n ih=>
  have h1:=ih fun k hk=>h k (by omega)
  have h2:=h n (by omega)
  show 0<=sR f n+f n
  grind
variable {U j n:Nat}
def Xan:((n:Rat)*(1/2)).num/((((n:Rat)*(1/2)).den:Nat):Int)=((n/2:Nat):Int):=by
 have dp:0<((n:Rat)*(1/2)).den:=Xed _
 have h1:(n:Rat)*(1/2)*((((n:Rat)*(1/2)).den:Nat):Rat)=((((n:Rat)*(1/2)).num:Int):Rat):=by
  have h0:=AA ((n:Rat)*(1/2))
  rw[Rat.divInt_eq_div]at h0
  have hd:((((n:Rat)*(1/2)).den:Nat):Rat)≠0:=by
   intro hc
   have:=congrArg Rat.num hc
   rw[uf.1]at this
   simp at this
   omega
  have h2:=Rat.div_mul_cancel (a:=((((n:Rat)*(1/2)).num:Int):Rat)) hd
  conv=>lhs;lhs;rw[<-h0]
  exact h2
 generalize ((n:Rat)*(1/2)).num=z at*
 generalize ((n:Rat)*(1/2)).den=d at*
 have h2:((z*2:Int):Rat)=(((n:Int)*(d:Int):Int):Rat):=by
  rw[Rat.intCast_mul,Rat.intCast_mul,<-h1]
  have e1:((2:Int):Rat)=2:=rfl
  have e2:(((n:Nat):Int):Rat)=(n:Rat):=rfl
  have e3:(((d:Nat):Int):Rat)=(d:Rat):=rfl
  rw[e1,e2,e3]
  grind
 have h3:z*2=(n:Int)*(d:Int):=Rat.intCast_inj.1 h2
 obtain⟨b,hb,pN⟩:∃b:Int,(n:Int)=2*((n/2:Nat):Int)+b/\(b=0\/b=1):=⟨(n:Int)-2*((n/2:Nat):Int),by omega,by omega⟩
 rw[hb]at h3
 generalize ((n/2:Nat):Int)=a at*
 have e4:(2*a+b)*(d:Int)=2*(a*d)+b*d:=by rw[Int.add_mul,Int.mul_assoc]
 have e5:(a+1)*(d:Int)=a*d+d:=by rw[Int.add_mul,Int.one_mul]
 rw[e4]at h3
 have g1:a<=z/(d:Int):=Int.le_ediv_of_mul_le (by omega) (by rcases pN with rfl|rfl<;>omega)
 have g2:z/(d:Int)<a+1:=Int.ediv_lt_of_lt_mul (by omega) (by rw[e5];rcases pN with rfl|rfl<;>omega)
 omega
def Xd0{x:Rat}(hx:x≠0):∀t,pwR x t≠0
 |0=>by rw[pwR];decide
 |t+1=>by
  rw[pwR]
  intro hc
  rcases Rat.mul_eq_zero.1 hc with h|h
  ·exact Xd0 hx t h
  ·exact hx h
structure RdH (p:List Rat) (j B U dec:Nat):Prop where
 l1:2<=p.length
 l2:p.length<=13
 z:pg p (p.length-1)≠0
 q:∀y∈p,Qb j y
 j1:j<=1000
 kk:(j+(p.length*(B+11)+1))*5^(p.length-1)<=200000000
 b:B<=50
 big:∀n,2^B<=n->inS p U n=true
 u:U=10^dec
 d:dec<=3
def RdH.ub{p:List Rat}{B dec:Nat}(R:RdH p j B U dec):U<=1000/\1<=U:=by
 have:=Ybt R.d
 rw[<-R.u]at this
 exact this
def RdH.u0{p:List Rat}{B dec:Nat}(R:RdH p j B U dec):((U:Nat):Rat)≠0:=by
 intro hc
 have:=congrArg Rat.num hc
 rw[uf.1]at this
 have h1:=R.ub
 simp at this
 omega
def RdH.qu{p:List Rat}{B dec:Nat}(R:RdH p j B U dec):Qb 10 ((U:Nat):Rat):=BM (by have:=R.ub;omega) (by decide)
def RdH.qn{p:List Rat}{B dec:Nat}(_:RdH p j B U dec)(hn:n<=2^B):Qb (B+1) ((n:Nat):Rat):=BM (by rw[fV];have:1<=2^B:=vu (by decide);omega) (by omega)
def RdH.qx{p:List Rat}{B dec:Nat}(R:RdH p j B U dec)(hn:n<=2^B):Qb (B+11) ((n:Rat)/(U:Rat)):=by
 rw[Rat.div_def]
 exact(R.qn hn).mul (R.qu.inv R.u0)
def RdH.nz{p:List Rat}{B dec:Nat}(R:RdH p j B U dec)(hn:1<=n):pg (Xae p ((n:Rat)/(U:Rat))) (p.length-1)≠0:=by
 have l1:=R.l1
 have e:=Xag (x:=(n:Rat)/(U:Rat)) (iy (p:=p) (i:=p.length-1) (by omega))
 have e2:pg (Xae p ((n:Rat)/(U:Rat))) (p.length-1)=pg p (p.length-1)*pwR ((n:Rat)/(U:Rat)) (p.length-1):=by
  unfold pg
  rw[e]
  rfl
 have n0:((n:Nat):Rat)≠0:=by
  intro hc
  have:=congrArg Rat.num hc
  rw[uf.1]at this
  simp at this
  omega
 have x0:(n:Rat)/(U:Rat)≠0:=by
  intro hc
  have h1:=Rat.div_mul_cancel (a:=(n:Rat)) R.u0
  rw[hc,Rat.zero_mul]at h1
  exact n0 h1.symm
 rw[e2]
 intro hc
 rcases Rat.mul_eq_zero.1 hc with h|h
 ·exact R.z h
 ·exact Xd0 x0 _ h
def A.b64:=A.q Tryz.f64
def A.k64:=@A.kk 64 14 [.tmp 4] A.b64 (by kernel_rfl) rfl
def A.b68:=A.q Tryz.f68
def A.k68:=@A.kk 68 11 [.tmp 4] A.b68 (by kernel_rfl) rfl
def Yz7(a:List bj)(e:Int):Int:=cN [ks a,e,if a.length=1 then 7 else 0]
def Xby{h:T O}{N:Nat}{u:V}{a:List bj}{e:Int}(hu:Sl h N u (strs a))(la:a.length<100000)(fa:∀s∈a,s.length<=20000):Fn A.C 64 [u,.int .i64 e] h N (fun x _ _=>x=.int .i64 (Yz7 a e)):=by
 intro w
 have hlu:=hu.len
 rw[HZ]at hlu
 rw[aZ,A.k64 (by simp)]
 simp(disch:=first|(simp;done)|omega|rfl) [-getElem?_pos,A.b64]
 refine av (Yqd hu la fun s hs=>by have:=fa s hs;omega) ?_
 rintro _ h1 n1 k1 rfl
 have hi:n1<n1+1:=by omega
 by_cases c:a.length=1
 ·have ci:(a.length:Int)=1:=by omega
  simp(disch:=first|(simp;done)|omega|rfl) [-getElem?_pos,hlu,c,ci,a_,wM,aj,Zje hi,Yz7,b_.chk,Ret]
  exact k1.trans (aO ah.refl _)
 ·have ci:¬(a.length:Int)=1:=by omega
  simp(disch:=first|(simp;done)|omega|rfl) [-getElem?_pos,hlu,c,ci,a_,wM,aj,Zje hi,Yz7,b_.chk,Ret]
  exact k1.trans (aO ah.refl _)
def Xbx{h:T O}{N j B U dec n P Q:Nat}{v:V}{p:List Rat}{e1 e2:TypeId}{w1 w2:Bool}(hv:Al h N v p)(R:RdH p j B U dec)(hn:n<=2^B)(n1:1<=n)(gP:h.get P=some (.cells [v] e1 w1))(hP:P<N)(gQ:h.get Q=some (.cells [.int .i64 (U:Nat),.ziA,.int .i64 1,.ziA] e2 w2))(hQ:Q<N):FnV A.C (.func 68 [] [.ptr P 0,.ptr Q 0]) [.agg [.int .i64 (n:Nat),.ziA,.int .i64 1,.ziA]] h N (fun x _ _=>x=.bool (inS p U n)):=by
 intro w
 have hb:=R.b
 have j1:=R.j1
 have l1:=R.l1
 have l2:=R.l2
 have ub:=R.ub
 have e50:2^B<=2^50:=Ywo (by decide) hb
 have c50:(2:Nat)^50=1125899906842624:=by decide
 have kB:ah h N (h.set N (.cells [.int .i64 (n:Nat),.ziA,.int .i64 1,.ziA] 102 true)) (N+1):=ah.refl.new _
 have b0:(h.set N (.cells [.int .i64 (n:Nat),.ziA,.int .i64 1,.ziA] 102 true)).get N=some (.cells [.int .i64 (n:Nat),.ziA,.int .i64 1,.ziA] 102 true):=by simp
 have gP':=(kB.get P hP).trans gP
 have gQ':=(kB.get Q hQ).trans gQ
 have hP':P<N+1:=by omega
 have hQ':Q<N+1:=by omega
 have neP:¬P=N:=by omega
 have neQ:¬Q=N:=by omega
 have fn:Fc (h.set N (.cells [.int .i64 (n:Nat),.ziA,.int .i64 1,.ziA] 102 true)) (N+1) (.agg [.int .i64 (n:Nat),.ziA,.int .i64 1,.ziA]) ((n:Nat):Rat):=Yz3 (by omega)
 have fu:Fc (h.set N (.cells [.int .i64 (n:Nat),.ziA,.int .i64 1,.ziA] 102 true)) (N+1) (.agg [.int .i64 (U:Nat),.ziA,.int .i64 1,.ziA]) ((U:Nat):Rat):=Yz3 (by omega)
 have Jl:=hv.ai kB
 rw[aZ,A.k68 (by simp)]
 have qn:=R.qn hn
 have qx:=R.qx hn
 have wn:=qn.eX
 have wu:=R.qu.eX
 have wi:=(R.qu.inv R.u0).eX
 simp(disch:=first|(simp;done)|omega|rfl) [-getElem?_pos,A.b68,gP,gQ,hP,hQ,hP',hQ',neP,neQ,aI,aK]
 refine av (Zvr fn fu R.u0 (by omega) (by omega) (by omega) (by omega) (by omega) (by omega)) ?_
 rintro x1 h1 m1 k1 f1
 simp(disch:=first|(simp;done)|omega|rfl) [-getElem?_pos,]
 refine av (Xbr (Jl.ai k1) f1 R.q qx (by omega) (by omega) (by omega) (by omega)) ?_
 rintro y h2 m2 k2 t2
 simp(disch:=first|(simp;done)|omega|rfl) [-getElem?_pos,]
 refine av (Zrw (k:=j+(p.length*(B+11)+1)) t2 (by rw[Yz1];omega) (by rw[Yz1];omega) (by rw[Yz1];exact R.nz n1) (Xbs R.q qx) (by omega) (by rw[Yz1];have:=R.kk;omega)) ?_
 rintro _ h3 m3 k3 rfl
 rw[show mW (Xae p ((n:Rat)/(U:Rat))).length (Xae p ((n:Rat)/(U:Rat)))=inS p U n by rw[Yz1];rfl]
 simp(disch:=first|(simp;done)|omega|rfl) [-getElem?_pos,Ret]
 exact((kB.trans k1).trans k2).trans k3
end
end Go.Mx
