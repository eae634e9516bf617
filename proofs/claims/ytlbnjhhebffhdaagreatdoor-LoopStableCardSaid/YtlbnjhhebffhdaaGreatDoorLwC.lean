/-lensletref01-/
import Derived.Test.YtlbnjhhebffhdaaGreatDoorLqC
set_option linter.all false
set_option maxHeartbeats 8000000
namespace Go.Mx
noncomputable section
open Go Go.Proofs
set_option maxRecDepth 1000000
def A.zhE:=A.q Tryz.f158
def A.zgo:=A.ql A.zhE 0 []
def A.b158:=(fun x0=>A.qb A.zhE [x0]) A.zgo
def A.k158:=@A.kk 158 27 [.tmp 4] A.b158 (by kernel_rfl) rfl
def A.b85:=A.q Tryz.f85
def A.k85:=@A.kk 85 5 [.tmp 2] A.b85 (by kernel_rfl) rfl
def Xbu{h:T O}{N dec:Nat}(eN:dec<=3):Fn A.C 158 [.str [49,48],.int .i64 dec] h N (fun v _ _=>v=.str (Zao ((10^dec:Nat):Rat))):=by
 intro w;obtain⟨u1,u2⟩:=Ybt eN;have De:Zao ((10:Nat):Rat)=[49,48]:=by decide+kernel
 have e1:Zao ((1:Nat):Rat)=[49]:=by decide+kernel
 have c0:¬(dec:Int)<0:=by omega
 generalize hT:10^dec=T at*;rw[aZ,A.k158 (by simp)];simp(disch:=first|(simp;done)|omega|rfl) [-getElem?_pos,A.b158,c0];refine Zal [(0,1),(5,5),(13,25)] (fun e r st=>e=.exit 0/\aL N st.w=[]/\ah h N st.h st.n/\r.get 5=some (.str (Zao ((T:Nat):Rat)))) (fun m r st=>aL N st.w=[]/\ah h N st.h st.n/\m<=3/\r.get 1=some (.int .i64 m)/\∃a x:Nat,r.get 5=some (.str (Zao ((a:Nat):Rat)))/\r.get 0=some (.str (Zao ((x:Nat):Rat)))/\1<=a/\1<=x/\a*x^m=T) dec ?_ ?_ ?_
 ·exact⟨by simp,ah.refl,eN,by simp,1,10,by rw[e1];simp,by rw[De];simp,by decide,by decide,by rw[Nat.one_mul];exact hT⟩
 ·rintro m r ⟨H,n,W⟩ hr hf ⟨hW,hK,hm,h1,a,x,h5,h0,a1,x1,hax⟩;simp only at hW hK;rw[cn];have xm:1<=x^m:=vu (by omega);have ba:a<=1000:=by have:=jh a xm;omega
  have qa:=BM (a:=a) (k:=20) (by omega) (by decide);have mm:∀y z:Nat,((y:Nat):Rat)*((z:Nat):Rat)=((y*z:Nat):Rat):=fun y z=>(Rat.natCast_mul _ _).symm;match m,hm with
  |0,_=>
   rw[AF,wP]at hax
   simp(disch:=first|(simp;done)|omega|rfl) [-getElem?_pos,A.zgo,hr,hf,h1,h5,hW,hK,hax]
  |1,_=>
   rw[Nat.pow_one]at hax
   have bx:x<=1000:=by have:=ot x a1;omega
   have qx:=BM (a:=x) (k:=20) (by omega) (by decide)
   simp(disch:=first|(simp;done)|omega|rfl) [-getElem?_pos,A.zgo,hr,hf,h1,h5,h0,a_]
   refine av (SP qa qx (by decide) (by decide)) ?_
   rintro _ h3 n3 k3 rfl
   simp(disch:=first|(simp;done)|omega|rfl) [-getElem?_pos,hr,hf,h1,h5,h0]
   refine av (SP qx qx (by decide) (by decide)) ?_
   rintro _ h4 n4 k4 rfl
   simp(disch:=first|(simp;done)|omega|rfl) [-getElem?_pos,hr,hf,h1]
   rw[mm,mm]
   exact⟨hW,(hK.trans k3).trans k4,a*x,rfl,x*x,rfl,xM a1 x1,xM x1 x1,by simpa using hax⟩
  |2,_=>
   have x2:x^2=x*x:=by rw[fV,Nat.pow_one]
   rw[x2]at hax
   have bx:x<=1000:=by
    have h1:=ot (x*x) a1
    have h2:=ot x x1
    omega
   have qx:=BM (a:=x) (k:=20) (by omega) (by decide)
   simp(disch:=first|(simp;done)|omega|rfl) [-getElem?_pos,A.zgo,hr,hf,h1,h5,h0,a_]
   refine av (SP qx qx (by decide) (by decide)) ?_
   rintro _ h4 n4 k4 rfl
   simp(disch:=first|(simp;done)|omega|rfl) [-getElem?_pos,hr,hf,h1,h5]
   exact⟨1,by omega,hW,hK.trans k4,by omega,by simp,a,rfl,x*x,by rw[mm],a1,xM x1 x1,by rw[Nat.pow_one];exact hax⟩
  |3,_=>
   have x3:x^3=x*(x*x):=by rw[fV,fV,Nat.pow_one,AG]
   rw[x3]at hax
   have bx:x<=1000:=by
    have h1:=ot (x*(x*x)) a1
    have h2:=jh x (xM x1 x1)
    omega
   have qx:=BM (a:=x) (k:=20) (by omega) (by decide)
   simp(disch:=first|(simp;done)|omega|rfl) [-getElem?_pos,A.zgo,hr,hf,h1,h5,h0,a_]
   refine av (SP qa qx (by decide) (by decide)) ?_
   rintro _ h3 n3 k3 rfl
   simp(disch:=first|(simp;done)|omega|rfl) [-getElem?_pos,hr,hf,h1,h5,h0]
   refine av (SP qx qx (by decide) (by decide)) ?_
   rintro _ h4 n4 k4 rfl
   simp(disch:=first|(simp;done)|omega|rfl) [-getElem?_pos,hr,hf,h1]
   exact⟨1,by omega,hW,(hK.trans k3).trans k4,by omega,by simp,a*x,by rw[mm],x*x,by rw[mm],xM a1 x1,xM x1 x1,by rw[Nat.pow_one,AG];exact hax⟩
 rintro _ r ⟨H,n,W⟩ hr ⟨rfl,hW,hK,h5⟩;simp only at hW hK;simp(disch:=first|(simp;done)|omega|rfl) [-getElem?_pos,hr,h5,hW,hK,Ret]
def Xdw{h:T O}{N dec:Nat}(eN:dec<=3):Fn A.C 85 [.int .i64 dec] h N (fun v _ _=>v=.str (Zao ((10^dec:Nat):Rat))):=by intro w;have f:=fun (h':T O) (n':Nat)=>Xbu (h:=h') (N:=n') eN;generalize 10^dec=U at*;rw[aZ,A.k85 (by simp)];simp(disch:=first|(simp;done)|omega|rfl) [-getElem?_pos,A.b85];refine av (f _ _) ?_;rintro _ h1 n1 k1 rfl;simp(disch:=first|(simp;done)|omega|rfl) [-getElem?_pos,Ret];exact k1
def A.b39:=A.q Tryz.f39
def A.k39:=@A.kk 39 8 [.tmp 2] A.b39 (by kernel_rfl) rfl
def Zpt{q:Rat}{st:St}(hl:(Zao q).length<1000000000):A.C.call (.func 39 [] []) [.str (Zao q)] st=some (.bool (decide (q.den=1)),st):=by
 have hs:=fun st=>By (s:=Zao q) (st:=st) (by omega);have hle:=BN (Zao q);apply Call.eq;rw[aZ,A.k39 (by simp)];by_cases h:q.den=1
 ·have e:ak (Zao q)=(Zao q).length:=by have h1:¬ak (Zao q)<(Zao q).length:=fun hx=>(yJ q).1 hx h;omega
  simp(disch:=first|(simp;done)|omega|rfl) [-getElem?_pos,A.b39,hs,e,h,a_]
 have e:=(yJ q).2 h;have e':¬(ak (Zao q):Int)=((Zao q).length:Int):=by omega
 have e2:¬ak (Zao q)=(Zao q).length:=by omega
 simp(disch:=first|(simp;done)|omega|rfl) [-getElem?_pos,A.b39,hs,e',e2,h,a_]
def As(z:Int):Int:=if z<1\/2<z then 3 else 0
variable {K:Nat}
structure NB (A B:Nat) (q:Rat):Prop where
 num:q.num.natAbs<=A
 den:q.den<=B
def NB.txt{A B a b:Nat}{q:Rat}(h:NB A B q)(hA:A<10^a)(hB:B<10^b)(ha:0<a)(hb:0<b):(Zao q).length<=a+b+2:=by
 have h1:=(yK (n:=q.num.natAbs) ha).2 (oe h.num hA);have h2:=(yK (n:=q.den) hb).2 (oe h.den hB);have h3:(aU q.num).length<=(aq q.num.natAbs).length+1:=by unfold aU;split<;>simp
 unfold Zao;split
 ·omega
 simp;omega
def NB.big{A B:Nat}{q:Rat}(h:NB A B q)(hA:A<10^600)(hB:B<10^600):vk q=false:=by have h1:=(yK (n:=q.num.natAbs) (k:=600) (by decide)).2 (oe h.num hA);have h2:=(yK (n:=q.den) (k:=600) (by decide)).2 (oe h.den hB);unfold vk;simp;omega
def Yud{c:Nat}(h:K<=3*c):2^K<=8^c:=p9 (Ywo (by decide) h) (Nat.le_of_eq (Nat.pow_mul 2 3 c))
def Ysb{c:Nat}(h:c≠0):8^c<10^c:=Nat.pow_lt_pow_left (by decide) h
def Yqa{c:Nat}{q:Rat}(h:Qb K q)(hK:K<=3*c)(hc:c≠0):q.num.natAbs<10^c/\q.den<10^c:=by have e:=oe (Yud hK) (Ysb hc);exact⟨Nat.lt_trans h.1 e,Nat.lt_trans h.2 e⟩
def NC{q:Rat}(h:Qb K q)(hK:K<=1800):vk q=false/\(Zao q).length<=1202:=by obtain⟨e1,e2⟩:=Yqa (c:=600) h (by omega) (by decide);have hb:NB q.num.natAbs q.den q:=⟨Yv5 _,Yv5 _⟩;exact⟨hb.big e1 e2,by have:=hb.txt (a:=600) (b:=600) e1 e2 (by decide) (by decide);omega⟩
def Xea{s:bj}(h:pU s 4=true):aV s=0/\s.length<=10/\Qb 14 (aY s):=by
 simp only[pU,Nk,jc,decide_eq_true_eq]at h;obtain⟨h0,h1,h2,h3⟩:=h;rw[yK (by decide)]at h2 h3;have e:(10:Nat)^4<2^14:=by decide
 exact⟨h1,by omega,by omega,by omega⟩
variable {N:Nat} {h:T O}
def A.b76:=A.q Tryz.f76
def A.k76:=@A.kk 76 14 [.cell 2 (some 2)] A.b76 (by kernel_rfl) rfl
def Yz5{n:Nat}{v:V}(s:Fc h N v ((n:Nat):Rat))(hn:n<4611686018427387904):v=.agg [.int .i64 n,.ziA,.int .i64 1,.ziA]:=by
 obtain⟨n1,u1,n2,u2,rfl,s1,s2⟩:=s;rw[uf.1]at s1;rw[uf.2]at s2;rcases s1 with⟨e1,_,_⟩|⟨_,_,_,_,_,_,b1⟩
 ·rcases s2 with⟨e2,_,_⟩|⟨_,_,_,_,_,_,b2⟩
  ·simp only[V.agg.injEq,iA,V.int.injEq,true_and,and_true]at e1 e2;obtain⟨rfl,rfl⟩:=e1;obtain⟨rfl,rfl⟩:=e2;rfl
  exfalso;simp at b2
 exfalso;simp at b1;omega
def Yz3{n:Nat}(hn:n<4611686018427387904):Fc h N (.agg [.int .i64 n,.ziA,.int .i64 1,.ziA]) ((n:Nat):Rat):=
 ⟨n,.ziA,1,.ziA,rfl,by rw[uf.1];exact In.small (by omega) (by omega),by rw[uf.2];exact In.small (by decide) (by decide)⟩
def Xcn{q:Rat}{x:V}(hx:Fc h N x q)(la:wl q.num<10000000000)(lb:wl (q.den:Nat)<10000000000):Fn A.C 76 [x] h N (fun v h' n'=>In h' n' v (q.num/(q.den:Nat))):=by
 intro w;obtain⟨n1,u1,n2,u2,rfl,s1,s2⟩:=hx;have o1:=Zaj s1;have o2:=Zaj s2;unfold V.one at o1 o2;have kB:ah h N ((h.set N (.cells [.int .i64 n1,u1,.int .i64 n2,u2] 102 true)).set (N+1) (.cells [.int .i64 0,.ziA] 100 true)) (N+1+1):=(ah.refl.new _).new _;have b1:((h.set N (.cells [.int .i64 n1,u1,.int .i64 n2,u2] 102 true)).set (N+1) (.cells [.int .i64 0,.ziA] 100 true)).get (N+1)=some (.cells [.int .i64 0,.ziA] 100 true):=by simp
 rw[aZ,A.k76 (by simp)];simp(disch:=first|(simp;done)|omega|rfl) [-getElem?_pos,A.b76,aI,aK,o1,o2];generalize (h.set N (.cells [.int .i64 n1,u1,.int .i64 n2,u2] 102 true)).set (N+1) (.cells [.int .i64 0,.ziA] 100 true)=HB at*;have dp:(0:Int)<(q.den:Nat):=by have:=q.den_pos;omega
 refine av (Ztb (s1.ai kB) (s2.ai kB) dp la lb) ?_;rintro _ h1 m1 k1 ⟨x,y,rfl,i1,i2⟩;obtain⟨xn,xu,rfl,x1⟩:=i1.cells;obtain⟨yn,yu,rfl,y1⟩:=i2.cells;unfold V.one at x1 y1;have xF:=k1.le;have g1:=(k1.get (N+1) (by omega)).trans b1;have ne1:¬N+1=m1:=by omega
 have ne2:¬N+1=m1+1:=by omega
 have ne3:¬m1=N+1:=by omega
 have ne4:¬m1+1=N+1:=by omega
 have ne5:¬N=m1:=by omega
 have ne6:¬m1=N:=by omega
 have gw:¬N+1<N:=by omega
 have fj:¬m1<N:=by omega
 have AE:¬m1+1<N:=by omega
 simp(disch:=first|(simp;done)|omega|rfl) [-getElem?_pos,aI,aK,aj,bM,x1,y1,g1,ne1,ne2,ne3,ne4,ne5,ne6,b_.chk,Ret,aL,gw,fj,AE];have kz:=(((((kB.trans k1).trans (aO ah.refl (.cells [.int .i64 0,.ziA] 100 true))).trans (aO ah.refl (.cells [.int .i64 0,.ziA] 100 true))).set (i:=m1) (o:=.cells [.int .i64 xn,xu] 100 true) (by omega)).set (i:=m1+1) (o:=.cells [.int .i64 yn,yu] 100 true) (by omega)).set (i:=N+1) (o:=.cells [.int .i64 xn,xu] 100 true) (by omega);refine⟨kz,?_⟩;have kY:=(((ah.refl.trans (aO (ah.refl (h:=h1) (n:=m1)) (.cells [.int .i64 0,.ziA] 100 true))).trans (aO ah.refl (.cells [.int .i64 0,.ziA] 100 true))).set (i:=m1) (o:=.cells [.int .i64 xn,xu] 100 true) (by omega)).set (i:=m1+1) (o:=.cells [.int .i64 yn,yu] 100 true) (by omega);exact(i1.ai kY).ay (c0:=[.int .i64 0,.ziA]) (e0:=100) (w0:=true) (by simp[g1,ne1,ne2,ne3,ne4,ne5,ne6]) (by intro x hx m;simp at hx;rcases hx with rfl|rfl<;>simp) rfl
variable {N:Nat} {h:T O}
def A.b160:=A.q Tryz.f160
def A.k160:=@A.kk 160 29 [.cell 4 (some 2)] A.b160 (by kernel_rfl) rfl
def A.b87:=A.q Tryz.f87
def A.k87:=@A.kk 87 17 [.tmp 2] A.b87 (by kernel_rfl) rfl
def A.b47:=A.q Tryz.f47
def A.k47:=@A.kk 47 5 [.tmp 2] A.b47 (by kernel_rfl) rfl
def Xcp{a b:Nat}{x y:V}(hx:Rg h N x (a:Int))(hy:Rg h N y (b:Int))(b0:0<b)(la:(ds a).length<1000000000)(lb:(ds b).length<1000000000):Fn A.C 160 [x,y] h N (fun v h' n'=>Rg h' n' v ((a/b:Nat):Int)):=by
 intro w;obtain⟨u,rfl,o1,o2,o3⟩:=hx.p_;obtain⟨t,rfl,p1,p2,p3⟩:=hy.p_;obtain⟨u',e1,hu⟩:=hx;obtain⟨t',e2,ht⟩:=hy;simp only[V.agg.injEq,iA,and_true,true_and]at e1 e2;subst e1 e2;rw[eA]at hu ht;have na:decide ((a:Int)<0)=false:=decide_eq_false (by omega);have nb:decide ((b:Int)<0)=false:=decide_eq_false (by omega);rw[na,nb];unfold V.one at o1 p1;unfold V.cells at o2 p2;have kB:ah h N (((h.set N (.cells [.bool false,u] 129 true)).set (N+1) (.cells [.bool false,t] 129 true)).set (N+1+1) (.cells [.bool false,.ziA] 129 true)) (N+1+1+1):=((ah.refl.new _).new _).new _;have b0':(((h.set N (.cells [.bool false,u] 129 true)).set (N+1) (.cells [.bool false,t] 129 true)).set (N+1+1) (.cells [.bool false,.ziA] 129 true)).get N=some (.cells [.bool false,u] 129 true):=by simp
 have b2':(((h.set N (.cells [.bool false,u] 129 true)).set (N+1) (.cells [.bool false,t] 129 true)).set (N+1+1) (.cells [.bool false,.ziA] 129 true)).get (N+1+1)=some (.cells [.bool false,.ziA] 129 true):=by simp
 rw[aZ,A.k160 (by simp)];simp(disch:=first|(simp;done)|omega|rfl) [-getElem?_pos,A.b160,aI,aK,o1,o2,p1,p2];generalize ((h.set N (.cells [.bool false,u] 129 true)).set (N+1) (.cells [.bool false,t] 129 true)).set (N+1+1) (.cells [.bool false,.ziA] 129 true)=HB at*;refine av (QY (hu.ai kB) (ht.ai kB) b0 (by omega) (by omega)) ?_;rintro _ h1 n1 k1 ⟨q,r,rfl,hq,hr⟩;have xF:=k1.le;have g0:=(k1.get N (by omega)).trans b0';have e0:N<n1:=by omega
 simp(disch:=first|(simp;done)|omega|rfl) [-getElem?_pos,g0,e0,aI,aK];have ql:(ds (a/b)).length<=(ds a).length:=tJ (th a b);refine av (vj (b:=false) (n:=a/b) hq (fW _) (ga _) (by omega)) ?_;rintro v h2 n2 k2 hv;simp only[gj,if_false]at hv;obtain⟨z,rfl,r1,r2,r3⟩:=hv.p_;unfold V.one at r1;unfold V.cells at r2;have oH:=k2.le;have K2:=(kB.trans k1).trans k2;have g2:=((k1.trans k2).get (N+1+1) (by omega)).trans b2';have e2:N+1+1<n2:=by omega
 have nn:¬N+1+1<N:=by omega
 simp(disch:=first|(simp;done)|omega|rfl) [-getElem?_pos,g2,e2,aj,bM,r1,r2,Ret,aL,nn];exact⟨K2.set (by omega),hv.zhF g2 (by intro x hx k n;simp at hx;rcases hx with rfl|rfl<;>simp) rfl⟩
def Xb2{q:Rat}{K:Nat}(q0:0<=q)(hq:Qb K q)(hK:K<=1000):Fn A.C 87 [.str (Zao q)] h N (fun v _ _=>v=.str (Zao ((q.num/(q.den:Nat):Int):Rat))):=by
 intro w;have tl:=SN hq;have hw:=fun st=>Zpt (q:=q) (st:=st) (by omega);rw[aZ,A.k87 (by simp)];by_cases hd:q.den=1
 ·have e:(((q.num/(q.den:Nat):Int)):Rat)=q:=by
   rw[hd];have h1:q.num/((1:Nat):Int)=q.num:=by simp
   rw[h1];exact Rat.ext (Rat.num_intCast _) (by rw[Rat.den_intCast];exact hd.symm)
  rw[decide_eq_true hd]at hw;rw[e];simp(disch:=first|(simp;done)|omega|rfl) [-getElem?_pos,A.b87,hw,Ret];exact ah.refl
 rw[decide_eq_false hd]at hw;obtain⟨n,hn⟩:∃n:Nat,q.num=(n:Int):=⟨q.num.toNat,by have:=Rat.num_nonneg.2 q0;omega⟩;have ti:∀z:Int,Zao ((z:Int):Rat)=aU z:=fun z=>by unfold Zao;rw[Rat.num_intCast,Rat.den_intCast];simp
 have b1:n<2^K:=by have:=hq.1;rw[hn]at this;simpa using this
 have l1:=wk b1;have l2:=wk hq.2;have l3:(ds (n/q.den)).length<=(ds n).length:=tJ (th _ _);have Oi:2^K<=10^(K+1):=p9 (IB (by decide) K) (Ywo (by decide) (xS _));have c1:(aU q.num).length<=K+2:=by
  have:(aq q.num.natAbs).length<=K+1:=(yK (by omega)).2 (by have:=hq.1;omega);unfold aU;split
  ·simp;omega
  omega
 have c2:(aq q.den).length<=K+1:=(yK (by omega)).2 (by have:=hq.2;omega);simp(disch:=first|(simp;done)|omega|rfl) [-getElem?_pos,A.b87,hw];refine av (Vm (q:=q) (by omega) (by omega)) ?_;rintro _ h1 n1 k1 ⟨x,y,rfl,hx,hy⟩;rw[hn]at hx;obtain⟨u,rfl,o1,o2,o3⟩:=hx.p_;obtain⟨t,rfl,p1,p2,p3⟩:=hy.p_;unfold V.one at o1 p1;unfold V.cells at o2 p2;have na:decide ((n:Int)<0)=false:=decide_eq_false (by omega);have nb:decide (((q.den:Nat):Int)<0)=false:=decide_eq_false (by omega);have kC:ah h1 n1 ((((h1.set n1 (.cells [.bool false,.ziA] 129 true)).set (n1+1) (.cells [.bool false,.ziA] 129 true)).set n1 (.cells [.bool false,u] 129 true)).set (n1+1) (.cells [.bool false,t] 129 true)) (n1+1+1):=(((ah.refl.new _).new _).set (by omega)).set (by omega);rw[na]at hx;rw[nb]at hy;rw[na,nb];simp(disch:=first|(simp;done)|omega|rfl) [-getElem?_pos,aI,aK,aj,bM,o1,o2,p1,p2];generalize (((h1.set n1 (.cells [.bool false,.ziA] 129 true)).set (n1+1) (.cells [.bool false,.ziA] 129 true)).set n1 (.cells [.bool false,u] 129 true)).set (n1+1) (.cells [.bool false,t] 129 true)=HC at*;refine av (Xcp (hx.ai kC) (hy.ai kC) q.den_pos (by omega) (by omega)) ?_;rintro v h2 n2 k2 hv;simp(disch:=first|(simp;done)|omega|rfl) [-getElem?_pos,];refine av (MQ hv (by rw[eA];omega)) ?_;rintro _ h3 n3 k3 rfl;have K:=((k1.trans kC).trans k2).trans k3;have xF:=k1.le;have m1:¬n1<N:=by omega
 have m2:¬n1+1<N:=by omega
 rw[hn,ti];simp(disch:=first|(simp;done)|omega|rfl) [-getElem?_pos,Ret,aL,m1,m2];exact K
def Xdo{q:Rat}{K:Nat}(hq:Qb K q)(hK:K<=1000):Fn A.C 47 [.str (Zao q)] h N (fun v _ _=>v=.str (Zao (q*(1/2)))):=by
 intro w;have t2:Zao (1/2)=[49,47,50]:=by decide+kernel
 have qh:Qb 2 ((1:Rat)/2):=⟨by decide+kernel,by decide+kernel⟩;rw[aZ,A.k47 (by simp)];simp(disch:=first|(simp;done)|omega|rfl) [-getElem?_pos,A.b47];rw[<-t2];refine av (SP hq qh (by omega) (by omega)) ?_;rintro _ h1 n1 k1 rfl;simp(disch:=first|(simp;done)|omega|rfl) [-getElem?_pos,Ret];exact k1
variable {U:Nat}
def inS(p:List Rat)(U n:Nat):Bool:=mW p.length (Xae p ((n:Rat)/(U:Rat)))
def zge(p:List Rat)(U:Nat):Nat->Nat->Nat->Nat×Nat
 |0,l,h=>(l,h)
 |f+1,l,h=>if inS p U h=true then (l,h) else zge p U f h (2*h)
def Xak(p:List Rat)(U:Nat):Nat->Nat->Nat->Nat×Nat
 |0,l,h=>(l,h)
 |f+1,l,h=>if h<=l+1 then (l,h) else if inS p U ((l+h)/2)=true then Xak p U f l ((l+h)/2) else Xak p U f ((l+h)/2) h
def Xa5(p:List Rat)(U B:Nat):Nat×Nat:=Xak p U B (zge p U B 0 1).1 (zge p U B 0 1).2
structure Xd4 (p:List Rat) (U B l h:Nat):Prop where
 lt:l<h
 le:h<=2^B
 hi:inS p U h=true
 lo:l=0\/inS p U l=false
def Xay{p:List Rat}{U B:Nat}(hB:∀n,2^B<=n->inS p U n=true):∀{f l h:Nat},f<=B->h=2^(B-f)->l<h->h-l<=2^(B-f)->(l=0\/inS p U l=false)->Xd4 p U B (zge p U f l h).1 (zge p U f l h).2/\(zge p U f l h).2-(zge p U f l h).1<=2^B
 |0,l,h,hf,hh,hl,hd,hi=>by
  rw[Nat.sub_zero]at hh hd
  exact⟨⟨hl,by show h<=2^B;omega,hB h (by omega),hi⟩,by show h-l<=2^B;omega⟩
 |f+1,l,h,hf,hh,hl,hd,hi=>by
  have hp:2^(B-(f+1))<=2^B:=Ywo (by decide) (by omega)
  unfold zge
  by_cases c:inS p U h=true
  ·rw[aR c]
   exact⟨⟨hl,by omega,c,hi⟩,by simp only;omega⟩
  ·rw[aA c]
   have e:2^(B-f)=2*2^(B-(f+1)):=by
    rw[show B-f=B-(f+1)+1 by omega,fV,iz]
   have h1:1<=2^(B-(f+1)):=vu (by decide)
   exact Xay hB (by omega) (by omega) (by omega) (by omega) (.inr (by simpa using c))
def Xb7{p:List Rat}{U B:Nat}:∀{f l h:Nat},Xd4 p U B l h->h-l<=2^f->Xd4 p U B (Xak p U f l h).1 (Xak p U f l h).2/\(Xak p U f l h).2=(Xak p U f l h).1+1
 |0,l,h,R,hd=>by
  have:=R.lt
  exact⟨R,by simp only[Xak];omega⟩
 |f+1,l,h,R,hd=>by
  have aW:=R.lt
  have hle:=R.le
  rw[fV]at hd
  unfold Xak
  by_cases c:h<=l+1
  ·rw[aR c]
   exact⟨R,by simp only;omega⟩
  ·rw[aA c]
   by_cases c2:inS p U ((l+h)/2)=true
   ·rw[aR c2]
    exact Xb7 ⟨by omega,by omega,c2,R.lo⟩ (by omega)
   ·rw[aA c2]
    exact Xb7 ⟨by omega,hle,R.hi,.inr (by simpa using c2)⟩ (by omega)
def Xdz{p:List Rat}{B:Nat}(hB:∀n,2^B<=n->inS p U n=true):Xd4 p U B (Xa5 p U B).1 (Xa5 p U B).2/\(Xa5 p U B).2=(Xa5 p U B).1+1:=by
 have e:2^(B-B)=1:=by rw[Nat.sub_self]
 obtain⟨h1,h2⟩:=Xay hB (f:=B) (l:=0) (h:=1) (Yv5 _) e.symm (by decide) (by omega) (.inl rfl);exact Xb7 h1 h2
def Lo{f g:Nat->Rat}:∀{n:Nat},(∀k,k<n->f k<=g k)->sR f n<=sR g n
 |0,_=>Rat.le_refl
 |n+1,h=>by
  have h1:=Lo (n:=n) fun k hk=>h k (by omega)
  have h2:=h n (by omega)
  show sR f n+f n<=sR g n+g n
  grind
def Dt{f:Nat->Rat}{n:Nat}(h:∀k,k<n->0<=f k):0<=sR f n:=by
 induction n with
 |zero=>exact Rat.le_refl
 |succ n ih=> have h1:=ih fun k hk=>h k (by omega);have h2:=h n (by omega);show 0<=sR f n+f n;grind
def Xbb:∀{n:Nat} {p:List Rat},p.length=n+1->sR (fun k=>zgb (pg p k)) n<zgb (pg p n)->mW (n+1) p=true
 |0,p,hl,_=>Ypz (by omega)
 |n+1,p,hl,hd=>by
  have sh:=@HW (fun k=>zgb (pg p k)) n
  have tn:0<=sR (fun k=>zgb (pg p (k+1))) n:=Dt fun k _=>Zb2
  have a0:=@Zb2 (pg p 0)
  have hz:pg p (n+1)≠0:=fun e=>by
   rw[e]at hd
   have z:zgb 0=0:=by decide+kernel
   rw[z,<-sh]at hd
   grind
  rw[<-sh]at hd
  have er:pg p 0=Yz0 p*pg p (n+1):=by
   unfold Yz0
   rw[hl]
   exact(Rat.div_mul_cancel hz).symm
  have ea:zgb (pg p 0)=zgb (Yz0 p)*zgb (pg p (n+1)):=by rw[er,BJ]
  have rn:=@Zb2 (Yz0 p)
  have pn:=@Zb2 (pg p (n+1))
  have r1:¬1<=zgb (Yz0 p):=fun hc=>by
   have:=iK pn hc
   grind
  unfold mW
  rw[aA (by omega),aA r1]
  have nl:(gh p).length=n+1:=by rw[BK,hl];rfl
  refine Xbb nl ?_
  have ng:∀j,j<=n->pg (gh p) j=pg p (j+1)-Yz0 p*pg p (n-j):=fun j hj=>by
   rw[La (by omega),hl,show n+1+1-1-1-j=n-j by omega]
  have le:sR (fun k=>zgb (pg (gh p) k)) n<=sR (fun k=>zgb (pg p (k+1))-(-zgb (Yz0 p))*zgb (pg p (n-1-k+1))) n:=Lo fun k hk=>by
   rw[ng k (by omega)]
   have h1:=@Zrh (pg p (k+1)) (-(Yz0 p*pg p (n-k)))
   have h2:zgb (-(Yz0 p*pg p (n-k)))=zgb (Yz0 p)*zgb (pg p (n-k)):=by
    rw[<-BJ]
    unfold zgb
    split<;>split<;>grind
   rw[show n-1-k+1=n-k by omega]
   have h3:pg p (k+1)-Yz0 p*pg p (n-k)=pg p (k+1)+ -(Yz0 p*pg p (n-k)):=by grind
   rw[h3]
   grind
  rw[Ay]at le
  have rv:=@R9 (fun k=>zgb (pg p (k+1))) n
  rw[rv]at le
  have en:zgb (pg (gh p) n)=zgb (pg p (n+1))*(1-zgb (Yz0 p)*zgb (Yz0 p)):=by
   have rr:Yz0 p*Yz0 p=zgb (Yz0 p)*zgb (Yz0 p):=by unfold zgb;split<;>grind
   have e1:pg (gh p) n=pg p (n+1)*(1-Yz0 p*Yz0 p):=by
    rw[ng n (Yv5 _),Nat.sub_self,er];grind
   have d0:(0:Rat)<=1-zgb (Yz0 p)*zgb (Yz0 p):=by
    have h1:=Rat.mul_nonneg rn (show (0:Rat)<=1-zgb (Yz0 p) by grind)
    grind
   have e2:zgb (1-Yz0 p*Yz0 p)=1-Yz0 p*Yz0 p:=aA (by grind)
   rw[e1,BJ,e2,rr]
  rw[en]
  generalize sR (fun k=>zgb (pg p (k+1))) n=T at*
  generalize zgb (Yz0 p)=r at*
  generalize zgb (pg p (n+1))=z at*
  have k1:(0:Rat)<z-r*z-T:=by grind
  have k2:=Rat.mul_pos (show (0:Rat)<1+r by grind) k1
  grind
variable {U j n:Nat}
def A.w19:=A.q Tryz.f19
def A.zhd:=A.ql A.w19 1 []
def A.zhe:=A.ql A.w19 0 []
def A.b19:=(fun x0 x1=>A.qb A.w19 [x0,x1]) A.zhe A.zhd
def A.k19:=@A.kk 19 46 [.cell 4 (some 2)] A.b19 (by kernel_rfl) rfl
def Xan:((n:Rat)*(1/2)).num/((((n:Rat)*(1/2)).den:Nat):Int)=((n/2:Nat):Int):=by
 have dp:0<((n:Rat)*(1/2)).den:=Xed _;have h1:(n:Rat)*(1/2)*((((n:Rat)*(1/2)).den:Nat):Rat)=((((n:Rat)*(1/2)).num:Int):Rat):=by
  have h0:=AA ((n:Rat)*(1/2));rw[Rat.divInt_eq_div]at h0;have hd:((((n:Rat)*(1/2)).den:Nat):Rat)≠0:=by intro hc;have:=congrArg Rat.num hc;rw[uf.1]at this;simp at this;omega
  have h2:=Rat.div_mul_cancel (a:=((((n:Rat)*(1/2)).num:Int):Rat)) hd;conv=>lhs;lhs;rw[<-h0]
  exact h2
 generalize ((n:Rat)*(1/2)).num=z at*;generalize ((n:Rat)*(1/2)).den=d at*;have h2:((z*2:Int):Rat)=(((n:Int)*(d:Int):Int):Rat):=by rw[Rat.intCast_mul,Rat.intCast_mul,<-h1];have e1:((2:Int):Rat)=2:=rfl;have e2:(((n:Nat):Int):Rat)=(n:Rat):=rfl;have e3:(((d:Nat):Int):Rat)=(d:Rat):=rfl;rw[e1,e2,e3];grind
 have h3:z*2=(n:Int)*(d:Int):=Rat.intCast_inj.1 h2;obtain⟨b,hb,pN⟩:∃b:Int,(n:Int)=2*((n/2:Nat):Int)+b/\(b=0\/b=1):=⟨(n:Int)-2*((n/2:Nat):Int),by omega,by omega⟩;rw[hb]at h3;generalize ((n/2:Nat):Int)=a at*;have e4:(2*a+b)*(d:Int)=2*(a*d)+b*d:=by rw[Int.add_mul,Int.mul_assoc]
 have e5:(a+1)*(d:Int)=a*d+d:=by rw[Int.add_mul,Int.one_mul]
 rw[e4]at h3;have g1:a<=z/(d:Int):=Int.le_ediv_of_mul_le (by omega) (by rcases pN with rfl|rfl<;>omega);have g2:z/(d:Int)<a+1:=Int.ediv_lt_of_lt_mul (by omega) (by rw[e5];rcases pN with rfl|rfl<;>omega);omega
def Xd0{x:Rat}(hx:x≠0):∀t,pwR x t≠0
 |0=>by rw[pwR];decide
 |t+1=>by
  rw[pwR]
  intro hc
  rcases Rat.mul_eq_zero.1 hc with h|h
  ·exact Xd0 hx t h
  ·exact hx h
structure RdH (p:List Rat) (j B U dec:Nat):Prop where
 l1:2<=p.length
 l2:p.length<=13
 z:pg p (p.length-1)≠0
 q:∀y∈p,Qb j y
 j1:j<=1000
 kk:(j+(p.length*(B+11)+1))*5^(p.length-1)<=200000000
 b:B<=50
 big:∀n,2^B<=n->inS p U n=true
 u:U=10^dec
 d:dec<=3
def RdH.ub{p:List Rat}{B dec:Nat}(R:RdH p j B U dec):U<=1000/\1<=U:=by have:=Ybt R.d;rw[<-R.u]at this;exact this
def RdH.u0{p:List Rat}{B dec:Nat}(R:RdH p j B U dec):((U:Nat):Rat)≠0:=by intro hc;have:=congrArg Rat.num hc;rw[uf.1]at this;have h1:=R.ub;simp at this;omega
def RdH.qu{p:List Rat}{B dec:Nat}(R:RdH p j B U dec):Qb 10 ((U:Nat):Rat):=BM (by have:=R.ub;omega) (by decide)
def RdH.qn{p:List Rat}{B dec:Nat}(_:RdH p j B U dec)(hn:n<=2^B):Qb (B+1) ((n:Nat):Rat):=BM (by rw[fV];have:1<=2^B:=vu (by decide);omega) (by omega)
def RdH.qx{p:List Rat}{B dec:Nat}(R:RdH p j B U dec)(hn:n<=2^B):Qb (B+11) ((n:Rat)/(U:Rat)):=by rw[Rat.div_def];exact(R.qn hn).mul (R.qu.inv R.u0)
def RdH.nz{p:List Rat}{B dec:Nat}(R:RdH p j B U dec)(hn:1<=n):pg (Xae p ((n:Rat)/(U:Rat))) (p.length-1)≠0:=by
 have l1:=R.l1;have e:=Xag (x:=(n:Rat)/(U:Rat)) (iy (p:=p) (i:=p.length-1) (by omega));have e2:pg (Xae p ((n:Rat)/(U:Rat))) (p.length-1)=pg p (p.length-1)*pwR ((n:Rat)/(U:Rat)) (p.length-1):=by unfold pg;rw[e];rfl
 have n0:((n:Nat):Rat)≠0:=by intro hc;have:=congrArg Rat.num hc;rw[uf.1]at this;simp at this;omega
 have x0:(n:Rat)/(U:Rat)≠0:=by intro hc;have h1:=Rat.div_mul_cancel (a:=(n:Rat)) R.u0;rw[hc,Rat.zero_mul]at h1;exact n0 h1.symm
 rw[e2];intro hc;rcases Rat.mul_eq_zero.1 hc with h|h
 ·exact R.z h
 exact Xd0 x0 _ h
def Xc3{h:T O}{N B dec:Nat}{v:V}{p:List Rat}(hu:Tx h N v p)(R:RdH p j B U dec):Fn A.C 19 [v,.int .i64 dec] h N (fun x _ _=>x=.agg [.str (Zao (((Xa5 p U B).1:Rat)/(U:Rat))),.str (Zao (((Xa5 p U B).2:Rat)/(U:Rat)))]):=by
 intro w;have l1:=R.l1;have l2:=R.l2;have hb:=R.b;have j1:=R.j1;have pB:1<=2^B:=vu (by decide);have kB:ah h N (h.set N (.cells [.str [],.str []] 32 true)) (N+1):=ah.refl.new _;have b0:(h.set N (.cells [.str [],.str []] 32 true)).get N=some (.cells [.str [],.str []] 32 true):=by simp
 rw[aZ,A.k19 (by simp)];simp(disch:=first|(simp;done)|omega|rfl) [-getElem?_pos,A.b19];generalize h.set N (.cells [.str [],.str []] 32 true)=HB at*;refine av (Xdw R.d) ?_;rintro _ h1 n1 k1 rfl;rw[<-R.u];have xF:=k1.le;have K1:=kB.trans k1;have b1:=(k1.get N (by omega)).trans b0;have tz:([48]:bj)=Zao ((0:Nat):Rat):=by rw[show ((0:Nat):Rat)=0 from rfl];exact xI.symm
 have t1:([49]:bj)=Zao ((1:Nat):Rat):=by decide+kernel
 have t2:([50]:bj)=Zao ((2:Nat):Rat):=by decide+kernel
 have q2:Qb 10 ((2:Nat):Rat):=BM (by decide) (by decide);have q1:Qb 10 ((1:Nat):Rat):=BM (by decide) (by decide);have zp:=hu.ai K1;have zhV:∀{q:Rat} {K:Nat} {h':T O} {n':Nat},Qb K q->K<=1000->Fn A.C 35 [.str (Zao q),.str [49]] h' n' (fun u _ _=>u=.int .i64 (sg3 (q-1).num)):=fun hq hK=>by rw[t1];exact KX hq q1 (by omega) (by decide) (by have:=SN q1;omega)
 have zhW:∀{q:Rat} {K:Nat} {h':T O} {n':Nat},Qb K q->K<=1000->Fn A.C 29 [.str (Zao q),.str [50]] h' n' (fun u _ _=>u=.str (Zao (q*((2:Nat):Rat)))):=fun hq hK=>by rw[t2];exact SP hq q2 (by omega) (by decide)
 simp(disch:=first|(simp;done)|omega|rfl) [-getElem?_pos,];refine Zal [(6,7),(11,20)] (fun e r st=>e=.exit 0/\aL N st.w=[]/\ah h1 n1 st.h st.n/\r.get 6=some (.str (Zao (((zge p U B 0 1).1:Nat):Rat)))/\r.get 7=some (.str (Zao (((zge p U B 0 1).2:Nat):Rat)))) (fun m r st=>aL N st.w=[]/\ah h1 n1 st.h st.n/\m<=B/\∃l a:Nat,(a<=2^(B-m)/\2^(B-m)<=a)/\zge p U m l a=zge p U B 0 1/\r.get 6=some (.str (Zao ((l:Nat):Rat)))/\r.get 7=some (.str (Zao ((a:Nat):Rat)))) B ?_ ?_ ?_
 ·exact⟨by simp,ah.refl,Yv5 _,0,1,by rw[Nat.sub_self];decide,rfl,by rw[<-tz];simp,by rw[<-t1];simp⟩
 ·rintro m r ⟨H,n,W⟩ hr hf ⟨hW,hK,hm,l,a,ha',hd,h6,h7⟩;simp only at hW hK;have ha:a=2^(B-m):=by omega
  rw[cn];have a1:1<=a:=by rw[ha];exact vu (by decide)
  have aB:a<=2^B:=by rw[ha];exact Ywo (by decide) (by omega)
  simp(disch:=first|(simp;done)|omega|rfl) [-getElem?_pos,A.zhe,hr,hf,h6,h7];refine av (Yz8 (R.qn aB) R.qu R.u0 (by omega) (by decide)) ?_;rintro _ hA nA kA rfl;simp(disch:=first|(simp;done)|omega|rfl) [-getElem?_pos,];refine av (Xbt (zp.ai (hK.trans kA)) R.q (R.qx aB) (by omega) (by omega) (by omega)) ?_;rintro y hB' nB kB' ty;simp(disch:=first|(simp;done)|omega|rfl) [-getElem?_pos,];refine av (Xad (k:=j+(p.length*(B+11)+1)) ty.1 (by rw[Yz1];omega) (by rw[Yz1];omega) (by rw[Yz1];exact R.nz a1) (Xbs R.q (R.qx aB)) (by omega) (by rw[Yz1];exact R.kk)) ?_;rintro _ hC nC kC rfl;rw[show mW (Xae p ((a:Rat)/(U:Rat))).length (Xae p ((a:Rat)/(U:Rat)))=inS p U a by rw[Yz1];rfl];have KC:=((hK.trans kA).trans kB').trans kC;cases hs:inS p U a with
  |true=>
   have he:zge p U m l a=(l,a):=by
    cases m with
    |zero=>rfl
    |succ m=>rw[zge,aR hs]
   rw[he]at hd;simp(disch:=first|(simp;done)|omega|rfl) [-getElem?_pos,hr,hf,h6,h7];rw[<-hd];exact⟨hW,KC,rfl,rfl⟩
  |false=>
   cases m with
   |zero=> rw[R.big a (by rw[ha,Nat.sub_zero];exact Yv5 _)]at hs;cases hs
   |succ m=>
    simp(disch:=first|(simp;done)|omega|rfl) [-getElem?_pos,hr,hf,h6,h7];refine av (zhW (R.qn aB) (by omega)) ?_;rintro _ hD nD kD rfl;rw[zge,aA (by rw[hs];decide)]at hd;have e2:((a:Nat):Rat)*((2:Nat):Rat)=((2*a:Nat):Rat):=by rw[<-Rat.natCast_mul,iz]
    have e3:2*a=2^(B-m):=by rw[ha,show B-m=B-(m+1)+1 by omega,fV,iz]
    rw[e2];generalize 2*a=a2 at*;simp(disch:=first|(simp;done)|omega|rfl) [-getElem?_pos,hr,hf,h6,h7];exact⟨m,by omega,hW,KC.trans kD,by omega,a,a2,by omega,hd,by simp,by simp⟩
 rintro _ r ⟨H,n,W⟩ hr ⟨rfl,hW,hK,h6,h7⟩;simp only at hW hK;obtain⟨RI,_⟩:=Xay (p:=p) (U:=U) R.big (f:=B) (l:=0) (h:=1) (Yv5 _) (by rw[Nat.sub_self]) (by decide) (by rw[Nat.sub_self];decide) (.inl rfl);have K2:=K1.trans hK;have fi:=hu.ai K2;have oH:=hK.le;have b2:=(hK.get N (by omega)).trans b1;have er:Xa5 p U B=Xak p U B (zge p U B 0 1).1 (zge p U B 0 1).2:=rfl;obtain⟨_,hg⟩:=Xay (p:=p) (U:=U) R.big (f:=B) (l:=0) (h:=1) (Yv5 _) (by rw[Nat.sub_self]) (by decide) (by rw[Nat.sub_self];decide) (.inl rfl);generalize zge p U B 0 1=LH at*;obtain⟨L0,H0⟩:=LH;simp only at h6 h7 RI hg er;rw[er];simp(disch:=first|(simp;done)|omega|rfl) [-getElem?_pos,hr];refine Zal [(6,8),(21,38)] (fun e r st=>e=.exit 2/\aL N st.w=[]/\ah H n st.h st.n/\∃l a:Nat,Xak p U B L0 H0=(l,a)/\l<=2^B/\a<=2^B/\r.get 6=some (.str (Zao ((l:Nat):Rat)))/\r.get 7=some (.str (Zao ((a:Nat):Rat)))) (fun m r st=>aL N st.w=[]/\ah H n st.h st.n/\∃l a:Nat,l<a/\a<=2^B/\a-l<=2^m/\Xak p U m l a=Xak p U B L0 H0/\r.get 6=some (.str (Zao ((l:Nat):Rat)))/\r.get 7=some (.str (Zao ((a:Nat):Rat)))) B ?_ ?_ ?_
 ·exact⟨hW,ah.refl,L0,H0,RI.lt,RI.le,hg,rfl,by simp[hr,h6],by simp[hr,h7]⟩
 ·rintro m r' ⟨H3,n3,W3⟩ lV rF ⟨JZ,hK3,l,a,la,aB,ad,hbi,h6',h7'⟩;simp only at JZ hK3;rw[cn];have lB:l<=2^B:=by omega
  simp(disch:=first|(simp;done)|omega|rfl) [-getElem?_pos,A.zhd,lV,rF,hr,h6',h7'];refine av (NF (R.qn aB) (R.qn lB) (by omega) (by omega) (by have:=SN (R.qn lB);omega)) ?_;rintro _ hA nA kA rfl;simp(disch:=first|(simp;done)|omega|rfl) [-getElem?_pos,];refine av (zhV ((R.qn aB).sub (R.qn lB)) (by omega)) ?_;rintro _ hB' nB kB' rfl;have KB:=(hK3.trans kA).trans kB';have zhH:0<sg3 (((a:Nat):Rat)-((l:Nat):Rat)-1).num↔l+1<a:=by
   rw[Ycb];have:(1:Rat)<((a:Nat):Rat)-((l:Nat):Rat)↔((l+1:Nat):Rat)<((a:Nat):Rat):=by rw[Rat.natCast_add,show ((1:Nat):Rat)=1 from rfl];constructor<;>intro h<;>grind
   rw[this,Rat.natCast_lt_natCast]
  by_cases hc:l+1<a
  ·have O4:=zhH.2 hc;cases m with
   |zero=>exfalso;simp at ad;omega
   |succ m=>
    rw[Xak,aA (by omega)]at hbi;have mB:(l+a)/2<=2^B:=by omega
    have m1:1<=(l+a)/2:=by omega
    have md1:(l+a)/2-l<=2^m:=by rw[fV]at ad;omega
    have md2:a-(l+a)/2<=2^m:=by rw[fV]at ad;omega
    have ml:l<(l+a)/2:=by omega
    have ma:(l+a)/2<a:=by omega
    have es:((l:Nat):Rat)+((a:Nat):Rat)=((l+a:Nat):Rat):=(Rat.natCast_add _ _).symm;have sB:l+a<2^(B+2):=by rw[Yw8];omega
    generalize l+a=sm at*;have qs:Qb (B+2) ((sm:Nat):Rat):=BM sB (by omega);have s0:(0:Rat)<=((sm:Nat):Rat)*(1/2):=by have h1:((0:Nat):Rat)<=((sm:Nat):Rat):=Rat.natCast_le_natCast.2 (by omega);have h0:((0:Nat):Rat)=0:=rfl;rw[h0]at h1;grind
    simp(disch:=first|(simp;done)|omega|rfl) [-getElem?_pos,O4,lV,rF,hr,h6',h7'];refine av (Zwc (R.qn lB) (R.qn aB) (by omega) (by omega)) ?_;rintro _ hC nC kC rfl;rw[es];simp(disch:=first|(simp;done)|omega|rfl) [-getElem?_pos,];refine av (Xdo qs (by omega)) ?_;rintro _ hD nD kD rfl;simp(disch:=first|(simp;done)|omega|rfl) [-getElem?_pos,];refine av (Xb2 s0 (qs.mul (show Qb 2 ((1:Rat)/2) from ⟨by decide+kernel,by decide+kernel⟩)) (by omega)) ?_;rintro _ hE nE kE rfl;rw[Xan,show (((sm/2:Nat):Int):Rat)=((sm/2:Nat):Rat) from rfl];generalize zib:sm/2=mid at*;simp(disch:=first|(simp;done)|omega|rfl) [-getElem?_pos,lV,rF,hr];refine av (Yz8 (R.qn mB) R.qu R.u0 (by omega) (by decide)) ?_;rintro _ hF nF kF rfl;have KF:=(((KB.trans kC).trans kD).trans kE).trans kF;simp(disch:=first|(simp;done)|omega|rfl) [-getElem?_pos,];refine av (Xbt (fi.ai KF) R.q (R.qx mB) (by omega) (by omega) (by omega)) ?_;rintro y hG nG kG ty;simp(disch:=first|(simp;done)|omega|rfl) [-getElem?_pos,];refine av (Xad (k:=j+(p.length*(B+11)+1)) ty.1 (by rw[Yz1];omega) (by rw[Yz1];omega) (by rw[Yz1];exact R.nz m1) (Xbs R.q (R.qx mB)) (by omega) (by rw[Yz1];exact R.kk)) ?_;rintro _ hI nI kI rfl;rw[show mW (Xae p ((mid:Rat)/(U:Rat))).length (Xae p ((mid:Rat)/(U:Rat)))=inS p U mid by rw[Yz1];rfl];have KI:=(KF.trans kG).trans kI;cases hs:inS p U mid with
    |true=> rw[aR hs]at hbi;simp(disch:=first|(simp;done)|omega|rfl) [-getElem?_pos,lV,rF,hr,h6',h7'];exact⟨m,by omega,JZ,KI,l,mid,ml,mB,by omega,hbi,by simp[h6'],by simp⟩
    |false=> rw[aA (by rw[hs];decide)]at hbi;simp(disch:=first|(simp;done)|omega|rfl) [-getElem?_pos,lV,rF,hr,h6',h7'];exact⟨m,by omega,JZ,KI,mid,a,ma,aB,by omega,hbi,by simp,by simp[h7']⟩
  have O4:=mt zhH.1 hc;have he:Xak p U m l a=(l,a):=by
   cases m with
   |zero=>rfl
   |succ m=>rw[Xak,aR (by omega)]
  rw[he]at hbi;simp(disch:=first|(simp;done)|omega|rfl) [-getElem?_pos,O4,lV,rF,hr,h6',h7'];exact⟨JZ,KB,l,a,hbi.symm,lB,aB,rfl,rfl⟩
 rintro _ r' ⟨H3,n3,W3⟩ lV ⟨rfl,JZ,hK3,l,a,hbi,lB,aB,h6',h7'⟩;simp only at JZ hK3;have KU:=hK3.le;rw[hbi];simp(disch:=first|(simp;done)|omega|rfl) [-getElem?_pos,lV,hr,h6',h7'];refine av (Yz8 (R.qn lB) R.qu R.u0 (by omega) (by decide)) ?_;rintro _ hA nA kA rfl;simp(disch:=first|(simp;done)|omega|rfl) [-getElem?_pos,lV,hr,h6',h7'];refine av (Yz8 (R.qn aB) R.qu R.u0 (by omega) (by decide)) ?_;rintro _ hB' nB kB' rfl;have K4:=(hK3.trans kA).trans kB';have le4:=K4.le;have b4:=(K4.get N (by omega)).trans b2;have l4:N<nB:=by omega
 have nn:¬N<N:=by omega
 simp(disch:=first|(simp;done)|omega|rfl) [-getElem?_pos,lV,hr,b4,l4,aj,bM,aI,aK,Ret,aL,nn,JZ];exact((K2.trans hK3).trans kA |>.trans kB').set (Yv5 _)
def A.b64:=A.q Tryz.f64
def A.k64:=@A.kk 64 14 [.tmp 4] A.b64 (by kernel_rfl) rfl
def A.b68:=A.q Tryz.f68
def A.k68:=@A.kk 68 11 [.tmp 4] A.b68 (by kernel_rfl) rfl
def Yz7(a:List bj)(e:Int):Int:=cN [ks a,e,if a.length=1 then 7 else 0]
def Xby{h:T O}{N:Nat}{u:V}{a:List bj}{e:Int}(hu:Sl h N u (strs a))(la:a.length<100000)(fa:∀s∈a,s.length<=20000):Fn A.C 64 [u,.int .i64 e] h N (fun x _ _=>x=.int .i64 (Yz7 a e)):=by
 intro w;have hlu:=hu.len;rw[HZ]at hlu;rw[aZ,A.k64 (by simp)];simp(disch:=first|(simp;done)|omega|rfl) [-getElem?_pos,A.b64];refine av (Yqd hu la fun s hs=>by have:=fa s hs;omega) ?_;rintro _ h1 n1 k1 rfl;have hi:n1<n1+1:=by omega
 by_cases c:a.length=1
 ·have ci:(a.length:Int)=1:=by omega
  simp(disch:=first|(simp;done)|omega|rfl) [-getElem?_pos,hlu,c,ci,a_,wM,aj,Zje hi,Yz7,b_.chk,Ret];exact k1.trans (aO ah.refl _)
 have ci:¬(a.length:Int)=1:=by omega
 simp(disch:=first|(simp;done)|omega|rfl) [-getElem?_pos,hlu,c,ci,a_,wM,aj,Zje hi,Yz7,b_.chk,Ret];exact k1.trans (aO ah.refl _)
def Xbx{h:T O}{N j B U dec n P Q:Nat}{v:V}{p:List Rat}{e1 e2:TypeId}{w1 w2:Bool}(hv:Al h N v p)(R:RdH p j B U dec)(hn:n<=2^B)(n1:1<=n)(gP:h.get P=some (.cells [v] e1 w1))(hP:P<N)(gQ:h.get Q=some (.cells [.int .i64 (U:Nat),.ziA,.int .i64 1,.ziA] e2 w2))(hQ:Q<N):FnV A.C (.func 68 [] [.ptr P 0,.ptr Q 0]) [.agg [.int .i64 (n:Nat),.ziA,.int .i64 1,.ziA]] h N (fun x _ _=>x=.bool (inS p U n)):=by
 intro w;have hb:=R.b;have j1:=R.j1;have l1:=R.l1;have l2:=R.l2;have ub:=R.ub;have e50:2^B<=2^50:=Ywo (by decide) hb;have c50:(2:Nat)^50=1125899906842624:=by decide
 have kB:ah h N (h.set N (.cells [.int .i64 (n:Nat),.ziA,.int .i64 1,.ziA] 102 true)) (N+1):=ah.refl.new _;have b0:(h.set N (.cells [.int .i64 (n:Nat),.ziA,.int .i64 1,.ziA] 102 true)).get N=some (.cells [.int .i64 (n:Nat),.ziA,.int .i64 1,.ziA] 102 true):=by simp
 have gP':=(kB.get P hP).trans gP;have gQ':=(kB.get Q hQ).trans gQ;have hP':P<N+1:=by omega
 have hQ':Q<N+1:=by omega
 have neP:¬P=N:=by omega
 have neQ:¬Q=N:=by omega
 have fn:Fc (h.set N (.cells [.int .i64 (n:Nat),.ziA,.int .i64 1,.ziA] 102 true)) (N+1) (.agg [.int .i64 (n:Nat),.ziA,.int .i64 1,.ziA]) ((n:Nat):Rat):=Yz3 (by omega);have fu:Fc (h.set N (.cells [.int .i64 (n:Nat),.ziA,.int .i64 1,.ziA] 102 true)) (N+1) (.agg [.int .i64 (U:Nat),.ziA,.int .i64 1,.ziA]) ((U:Nat):Rat):=Yz3 (by omega);have Jl:=hv.ai kB;rw[aZ,A.k68 (by simp)];have qn:=R.qn hn;have qx:=R.qx hn;have wn:=qn.eX;have wu:=R.qu.eX;have wi:=(R.qu.inv R.u0).eX;simp(disch:=first|(simp;done)|omega|rfl) [-getElem?_pos,A.b68,gP,gQ,hP,hQ,hP',hQ',neP,neQ,aI,aK];refine av (Zvr fn fu R.u0 (by omega) (by omega) (by omega) (by omega) (by omega) (by omega)) ?_;rintro x1 h1 m1 k1 f1;simp(disch:=first|(simp;done)|omega|rfl) [-getElem?_pos,];refine av (Xbr (Jl.ai k1) f1 R.q qx (by omega) (by omega) (by omega) (by omega)) ?_;rintro y h2 m2 k2 t2;simp(disch:=first|(simp;done)|omega|rfl) [-getElem?_pos,];refine av (Zrw (k:=j+(p.length*(B+11)+1)) t2 (by rw[Yz1];omega) (by rw[Yz1];omega) (by rw[Yz1];exact R.nz n1) (Xbs R.q qx) (by omega) (by rw[Yz1];have:=R.kk;omega)) ?_;rintro _ h3 m3 k3 rfl;rw[show mW (Xae p ((n:Rat)/(U:Rat))).length (Xae p ((n:Rat)/(U:Rat)))=inS p U n by rw[Yz1];rfl];simp(disch:=first|(simp;done)|omega|rfl) [-getElem?_pos,Ret];exact((kB.trans k1).trans k2).trans k3
end
end Go.Mx
