/-num-/
import Derived.Test.YtfeehbdhikiikaaGreatDoorNbC
set_option linter.all false
set_option maxHeartbeats 2000000
namespace Go.Mx
variable{w:List Nat}{i n:Nat}{r0:T V}{v x:V}
noncomputable section
open Go Go.Proofs
variable {M N a k o:Nat} {h:T O} {s:aH}
set_option maxRecDepth 1000000
def A.Rt:=A.q Tryz.f212
def A.mH:=A.ql A.Rt 0 []
def A.b212:=(fun x0=>A.qb A.Rt [x0]) A.mH
def A.k212:=@A.kk 212 23 [.cell 4 (some 2)] A.b212 (by kernel_rfl) rfl
def A.Ru:=A.q Tryz.f149
def A.pd:=A.ql A.Ru 0 []
def A.b149:=(fun x0=>A.qb A.Ru [x0]) A.pd
def A.k149:=@A.kk 149 41 [.cell 2 (some 2)] A.b149 (by kernel_rfl) rfl
def Yk1(h:o*a^k=M)(ha:1<=a)(ho:1<=o)(hk:1<=k):o*a<=M/\a<=M/\o<=M:=by have h1:a^1<=a^k:=rL ha hk;rw[Nat.pow_one]at h1;have h2:o*a<=o*a^k:=mZ o h1;have h3:1*a<=o*a:=kg a ho;have h4:o*1<=o*a:=mZ o ha;omega
def Yv7(h:o*a^k=M)(ha:1<=a)(ho:1<=o)(hk:1<k):a*a<=M:=by
 have h1:a^2<=a^k:=rL ha hk;have h2:1*a^k<=o*a^k:=kg _ ho;have h3:a^2=a*a:=by rw[Nat.pow_two]
 omega
def Yv8(h:o*a^k=M)(hk:k%2=1):(o*a)*(a*a)^(k/2)=M:=by
 rw[<-h,<-Nat.pow_two,<-Nat.pow_mul,GA];congr 1;conv=>rhs;rw[show k=2*(k/2)+1 by omega,iD]
 rw[ki]
def Yra(h:o*a^k=M)(hk:k%2=0):o*(a*a)^(k/2)=M:=by rw[<-h,<-Nat.pow_two,<-Nat.pow_mul,show 2*(k/2)=k by omega]
structure VD (h:T O) (N q M m:Nat) (r:T V) (st:St):Prop where
 w:az N st.w=[]
 ad:ab h N st.h st.n
 q1:N+2<=q
 q2:q<st.n
 row:st.h.get (N+1)=some (.cells [.int .i64 0,.aa] 99 true)
 r1:r.get 1=some (.int .i64 m)
 lm:m<4611686018427387904
 ex:∃(n1 n2:Int) (u1 u2:V) (a o:Nat),st.h.get N=some (.cells [.int .i64 n1,u1] 99 true)/\st.h.get q=some (.cells [.int .i64 n2,u2] 99 true)/\In st.h st.n (.agg [.int .i64 n1,u1]) a/\In st.h st.n (.agg [.int .i64 n2,u2]) o/\o*a^m=M/\1<=a/\1<=o/\wl a<10000000000
def Yk4{q:Nat}(hM:wl M<10000000000)(a2:r0.get 2=some (.ptr N 0))(a5:r0.get 5=some (.ptr q 0)):
  ∀x r st,(∀t,kV [(1,1),(7,21)] t=false->r.get t=r0.get t)->Fx [(1,1),(7,21)] r0 23 ⟨r,23,[]⟩->VD h N q M x r st->Code A.C none A.mH ⟨r,23,[]⟩ st (Rd [(1,1),(7,21)] r0 23 (VD h N q M) x (fun e r st=>e=.exit 0/\VD h N q M 0 r st)):=by
 rintro m r ⟨H,n0,W⟩ hr hf ⟨hW,hK,rO,mV,aA,r1,lm,n1,n2,u1,u2,a,o,g0,g1,ha,ho,rz,a1,o1,la⟩;simp only at hW hK mV aA g0 g1 ha ho;rw[bG];have b1:=Ynu (k:=m) (by omega);have b2:=Yki (k:=m);by_cases h0:m=0
 ·subst h0;simp[A.mH,hf,r1];exact⟨hW,hK,rO,mV,aA,by simp[r1],by omega,n1,n2,u1,u2,a,o,g0,g1,ha,ho,rz,a1,o1,la⟩
 have c1:(0:Int)<(m:Int):=by omega
 have c2:0<m:=by omega
 obtain⟨t1,t2,t3⟩:=Yk1 rz a1 o1 c2;have lo:wl o<10000000000:=pT (Nc (a:=(o:Int)) (b:=(M:Int)) (by omega)) hM;obtain⟨_,_,e5,o5⟩:=ha.cells;simp only[V.agg.injEq,jW,V.int.injEq,true_and,and_true]at e5;obtain⟨rfl,rfl⟩:=e5;unfold V.one at o5;have jC:¬q<N:=by omega
 by_cases hp:m%2=1
 ·have p1:(m:Int)%2=1:=by omega
  simp[A.mH,hr,r1,a2,a5,c2,b1,hp,g0,g1,aS,aO];refine au (FA ho ha (by omega) (by omega)) ?_;rintro v h3 n3 k3 hv;rw[<-Ml]at hv;obtain⟨n6,u6,rfl,o6⟩:=hv.cells;unfold V.one at o6;have jE:=k3.le;have f0:=(k3.get N (by omega)).trans g0;have f1:=(k3.get q (by omega)).trans g1;have f2:=(k3.get (N+1) (by omega)).trans aA;have d1:¬N=q:=by omega
  have d2:¬N+1=q:=by omega
  have d3:¬q=N:=by omega
  have ha3:=(ha.ad k3).aG (c1:=[.int .i64 n6,u6]) (e1:=99) (w1:=true) f1 ho.nu rfl;have VE:=hv.aG (c1:=[.int .i64 n6,u6]) (e1:=99) (w1:=true) f1 ho.nu rfl;have f0':(h3.set q (.cells [.int .i64 n6,u6] 99 true)).get N=some (.cells [.int .i64 n1,u1] 99 true):=by rw[T.ag,ak d1];exact f0
  have f1':(h3.set q (.cells [.int .i64 n6,u6] 99 true)).get q=some (.cells [.int .i64 n6,u6] 99 true):=by simp
  have f2':(h3.set q (.cells [.int .i64 n6,u6] 99 true)).get (N+1)=some (.cells [.int .i64 0,.aa] 99 true):=by rw[T.ag,ak d2];exact f2
  have kH:=(hK.trans k3).set (i:=q) (o:=.cells [.int .i64 n6,u6] 99 true) (by omega);by_cases CB:1<m
  ·have p2:(1:Int)<(m:Int):=by omega
   have t4:=Yv7 rz a1 o1 CB;have laa:wl ((a*a:Nat):Int)<10000000000:=pT (Nc (a:=((a*a:Nat):Int)) (b:=(M:Int)) (by omega)) hM;generalize hH:h3.set q (.cells [.int .i64 n6,u6] 99 true)=H3 at*;simp[r1,hr,a2,a5,f1,o6,ae,bM,p2,hH,f0',aS,aO];refine au (FA ha3 ha3 (by omega) (by omega)) ?_;rintro v h4 n4 k4 Rv;rw[<-Ml]at Rv;obtain⟨n7,u7,rfl,o7⟩:=Rv.cells;unfold V.one at o7;have xY:=k4.le;have e0:=(k4.get N (by omega)).trans f0';have e1:=(k4.get q (by omega)).trans f1';have e2:=(k4.get (N+1) (by omega)).trans f2';simp[r1,hr,hf,a2,e0,o7,ae,bM,b2];refine⟨m/2,by omega,by simp[az,hW,jC],(kH.trans k4).set (aN _),rO,by show q<n4;omega,by simp[e2],by simp,by omega,n7,n6,u7,u6,a*a,o*a,by simp,by simp[d3,e1],Rv.aG e0 ha.nu rfl,(VE.ad k4).aG e0 ha.nu rfl,Yv8 rz hp,Au a1 a1,Au o1 a1,laa⟩
  have p2:¬(1:Int)<(m:Int):=by omega
  have m0:m/2=0:=by omega
  have m1':m=1:=by omega
  simp[r1,hr,hf,a5,f1,o6,ae,bM,p2,b2];refine⟨m/2,by omega,by simp[az,hW,jC],kH,rO,by show q<n3;omega,f2',by simp,by omega,n1,n6,u1,u6,a,o*a,f0',f1',ha3,VE,by rw[m0,<-rz,m1'];simp,a1,Au o1 a1,la⟩
 have p1:¬(m:Int)%2=1:=by omega
 have p0:m%2=0:=by omega
 have p2:(1:Int)<(m:Int):=by omega
 have CB:1<m:=by omega
 have t4:=Yv7 rz a1 o1 CB;have laa:wl ((a*a:Nat):Int)<10000000000:=pT (Nc (a:=((a*a:Nat):Int)) (b:=(M:Int)) (by omega)) hM;simp[A.mH,hr,r1,a2,c2,b1,p1,p2,g0,aS,aO];refine au (FA ha ha (by omega) (by omega)) ?_;rintro v h3 n3 k3 hv;rw[<-Ml]at hv;obtain⟨n6,u6,rfl,o6⟩:=hv.cells;unfold V.one at o6;have jE:=k3.le;have f0:=(k3.get N (by omega)).trans g0;have f1:=(k3.get q (by omega)).trans g1;have f2:=(k3.get (N+1) (by omega)).trans aA;have d3:¬q=N:=by omega
 simp[r1,hr,hf,a2,f0,o6,ae,bM,b2];refine⟨m/2,by omega,by simp[az,hW],(hK.trans k3).set (aN _),rO,by show q<n3;omega,by simp[f2],by simp,by omega,n6,n2,u6,u2,a*a,o,by simp,by simp[d3,f1],hv.aG f0 ha.nu rfl,(ho.ad k3).aG f0 ha.nu rfl,Yra rz p0,Au a1 a1,o1,laa⟩
def Ywb(hx:In h N x a)(ha:1<=a)(hk:k<4611686018427387904)(la:wl a<10000000000)(hM:wl ((a^k:Nat):Int)<10000000000):Fn A.C 212 [x,.int .i64 k] h N (fun v h' n'=>In h' n' v ((a^k:Nat):Int)):=by
 intro w;rw[aP,A.k212 (by simp)];obtain⟨n1,u1,rfl,o1⟩:=hx.cells;have kk:=aQ (aQ (ab.refl (h:=h) (n:=N)) (.cells [.int .i64 n1,u1] 99 true)) (.cells [.int .i64 0,.aa] 99 true);have kO:=hx.ad kk;unfold V.one at o1;simp[A.b212,o1];refine au Ki ?_;rintro _ h1 m1 k1 rfl;have gT:=k1.le;have g0:=k1.get N (by omega);have g1:=k1.get (N+1) (by omega);simp at g0 g1;have wK:=kO.ad k1;have d1:¬N=m1:=by omega
 have d2:¬N+1=m1:=by omega
 have jC:¬m1<N:=by omega
 have kE:=(aQ (ab.refl (h:=h1) (n:=m1)) (.cells [.int .i64 0,.aa] 99 true)).set (i:=m1) (o:=.cells [.int .i64 1,.aa] 99 true) (aN _);simp[ae,bM];refine cB [(1,1),(7,21)] _ (VD h N m1 (a^k)) k ?_ (Yk4 hM (by simp) (by simp)) ?_
 ·refine⟨by simp[az,jC],((kk.trans k1).trans kE),by omega,by show m1<m1+1;omega,by simp[d2,g1],by simp,hk,n1,1,u1,.aa,a,1,by simp[d1,g0],by simp,wK.ad kE,In.small (by omega) (by omega),by simp,ha,by omega,la⟩
 rintro e r ⟨h5,m5,W5⟩ hr ⟨rfl,hW,hK,rO,mV,aA,r1,lm,n5,n6,u5,u6,a',o,g5,g6,ha5,kY,rz,a1,o1',HP⟩;simp only at hW hK mV aA g5 g6 ha5 kY;obtain⟨_,_,e5,o5⟩:=kY.cells;simp only[V.agg.injEq,jW,V.int.injEq,true_and,and_true]at e5;obtain⟨rfl,rfl⟩:=e5;unfold V.one at o5;have he:(o:Int)=((a^k:Nat):Int):=by rw[<-rz];simp
 rw[he]at kY;have jC:¬N+1<N:=by omega
 simp[hr,g6,aA,aS,aO,ae,bM,o5,ay,hW,jC];exact⟨hK.set (by omega),kY.aG aA (by simp) rfl⟩
def Ygi(x:aH):∀(y:aH),aE (x++y)=aE x*10^y.length+aE y:=by
 intro y;generalize hn:y.length=n;induction n generalizing y with
 |zero=> have:y=[]:=tC hn;subst this;simp[aE]
 |succ n ih=> obtain⟨u,d,rfl⟩:∃u d,y=u++[d]:=⟨y.dropLast,y.getLast (by rintro rfl;simp at hn),(Tq _).symm⟩;simp at hn;rw[<-uJ,O5,O5,ih u hn,iD];grind
def HR(h:n<10^k):wl n<=k:=by unfold wl;apply Zg8;have:(10:Nat)^k<=B^k:=Jg (by decide) k;simp;omega
def Zr8(h:cO s=true)(k:Nat):cO (s.take k)=true:=by unfold cO at*;rw[kJ]at*;exact fun x hx=>h x (AG hx)
def Yej(h:cO s=true)(k:Nat):cO (s.drop k)=true:=by unfold cO at*;rw[kJ]at*;exact fun x hx=>h x (OX hx)
structure VF (h:T O) (N:Nat) (s:aH) (m:Nat) (r:T V) (st:St):Prop where
 w:az N st.w=[]
 ad:ab h N st.h st.n
 le:N+2<=st.n
 row:st.h.get N=some (.cells [.int .i64 0,.aa] 99 true)
 ex:∃(cur:aH) (p:Nat) (n1:Int) (u1:V),r.get 0=some (.str cur)/\cur.length=m/\m<=s.length/\cO cur=true/\st.h.get (N+1)=some (.cells [.int .i64 n1,u1] 99 true)/\In st.h st.n (.agg [.int .i64 n1,u1]) p/\aE s=p*10^m+aE cur
def Yf5(hd:cO s=true)(hl:s.length<=100000)(a4:r0.get 4=some (.ptr (N+1) 0)):
  ∀x r st,(∀t,kV [(0,0),(5,7),(13,36)] t=false->r.get t=r0.get t)->Fx [(0,0),(5,7),(13,36)] r0 41 ⟨r,41,[]⟩->VF h N s x r st->Code A.C none A.pd ⟨r,41,[]⟩ st (Rd [(0,0),(5,7),(13,36)] r0 41 (VF h N s) x (fun e r st=>e=.exit 0/\VF h N s 0 r st)):=by
 rintro m r ⟨H,n0,W⟩ hr hf ⟨hW,hK,hle,aA,cur,p,n1,u1,gI,cy,hms,rk,g1,hp,hv⟩;simp only at hW hK hle aA g1 hp;rw[bG];by_cases h0:m=0
 ·subst h0;have:cur=[]:=tC cy;subst this;simp[A.pd,hf,gI];exact⟨hW,hK,hle,aA,[],p,n1,u1,by simp[gI],rfl,by omega,rfl,g1,hp,hv⟩
 obtain⟨n,hn⟩:∃n,n=min 18 m:=⟨_,rfl⟩;have c1:0<cur.length:=by omega
 have c3:(if (cur.length:Int)<18 then (cur.length:Int) else 18)=(n:Int):=by split<;>omega
 have c4:(n:Int)<=(cur.length:Int):=by omega
 have IN:p<=aE s:=by rw[hv];have:p*1<=p*10^m:=mZ p (BM (by decide));omega
 have cv:=Dy hd;have lp:wl (p:Int)<=100000:=nI (HR (pT IN cv)) hl;have DV:=fun (h:T O) (N:Nat)=>Yum (s:=cur.take n) (h:=h) (N:=N) (Zr8 rk n) (by rw[iV];omega) (by rw[iV];omega);have l10:wl ((10:Nat):Int)<10000000000:=by decide+kernel
 have lpw:wl ((10^n:Nat):Int)<=19:=HR (Nat.pow_lt_pow_right (by decide) (by omega));have HS:=Dy (Zr8 rk n);have htl:(cur.take n).length=n:=by rw[iV];omega
 rw[htl]at HS;have h18:(10:Nat)^n<=10^18:=rL (by decide) (by omega);have e18:(10:Nat)^18=1000000000000000000:=by decide
 have lnv:wl ((aE (cur.take n):Nat):Int)<=18:=nI (HR HS) (by omega);simp[A.pd,gI,c1,AP,EA,Af,c3,c4,aC];refine au (DV _ _) ?_;rintro _ h1 m1 k1 rfl;have gT:=k1.le;have f1:=(k1.get (N+1) (by omega)).trans g1;simp[a4,hr,f1,aS,aO];refine au Ki ?_;rintro _ h2 m2 k2 rfl;have jN:=k2.le;simp[];refine au (Ywb (In.small (z:=(10:Nat)) (by omega) (by omega)) (by omega) (by omega) l10 (by omega)) ?_;rintro vp h3 m3 k3 hvp;have jE:=k3.le;simp[];refine au (FA (((hp.ad k1).ad k2).ad k3) hvp (by omega) (by omega)) ?_;rintro vm h4 m4 k4 hvm;have xY:=k4.le;have lm:=Kp (p:Int) ((10^n:Nat):Int);simp[];refine au Ki ?_;rintro _ h5 m5 k5 rfl;have KH:=k5.le;simp[];refine au (QY (hvm.ad k5) (In.small (z:=((aE (cur.take n):Nat):Int)) (by omega) (by omega)) (by omega) (by omega)) ?_;rintro va h6 m6 k6 hva;have zbP:=k6.le;have k26:=(((k2.trans k3).trans k4).trans k5).trans k6;have e1:=(k26.get (N+1) (by omega)).trans f1;have e2:=(k26.get N (by omega)).trans ((k1.get N (by omega)).trans aA);obtain⟨n6,u6,rfl,o6⟩:=hva.cells;unfold V.one at o6;have z1:N+1<m1:=by omega
 have z2:N+1<m6:=by omega
 have z3:¬N+1<N:=by omega
 have z4:N+1<m5:=by omega
 simp[hr,hf,a4,gI,e1,o6,z1,z2,z4,ae,bM,aC,c4,c9.c_];have Gf:(p:Int)*((10^n:Nat):Int)+((aE (cur.take n):Nat):Int)=((p*10^n+aE (cur.take n):Nat):Int):=by simp
 rw[Gf]at hva;refine⟨m-n,by omega,by simp[az,hW,z3],((hK.trans k1).trans k26).set (by omega),by show N+2<=m6;omega,by simp[e2],cur.drop n,p*10^n+aE (cur.take n),n6,u6,by simp,by rw[zX];omega,by omega,Yej rk n,by simp,hva.aG e1 hp.nu rfl,?_⟩;have h1:=Ygi (cur.take n) (cur.drop n);rw[Et,zX,cy]at h1;rw[hv,h1,iR,GA,<-mT,show n+(m-n)=m by omega];omega
def Yf6(hd:cO (bm s)=true)(hl:(bm s).length<=100000):Fn A.C 149 [.str s] h N (fun v h' n'=>In h' n' v (if cE s=true then -(aE (bm s):Int) else (aE (bm s):Int))):=by
 intro w;rw[aP,A.k149 (by simp)];simp[A.b149,Zve,Zk4,ae];refine cB [(0,0),(5,7),(13,36)] _ (VF h N (bm s)) (bm s).length ?_ (Yf5 hd hl (by simp)) ?_
 ·have kk:=(aQ (aQ (ab.refl (h:=h) (n:=N)) (.cells [.int .i64 0,.aa] 99 true)) (.cells [.int .i64 0,.aa] 99 true)).set (i:=N+1) (o:=.cells [.int .i64 0,.aa] 99 true) (by omega);exact⟨by simp[az],kk,aN _,by simp,bm s,0,0,.aa,by simp,rfl,aN _,hd,by simp,In.small (by omega) (by omega),by simp⟩
 rintro e r ⟨h5,m5,W5⟩ hr ⟨rfl,hW,hK,hle,aA,cur,p,n1,u1,gI,cy,hms,rk,g1,hp,hv⟩;simp only at hW hK hle aA g1 hp;have:cur=[]:=tC cy;subst this;have hv:aE (bm s)=p:=by rw[hv];simp[aE]
 have lp:wl (p:Int)<=100000:=by rw[<-hv];exact nI (HR (Dy hd)) hl
 obtain⟨_,_,e5,o5⟩:=hp.cells;simp only[V.agg.injEq,jW,V.int.injEq,true_and,and_true]at e5;obtain⟨rfl,rfl⟩:=e5;unfold V.one at o5;cases hn:cE s with
 |true=> simp[hr,hn,g1,aS,aO];refine au (M7 hp (by omega)) ?_;rintro v h6 m6 k6 hv6;obtain⟨n6,u6,rfl,o6⟩:=hv6.cells;unfold V.one at o6;have e0:=(k6.get N (by omega)).trans aA;simp[hr,e0,o6,aS,aO,ae,bM,ay,hW];exact⟨(hK.trans k6).set (aN _),by rw[hv];exact hv6.aG e0 (by simp) rfl⟩
 |false=> simp[hr,hn,g1,aA,o5,aS,aO,ae,bM,ay,hW];exact⟨hK.set (aN _),by rw[hv];exact hp.aG aA (by simp) rfl⟩
def A.Rw:=A.q Tryz.f194
def A.pe:=A.ql A.Rw 0 []
def A.b194:=(fun x0=>A.qb A.Rw [x0]) A.pe
def A.k194:=@A.kk 194 15 [.tmp 2] A.b194 (by kernel_rfl) rfl
def Ygl{l:List Int}(hs:Sl h N v (dI l))(hl:l.length<1000):A.C.call (.func 194 [] []) [v] ⟨h,N,w⟩=some (.int .i64 (cM l),⟨h,N,w⟩):=by
 apply Call.eq;have hlen:=hs.len;rw[jo]at hlen;rw[aP,A.k194 (by simp)];simp[A.b194,hlen];refine cB [(2,2),(4,4),(7,14)] (fun e r st=>st=⟨h,N,[]⟩/\((e=.exit 0/\cM l=0)\/(e=.ret/\r.get 2=some (.int .i64 (cM l))))) (fun m r st=>st=⟨h,N,[]⟩/\∃k,m=l.length-k/\k<=l.length/\r.get 7=some (.int .i64 k)/\cM l=cM (l.drop k)) l.length ?_ ?_ ?_
 ·exact⟨rfl,0,by omega,by omega,by simp,by simp⟩
 ·rintro m r _ hr hf ⟨rfl,k,rfl,hk,h7,hz⟩;rw[bG];by_cases aD:k<l.length
  ·obtain⟨c,hc⟩:=bs aD;obtain⟨i,o,cc,e,rw,q1,q2,q3,q4⟩:=hs.at (jq hc);rw[oh hc,cM]at hz;have dj:(k:Int)<(l.length:Int):=by omega
   by_cases h0:c=0
   ·rw[av h0]at hz;simp(disch:=first|(simp;done)|omega|(simp only[bu,cr,bl];omega)|rfl) [A.pe,hr,hf,h7,dj,aD,hlen,q1,q3,q4,bz,h0];exact⟨_,by omega,k+1,rfl,by omega,by simp,hz⟩
   rw[ak h0]at hz;simp[A.pe,hr,hf,h7,dj,hlen,q1,q3,q4,h0,hz]
  have:l.drop k=[]:=Df (by omega);rw[this,cM]at hz;have:k=l.length:=by omega
  subst this;simp[A.pe,hr,hf,h7,hz]
 rintro _ r _ hr ⟨rfl,⟨rfl,hz⟩|⟨rfl,h2⟩⟩
 ·simp[hz]
 simp[h2]
def KL{a0 a1:Int}(hi:i<N):A.C.call (.func 194 [] []) [.slice i 0 2 (some 2) 1] ⟨h.set i (.cells [.int .i64 a0,.int .i64 a1] 36 true),N,w⟩=some (.int .i64 (cM [a0,a1]),⟨h.set i (.cells [.int .i64 a0,.int .i64 a1] 36 true),N,w⟩):=
 Ygl (l:=[a0,a1]) (Sl.row (e:=36) (rw:=true) (cp:=some 2) hi (by simp[dI]) rfl (by simp)) (by simp)
variable {s:aH}
def A.Rx:=A.q Tryz.f140
def A.eW:=A.qt A.Rx [] [] [1,1,1,1,1]
def A.b140:=(fun y0=>A.qt A.Rx [] [([1,1,1,1,1],y0)] []) A.eW
def A.k140:=@A.kk 140 76 [.tmp 2] A.b140 (by kernel_rfl) rfl
def Zvb(h:jK s=true):cO s=true/\1<=s.length:=by
 cases s with
 |nil=>cases h
 |cons c s=> unfold jK at h;rw[gV]at h;exact⟨h.1,by simp⟩
def qu(form br:Bool)(p d:aH):Nat:=if form=false then 1 else if 600<p.length\/600<d.length then 4 else if br=true/\Nat.gcd (aE p) (aE d)≠1 then 1 else 0
def Yll(h:cO s=true):cE s=false/\bm s=s:=by
 cases s with
 |nil=>exact⟨rfl,rfl⟩
 |cons c s=>
  have hc:mU c=true:=by simp[cO]at h;exact h.1
  unfold mU at hc;simp only[decide_eq_true_eq]at hc;have:cE (c::s)=false:=by simp[cE];omega
  refine⟨this,?_⟩;unfold bm;rw[this];rfl
def Zzm(hd:cO s=true)(hl:s.length<=100000):Fn A.C 149 [.str s] h N (fun v h' n'=>In h' n' v (aE s:Nat)):=by obtain⟨h1,h2⟩:=Yll hd;have:=Yf6 (s:=s) (h:=h) (N:=N) (by rw[h2];exact hd) (by rw[h2];exact hl);rw[h1,h2]at this;exact this
def Yt4{H:T O}{p d:aH}{form br:Bool}(hp:form=true->cO p=true)(hd:form=true->br=true->cO d=true)(lp:p.length<=100000)(ld:d.length<=100000)(a5:r0.get 5=some (.str p))(a6:r0.get 6=some (.str d))(a7:r0.get 7=some (.bool br))(a8:r0.get 8=some (.bool form)):
  Code A.C none A.eW ⟨r0,76,[]⟩ ⟨H,n,[]⟩ (fun e fr st=>e=.ret/\∃r,fr=⟨r,76,[]⟩/\r.get 2=some (.int .i64 (qu form br p d:Nat))/\az n st.w=[]/\ab H n st.h st.n):=by
 rw[bG];cases form with
 |false=>
  by_cases c1:600<p.length
  ·have c1':(600:Int)<(p.length:Int):=by omega
   simp[A.eW,a5,a8,FB,c1',ae,KL,cM,qu];exact aQ ab.refl _
  have c1':¬(600:Int)<(p.length:Int):=by omega
  by_cases c2:600<d.length
  ·have c2':(600:Int)<(d.length:Int):=by omega
   simp[A.eW,a5,a6,a8,FB,c1',c2',ae,KL,cM,qu];exact aQ ab.refl _
  have c2':¬(600:Int)<(d.length:Int):=by omega
  simp[A.eW,a5,a6,a8,FB,c1',c2',ae,KL,cM,qu];exact aQ ab.refl _
 |true=>
  by_cases c1:600<p.length
  ·have c1':(600:Int)<(p.length:Int):=by omega
   simp[A.eW,a5,a8,FB,c1,c1',ae,KL,cM,qu];exact aQ ab.refl _
  have c1':¬(600:Int)<(p.length:Int):=by omega
  by_cases c2:600<d.length
  ·have c2':(600:Int)<(d.length:Int):=by omega
   simp[A.eW,a5,a6,a8,FB,c1,c2,c1',c2',ae,KL,cM,qu];exact aQ ab.refl _
  have c2':¬(600:Int)<(d.length:Int):=by omega
  have c3:¬(600<p.length\/600<d.length):=by omega
  cases br with
  |false=> simp[A.eW,a5,a6,a7,a8,FB,c1,c2,c1',c2',ae,KL,cM,qu];exact aQ ab.refl _
  |true=>
   have lwp:wl ((aE p:Nat):Int)<=100000:=nI (HR (Dy (hp rfl))) lp;have lwd:wl ((aE d:Nat):Int)<=100000:=nI (HR (Dy (hd rfl rfl))) ld;simp[A.eW,a5,a6,a7,a8,FB,c1',c2',ae,KL,cM];have kz:=aQ (ab.refl (h:=H) (n:=n)) (.cells [.int .i64 0,.int .i64 0] 36 true);refine au (Zzm (hp rfl) (by omega)) ?_;rintro v3 h3 n3 k3 VE;simp[a6];refine au (Zzm (hd rfl rfl) (by omega)) ?_;rintro v4 h4 n4 k4 Rv;simp[];refine au (Yo0 (VE.ad k4) Rv (by omega) (by omega)) ?_;rintro v5 h5 n5 k5 hv5;simp[];refine au Ki ?_;rintro _ h6 n6 k6 rfl;simp[];have hg:Int.gcd (aE p:Nat) (aE d:Nat)=Nat.gcd (aE p) (aE d):=rfl;rw[hg]at hv5;have lg:wl ((Nat.gcd (aE p) (aE d):Nat):Int)<100000000000:=by
    by_cases hz:aE p=0
    ·rw[hz,Nat.gcd_zero_left];omega
    have:=Nc (a:=((Nat.gcd (aE p) (aE d):Nat):Int)) (b:=((aE p:Nat):Int)) (by have:=Nat.gcd_le_left (aE d) (show 0<aE p by omega);omega);omega
   have l1:wl (1:Int)<100000000000:=by decide+kernel
   refine au (Yxw (hv5.ad k6) (In.small (z:=1) (by omega) (by omega)) lg l1) ?_;rintro _ h7 n7 k7 rfl;have kk:=((((kz.trans k3).trans k4).trans k5).trans k6).trans k7;generalize hgg:Nat.gcd (aE p) (aE d)=g at*;by_cases g1:g=1
   ·subst g1;simp[FB,qu,c1,c2,dB,hgg];exact kk
   have g2:¬dB ((g:Int)-1)=0:=by unfold dB;split<;>(try split)<;>omega
   simp[FB,qu,c1,c2,g1,g2,hgg];exact kk
def Ybe(hl:s.length<=100000):Fn A.C 140 [.str s] h N (fun v _ _=>v=.int .i64 (aR s:Nat)):=by
 intro w;have hb:(bm s).length<=s.length:=by unfold bm;split<;>simp
 have hc:=fun st=>Ypc (s:=bm s) (st:=st) (by omega);rw[aP,A.k140 (by simp)];show bD _ _ _ (Fa (ay (fun v _ _=>v=.int .i64 (J0 (cE s) (bm s):Nat)) h N w));unfold J0;have hle:=Ht (bm s);have CB:((bm s).take (ah (bm s))).length<=100000:=by simp;omega
 have vf:((bm s).drop (ah (bm s)+1)).length<=100000:=by simp;omega
 simp[A.b140,Zvu,hc];generalize cE s=neg at*;generalize rJ:decide (ah (bm s)<(bm s).length)=br at*;generalize Gf:(bm s).take (ah (bm s))=p at*;generalize DQ:(bm s).drop (ah (bm s)+1)=d at*;clear rJ Gf DQ hc;have c_:mr neg p br d=qu (ij neg p br d) br p d:=rfl;rw[c_];have fin:∀(h1:T O) (n1:Nat) (r:T V) (form:Bool),ab h N h1 n1->form=ij neg p br d->r.get 5=some (.str p)->r.get 6=some (.str d)->r.get 7=some (.bool br)->r.get 8=some (.bool form)->bD A.C [.fin [.tmp 2] ⟨h,N,w⟩] (fy (A.C.code none A.eW ⟨r,76,[]⟩ ⟨h1,n1,[]⟩)) (Fa (ay (fun v _ _=>v=.int .i64 (qu (ij neg p br d) br p d:Nat)) h N w)):=by
  intro h1 n1 r form k1 d_ a5 a6 a7 a8;refine qV (Yt4 (form:=form) (br:=br) (p:=p) (d:=d) ?_ ?_ CB vf a5 a6 a7 a8) ?_
  ·intro hf;rw[d_]at hf;unfold ij at hf;simp only[gV]at hf;exact(Zvb hf.1.1).1
  ·intro hf oC;rw[d_]at hf;unfold ij at hf;rw[oC]at hf;simp only[gV,Bool.not_true,Bool.false_or]at hf;exact(Zvb hf.2.1.1).1
  rintro e fr ⟨h2,n2,W2⟩ ⟨rfl,r2,rfl,fL,hW,hK⟩;simp only at hW hK;have g_:=ML k1.le hW;simp[fL,ay,g_,d_];exact k1.trans hK
 refine au (Zin (by omega)) ?_;rintro v h1 n1 k1 rfl;have z0:jK [48]=true:=by decide
 by_cases hA:jK p=true
 ·have hB:(neg=true/\p=[48])\/(neg=false)\/(neg=true/\p≠[48]):=by
   cases neg
   ·exact .inr (.inl rfl)
   by_cases hq:p=[48]
   ·exact .inl ⟨rfl,hq⟩
   exact .inr (.inr ⟨rfl,hq⟩)
  rcases hB with⟨rfl,rfl⟩|rfl|⟨rfl,CT⟩
  ·cases br
   ·simp[z0];exact fin _ _ _ false k1 (by simp[ij]) (by simp) (by simp) (by simp) (by simp)
   simp[z0];exact fin _ _ _ false k1 (by simp[ij]) (by simp) (by simp) (by simp) (by simp)
  ·cases br
   ·simp[hA];exact fin _ _ _ true k1 (by simp[ij,hA]) (by simp) (by simp) (by simp) (by simp)
   simp[hA];refine au (Zin (by omega)) ?_;rintro v h2 n2 k2 rfl;by_cases hD:jK d=true
   ·by_cases h48:d=[48]
    ·subst h48;simp[z0];exact fin _ _ _ false (k1.trans k2) (by simp[ij]) (by simp) (by simp) (by simp) (by simp)
    have e8:(d==[48])=false:=by simp[h48]
    have e9:(d==[49])=decide (d=[49]):=by by_cases h:d=[49]<;>simp[h]
    simp[hD,e8];exact fin _ _ _ (!(d==[49])) (k1.trans k2) (by simp[ij,hA,hD,h48,e9]) (by simp) (by simp) (by simp) (by simp)
   have hD:jK d=false:=by simpa using hD
   simp[hD];exact fin _ _ _ false (k1.trans k2) (by simp[ij,hD]) (by simp) (by simp) (by simp) (by simp)
  have e1:(p==[48])=false:=by simp[CT]
  cases br
  ·simp[hA,e1];exact fin _ _ _ true k1 (by simp[ij,hA,CT]) (by simp) (by simp) (by simp) (by simp)
  simp[hA,e1];refine au (Zin (by omega)) ?_;rintro v h2 n2 k2 rfl;by_cases hD:jK d=true
  ·by_cases h48:d=[48]
   ·subst h48;simp[z0];exact fin _ _ _ false (k1.trans k2) (by simp[ij]) (by simp) (by simp) (by simp) (by simp)
   have e8:(d==[48])=false:=by simp[h48]
   have e9:(d==[49])=decide (d=[49]):=by by_cases h:d=[49]<;>simp[h]
   simp[hD,e8];exact fin _ _ _ (!(d==[49])) (k1.trans k2) (by simp[ij,hA,hD,h48,CT,e9]) (by simp) (by simp) (by simp) (by simp)
  have hD:jK d=false:=by simpa using hD
  simp[hD];exact fin _ _ _ false (k1.trans k2) (by simp[ij,hD]) (by simp) (by simp) (by simp) (by simp)
 have hA:jK p=false:=by simpa using hA
 cases br
 ·simp[hA];exact fin _ _ _ false k1 (by simp[ij,hA]) (by simp) (by simp) (by simp) (by simp)
 simp[hA];exact fin _ _ _ false k1 (by simp[ij,hA]) (by simp) (by simp) (by simp) (by simp)
end
end Go.Mx
