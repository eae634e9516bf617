/-strconv-/
import Derived.Test.YtnkdakmfipgidaaGreatDoorNbC
set_option linter.all false
set_option maxHeartbeats 2000000
namespace Go.Mx
noncomputable section
open Go Go.Proofs
set_option maxRecDepth 1000000
def A.QR:=A.q Tryz.f232
def A.tk:=A.ql A.QR 0 []
def A.b232:=(fun x0=>A.qb A.QR [x0]) A.tk
def A.k232:=@A.kk 232 77 [.tmp 2,.tmp 3] A.b232 (by kernel_rfl) rfl
def A.b211:=A.q Tryz.f211
def A.k211:=@A.kk 211 18 [.tmp 2,.tmp 3] A.b211 (by kernel_rfl) rfl
def Yl3{s:aD}{h:T O}{N:Nat}(hd:cK s=true)(h1:1<=s.length)(h2:s.length<=18):Fn A.C 232 [.str s] h N (fun v _ _=>v=.aV [.int .i64 (aE s:Nat),.aY]):=by
 intro w;obtain⟨c,hc⟩:=bj (l:=s) (k:=0) (by omega);have qy:=Ou hd hc;have a1:¬cW c=45:=by omega
 have a2:¬cW c=43:=by omega
 have a3:(0:Int)<(s.length:Int):=by omega
 have a5:(s.length:Int)<19:=by omega
 have jH:0<s.length:=by omega
 have aW:s≠[]:=fun h=>by rw[h]at h1;simp at h1
 have im:s.head?=some c:=by cases s with
  |nil=>simp at hc
  |cons=>simpa using hc
 rw[aN,A.k232 (by simp)];by_cases a4:(s.length:Int)<10;all_goals
  simp(disch:=first|(simp;done)|omega|(simp only[bq,b_,bk];omega)|rfl) [-getElem?_pos,A.b232,a3,a4,a5,aW,jH,im,hc,bh,a1,a2]
  refine cm [(2,3),(6,6),(8,8),(49,63)] (fun e r st=>st.n=N+1/\ay N st.w=[]/\ab h N st.h (N+1)/\e=.exit 0/\r.get 6=some (.int .i64 (aE s:Nat))) (fun m r st=>st.n=N+1/\ay N st.w=[]/\ab h N st.h (N+1)/\st.h.get N=some (.cells (J0 s) 5 true)/\∃k,m=s.length-k/\k<=s.length/\r.get 49=some (.int .i64 k)/\r.get 6=some (.int .i64 (aE (s.take k):Nat))) s.length ?_ ?_ ?_
  ·exact⟨rfl,rfl,(ab.refl.set (aO _)).up (by omega),by simp,0,by omega,by omega,by simp,by simp[aE]⟩
  ·rintro m r ⟨H,n1,W⟩ hr hf ⟨hn,hW,hK,az,k,rfl,hk,Az,h6⟩
   simp only at hn hW hK az
   subst hn
   rw[bu]
   by_cases aC:k<s.length
   ·obtain⟨c,hc⟩:=bj aC
    have uP:=Ou hd hc
    have hb:=Ydj hc
    have hv:=Zpf hc
    have Lh:=TK hd k hk
    have q8:=TL (a:=k) (b:=17) (by omega)
    have b1:¬9<cW c-48:=by omega
    have b2:bo .u8 (cW c-48)=cW c-48:=Dj (by omega) (by omega)
    have b3:((aE (s.take (k+1)):Nat):Int)=(aE (s.take k):Nat)*10+(cW c-48):=by
     rw[hv];unfold cW at*;omega
    have b4:((aE (s.take k):Nat):Int)<100000000000000000:=by
     have:(10:Nat)^17=100000000000000000:=by decide
     omega
    generalize hy:aE (s.take (k+1))=y at*
    generalize aE (s.take k)=x at*
    simp(disch:=first|(simp;done)|omega|(simp only[bq,b_,bk];omega)|rfl) [A.tk,hr,hf,Az,h6,aC,az,hb,b1,b2,hW]
    exact⟨_,by omega,hK,k+1,rfl,by omega,by simp,by rw[hy,b3]⟩
   ·have:k=s.length:=by omega
    subst this
    simp[A.tk,hr,hf,Az,hW]
    rw[C3]at h6
    exact⟨hK,h6⟩
  ·rintro _ r ⟨H,n1,W⟩ hr ⟨hn,hW,hK,rfl,h6⟩
   simp only at hn hW hK
   subst hn
   simp[hr,ax,hW,hK,h6,hc,a1]
def Ytp{s:aD}{h:T O}{N:Nat}(hd:cK s=true)(h1:1<=s.length)(h2:s.length<=18):Fn A.C 211 [.str s] h N (fun v _ _=>v=.aV [.int .i64 (aE s:Nat),.aY]):=by intro w;rw[aN,A.k211 (by simp)];simp[A.b211];refine av (Yl3 hd h1 h2) ?_;rintro v h1 n1 k1 rfl;simp[bh,ax,k1]
variable {M N a k o:Nat} {h:T O} {s:aD}
def A.QS:=A.q Tryz.f212
def A.lI:=A.ql A.QS 0 []
def A.b212:=(fun x0=>A.qb A.QS [x0]) A.lI
def A.k212:=@A.kk 212 23 [.cell 4 (some 2)] A.b212 (by kernel_rfl) rfl
def A.QT:=A.q Tryz.f167
def A.oR:=A.ql A.QT 0 []
def A.b167:=(fun x0=>A.qb A.QT [x0]) A.oR
def A.k167:=@A.kk 167 41 [.cell 2 (some 2)] A.b167 (by kernel_rfl) rfl
def Yki(h:o*a^k=M)(ha:1<=a)(ho:1<=o)(hk:1<=k):o*a<=M/\a<=M/\o<=M:=by have h1:a^1<=a^k:=qW ha hk;rw[Nat.pow_one]at h1;have h2:o*a<=o*a^k:=mM o h1;have h3:1*a<=o*a:=nf a ho;have h4:o*1<=o*a:=mM o ha;omega
def Yu2(h:o*a^k=M)(ha:1<=a)(ho:1<=o)(hk:1<k):a*a<=M:=by
 have h1:a^2<=a^k:=qW ha hk;have h2:1*a^k<=o*a^k:=nf _ ho;have h3:a^2=a*a:=by rw[Nat.pow_two]
 omega
def Yu3(h:o*a^k=M)(hk:k%2=1):(o*a)*(a*a)^(k/2)=M:=by
 rw[<-h,<-Nat.pow_two,<-Nat.pow_mul,Gu];congr 1;conv=>rhs;rw[show k=2*(k/2)+1 by omega,ix]
 rw[jO]
def Yqm(h:o*a^k=M)(hk:k%2=0):o*(a*a)^(k/2)=M:=by rw[<-h,<-Nat.pow_two,<-Nat.pow_mul,show 2*(k/2)=k by omega]
structure Vj (h:T O) (N q M m:Nat) (r:T V) (st:St):Prop where
 w:ay N st.w=[]
 ad:ab h N st.h st.n
 q1:N+2<=q
 q2:q<st.n
 row:st.h.get (N+1)=some (.cells [.int .i64 0,.aa] 121 true)
 r1:r.get 1=some (.int .i64 m)
 lm:m<4611686018427387904
 ex:∃(n1 n2:Int) (u1 u2:V) (a o:Nat),st.h.get N=some (.cells [.int .i64 n1,u1] 121 true)/\st.h.get q=some (.cells [.int .i64 n2,u2] 121 true)/\In st.h st.n (.agg [.int .i64 n1,u1]) a/\In st.h st.n (.agg [.int .i64 n2,u2]) o/\o*a^m=M/\1<=a/\1<=o/\wl a<10000000000
def Ykk{q:Nat}{r0:T V}(hM:wl M<10000000000)(a2:r0.get 2=some (.ptr N 0))(a5:r0.get 5=some (.ptr q 0)):
  ∀x r st,(∀t,kX [(1,1),(7,21)] t=false->r.get t=r0.get t)->Fx [(1,1),(7,21)] r0 23 ⟨r,23,[]⟩->Vj h N q M x r st->Code A.C none A.lI ⟨r,23,[]⟩ st (Rd [(1,1),(7,21)] r0 23 (Vj h N q M) x (fun e r st=>e=.exit 0/\Vj h N q M 0 r st)):=by
 rintro m r ⟨H,n0,W⟩ hr hf ⟨hW,hK,vi,nL,az,r1,lm,n1,n2,u1,u2,a,o,g0,g1,ha,ho,tj,a1,o1,la⟩;simp only at hW hK nL az g0 g1 ha ho;rw[bu];have b1:=Ynd (k:=m) (by omega);have b2:=Yjz (k:=m);by_cases h0:m=0
 ·subst h0;simp[A.lI,hf,r1];exact⟨hW,hK,vi,nL,az,by simp[r1],by omega,n1,n2,u1,u2,a,o,g0,g1,ha,ho,tj,a1,o1,la⟩
 have c1:(0:Int)<(m:Int):=by omega
 have c2:0<m:=by omega
 obtain⟨t1,t2,t3⟩:=Yki tj a1 o1 c2;have lo:wl o<10000000000:=po (ML (a:=(o:Int)) (b:=(M:Int)) (by omega)) hM;obtain⟨_,_,e5,o5⟩:=ha.cells;simp only[V.agg.injEq,iH,V.int.injEq,true_and,and_true]at e5;obtain⟨rfl,rfl⟩:=e5;unfold V.one at o5;have mi:¬q<N:=by omega
 by_cases hp:m%2=1
 ·have p1:(m:Int)%2=1:=by omega
  simp[A.lI,hr,r1,a2,a5,c2,b1,hp,g0,g1,aQ,aL];refine av (Ce ho ha (by omega) (by omega)) ?_;rintro v h3 n3 k3 hv;rw[<-LJ]at hv;obtain⟨n6,u6,rfl,o6⟩:=hv.cells;unfold V.one at o6;have jG:=k3.le;have f0:=(k3.get N (by omega)).trans g0;have f1:=(k3.get q (by omega)).trans g1;have f2:=(k3.get (N+1) (by omega)).trans az;have d1:¬N=q:=by omega
  have d2:¬N+1=q:=by omega
  have d3:¬q=N:=by omega
  have ha3:=(ha.ad k3).aI (c1:=[.int .i64 n6,u6]) (e1:=121) (w1:=true) f1 ho.nu rfl;have Vk:=hv.aI (c1:=[.int .i64 n6,u6]) (e1:=121) (w1:=true) f1 ho.nu rfl;have f0':(h3.set q (.cells [.int .i64 n6,u6] 121 true)).get N=some (.cells [.int .i64 n1,u1] 121 true):=by rw[T.ae,ak d1];exact f0
  have f1':(h3.set q (.cells [.int .i64 n6,u6] 121 true)).get q=some (.cells [.int .i64 n6,u6] 121 true):=by simp
  have f2':(h3.set q (.cells [.int .i64 n6,u6] 121 true)).get (N+1)=some (.cells [.int .i64 0,.aa] 121 true):=by rw[T.ae,ak d2];exact f2
  have kH:=(hK.trans k3).set (i:=q) (o:=.cells [.int .i64 n6,u6] 121 true) (by omega);by_cases Ch:1<m
  ·have p2:(1:Int)<(m:Int):=by omega
   have t4:=Yu2 tj a1 o1 Ch;have laa:wl ((a*a:Nat):Int)<10000000000:=po (ML (a:=((a*a:Nat):Int)) (b:=(M:Int)) (by omega)) hM;generalize hH:h3.set q (.cells [.int .i64 n6,u6] 121 true)=H3 at*;simp[r1,hr,a2,a5,f1,o6,ag,bO,p2,hH,f0',aQ,aL];refine av (Ce ha3 ha3 (by omega) (by omega)) ?_;rintro v h4 n4 k4 QU;rw[<-LJ]at QU;obtain⟨n7,u7,rfl,o7⟩:=QU.cells;unfold V.one at o7;have xD:=k4.le;have e0:=(k4.get N (by omega)).trans f0';have e1:=(k4.get q (by omega)).trans f1';have e2:=(k4.get (N+1) (by omega)).trans f2';simp[r1,hr,hf,a2,e0,o7,ag,bO,b2];refine⟨m/2,by omega,by simp[ay,hW,mi],(kH.trans k4).set (aO _),vi,by show q<n4;omega,by simp[e2],by simp,by omega,n7,n6,u7,u6,a*a,o*a,by simp,by simp[d3,e1],QU.aI e0 ha.nu rfl,(Vk.ad k4).aI e0 ha.nu rfl,Yu3 tj hp,z_ a1 a1,z_ o1 a1,laa⟩
  have p2:¬(1:Int)<(m:Int):=by omega
  have m0:m/2=0:=by omega
  have m1':m=1:=by omega
  simp[r1,hr,hf,a5,f1,o6,ag,bO,p2,b2];refine⟨m/2,by omega,by simp[ay,hW,mi],kH,vi,by show q<n3;omega,f2',by simp,by omega,n1,n6,u1,u6,a,o*a,f0',f1',ha3,Vk,by rw[m0,<-tj,m1'];simp,a1,z_ o1 a1,la⟩
 have p1:¬(m:Int)%2=1:=by omega
 have p0:m%2=0:=by omega
 have p2:(1:Int)<(m:Int):=by omega
 have Ch:1<m:=by omega
 have t4:=Yu2 tj a1 o1 Ch;have laa:wl ((a*a:Nat):Int)<10000000000:=po (ML (a:=((a*a:Nat):Int)) (b:=(M:Int)) (by omega)) hM;simp[A.lI,hr,r1,a2,c2,b1,p1,p2,g0,aQ,aL];refine av (Ce ha ha (by omega) (by omega)) ?_;rintro v h3 n3 k3 hv;rw[<-LJ]at hv;obtain⟨n6,u6,rfl,o6⟩:=hv.cells;unfold V.one at o6;have jG:=k3.le;have f0:=(k3.get N (by omega)).trans g0;have f1:=(k3.get q (by omega)).trans g1;have f2:=(k3.get (N+1) (by omega)).trans az;have d3:¬q=N:=by omega
 simp[r1,hr,hf,a2,f0,o6,ag,bO,b2];refine⟨m/2,by omega,by simp[ay,hW],(hK.trans k3).set (aO _),vi,by show q<n3;omega,by simp[f2],by simp,by omega,n6,n2,u6,u2,a*a,o,by simp,by simp[d3,f1],hv.aI f0 ha.nu rfl,(ho.ad k3).aI f0 ha.nu rfl,Yqm tj p0,z_ a1 a1,o1,laa⟩
def Yu5{x:V}(hx:In h N x a)(ha:1<=a)(hk:k<4611686018427387904)(la:wl a<10000000000)(hM:wl ((a^k:Nat):Int)<10000000000):Fn A.C 212 [x,.int .i64 k] h N (fun v h' n'=>In h' n' v ((a^k:Nat):Int)):=by
 intro w;rw[aN,A.k212 (by simp)];obtain⟨n1,u1,rfl,o1⟩:=hx.cells;have kk:=aM (aM (ab.refl (h:=h) (n:=N)) (.cells [.int .i64 n1,u1] 121 true)) (.cells [.int .i64 0,.aa] 121 true);have mq:=hx.ad kk;unfold V.one at o1;simp[A.b212,o1];refine av J7 ?_;rintro _ h1 m1 k1 rfl;have fL:=k1.le;have g0:=k1.get N (by omega);have g1:=k1.get (N+1) (by omega);simp at g0 g1;have wD:=mq.ad k1;have d1:¬N=m1:=by omega
 have d2:¬N+1=m1:=by omega
 have mi:¬m1<N:=by omega
 have kE:=(aM (ab.refl (h:=h1) (n:=m1)) (.cells [.int .i64 0,.aa] 121 true)).set (i:=m1) (o:=.cells [.int .i64 1,.aa] 121 true) (aO _);simp[ag,bO];refine cm [(1,1),(7,21)] _ (Vj h N m1 (a^k)) k ?_ (Ykk hM (by simp) (by simp)) ?_
 ·refine⟨by simp[ay,mi],((kk.trans k1).trans kE),by omega,by show m1<m1+1;omega,by simp[d2,g1],by simp,hk,n1,1,u1,.aa,a,1,by simp[d1,g0],by simp,wD.ad kE,In.small (by omega) (by omega),by simp,ha,by omega,la⟩
 rintro e r ⟨h5,m5,W5⟩ hr ⟨rfl,hW,hK,vi,nL,az,r1,lm,n5,n6,u5,u6,a',o,g5,g6,ha5,ke,tj,a1,o1',Ht⟩;simp only at hW hK nL az g5 g6 ha5 ke;obtain⟨_,_,e5,o5⟩:=ke.cells;simp only[V.agg.injEq,iH,V.int.injEq,true_and,and_true]at e5;obtain⟨rfl,rfl⟩:=e5;unfold V.one at o5;have he:(o:Int)=((a^k:Nat):Int):=by rw[<-tj];simp
 rw[he]at ke;have mi:¬N+1<N:=by omega
 simp[hr,g6,az,aQ,aL,ag,bO,o5,ax,hW,mi];exact⟨hK.set (by omega),ke.aI az (by simp) rfl⟩
def Yft(x:aD):∀(y:aD),aE (x++y)=aE x*10^y.length+aE y:=by
 intro y;generalize hn:y.length=n;induction n generalizing y with
 |zero=> have:y=[]:=rS hn;subst this;simp[aE]
 |succ n ih=> obtain⟨u,d,rfl⟩:∃u d,y=u++[d]:=⟨y.dropLast,y.getLast (by rintro rfl;simp at hn),(TC _).symm⟩;simp at hn;rw[<-uG,Ot,Ot,ih u hn,ix];grind
def Hv{n:Nat}(h:n<10^k):wl n<=k:=by unfold wl;apply Zhb;have:(10:Nat)^k<=B^k:=I1 (by decide) k;simp;omega
def Zrn(h:cK s=true)(k:Nat):cK (s.take k)=true:=by unfold cK at*;rw[jY]at*;exact fun x hx=>h x (wB hx)
def Ydm(h:cK s=true)(k:Nat):cK (s.drop k)=true:=by unfold cK at*;rw[jY]at*;exact fun x hx=>h x (Ol hx)
structure Vl (h:T O) (N:Nat) (s:aD) (m:Nat) (r:T V) (st:St):Prop where
 w:ay N st.w=[]
 ad:ab h N st.h st.n
 le:N+2<=st.n
 row:st.h.get N=some (.cells [.int .i64 0,.aa] 121 true)
 ex:∃(cur:aD) (p:Nat) (n1:Int) (u1:V),r.get 0=some (.str cur)/\cur.length=m/\m<=s.length/\cK cur=true/\st.h.get (N+1)=some (.cells [.int .i64 n1,u1] 121 true)/\In st.h st.n (.agg [.int .i64 n1,u1]) p/\aE s=p*10^m+aE cur
def Yff{r0:T V}(hd:cK s=true)(hl:s.length<=100000)(a4:r0.get 4=some (.ptr (N+1) 0)):
  ∀x r st,(∀t,kX [(0,0),(5,7),(13,36)] t=false->r.get t=r0.get t)->Fx [(0,0),(5,7),(13,36)] r0 41 ⟨r,41,[]⟩->Vl h N s x r st->Code A.C none A.oR ⟨r,41,[]⟩ st (Rd [(0,0),(5,7),(13,36)] r0 41 (Vl h N s) x (fun e r st=>e=.exit 0/\Vl h N s 0 r st)):=by
 rintro m r ⟨H,n0,W⟩ hr hf ⟨hW,hK,hle,az,cur,p,n1,u1,fv,cX,hms,qy,g1,hp,hv⟩;simp only at hW hK hle az g1 hp;rw[bu];by_cases h0:m=0
 ·subst h0;have:cur=[]:=rS cX;subst this;simp[A.oR,hf,fv];exact⟨hW,hK,hle,az,[],p,n1,u1,by simp[fv],rfl,by omega,rfl,g1,hp,hv⟩
 obtain⟨n,hn⟩:∃n,n=min 18 m:=⟨_,rfl⟩;have c1:0<cur.length:=by omega
 have c3:(if (cur.length:Int)<18 then (cur.length:Int) else 18)=(n:Int):=by split<;>omega
 have c4:(n:Int)<=(cur.length:Int):=by omega
 have DK:p<=aE s:=by rw[hv];have:p*1<=p*10^m:=mM p (Bu (by decide));omega
 have ct:=Dk hd;have lp:wl (p:Int)<=100000:=j_ (Hv (po DK ct)) hl;have wz:=fun (h:T O) (N:Nat)=>Ytp (s:=cur.take n) (h:=h) (N:=N) (Zrn qy n) (by rw[iX];omega) (by rw[iX];omega);have l10:wl ((10:Nat):Int)<10000000000:=by decide+kernel
 have lpw:wl ((10^n:Nat):Int)<=19:=Hv (Nat.pow_lt_pow_right (by decide) (by omega));have HD:=Dk (Zrn qy n);have htl:(cur.take n).length=n:=by rw[iX];omega
 rw[htl]at HD;have h18:(10:Nat)^n<=10^18:=qW (by decide) (by omega);have e18:(10:Nat)^18=1000000000000000000:=by decide
 have lnv:wl ((aE (cur.take n):Nat):Int)<=18:=j_ (Hv HD) (by omega);simp[A.oR,fv,c1,Am,Ev,zD,c3,c4,aB];refine av (wz _ _) ?_;rintro _ h1 m1 k1 rfl;have fL:=k1.le;have f1:=(k1.get (N+1) (by omega)).trans g1;simp[a4,hr,f1,aQ,aL];refine av J7 ?_;rintro _ h2 m2 k2 rfl;have iU:=k2.le;simp[];refine av (Yu5 (In.small (z:=(10:Nat)) (by omega) (by omega)) (by omega) (by omega) l10 (by omega)) ?_;rintro vp h3 m3 k3 hvp;have jG:=k3.le;simp[];refine av (Ce (((hp.ad k1).ad k2).ad k3) hvp (by omega) (by omega)) ?_;rintro vm h4 m4 k4 hvm;have xD:=k4.le;have lm:=Fu (p:Int) ((10^n:Nat):Int);simp[];refine av J7 ?_;rintro _ h5 m5 k5 rfl;have Kv:=k5.le;simp[];refine av (Qm (hvm.ad k5) (In.small (z:=((aE (cur.take n):Nat):Int)) (by omega) (by omega)) (by omega) (by omega)) ?_;rintro va h6 m6 k6 hva;have zbK:=k6.le;have k26:=(((k2.trans k3).trans k4).trans k5).trans k6;have e1:=(k26.get (N+1) (by omega)).trans f1;have e2:=(k26.get N (by omega)).trans ((k1.get N (by omega)).trans az);obtain⟨n6,u6,rfl,o6⟩:=hva.cells;unfold V.one at o6;have z1:N+1<m1:=by omega
 have z2:N+1<m6:=by omega
 have z3:¬N+1<N:=by omega
 have z4:N+1<m5:=by omega
 simp[hr,hf,a4,fv,e1,o6,z1,z2,z4,ag,bO,aB,c4,cQ.cU];have He:(p:Int)*((10^n:Nat):Int)+((aE (cur.take n):Nat):Int)=((p*10^n+aE (cur.take n):Nat):Int):=by simp
 rw[He]at hva;refine⟨m-n,by omega,by simp[ay,hW,z3],((hK.trans k1).trans k26).set (by omega),by show N+2<=m6;omega,by simp[e2],cur.drop n,p*10^n+aE (cur.take n),n6,u6,by simp,by rw[zk];omega,by omega,Ydm qy n,by simp,hva.aI e1 hp.nu rfl,?_⟩;have h1:=Yft (cur.take n) (cur.drop n);rw[En,zk,cX]at h1;rw[hv,h1,ji,Gu,<-mr,show n+(m-n)=m by omega];omega
def Yfg{s:aD}{h:T O}{N:Nat}(hd:cK (bl s)=true)(hl:(bl s).length<=100000):Fn A.C 167 [.str s] h N (fun v h' n'=>In h' n' v (if cA s=true then -(aE (bl s):Int) else (aE (bl s):Int))):=by
 intro w;rw[aN,A.k167 (by simp)];simp[A.b167,Zuz,Zk9,ag];refine cm [(0,0),(5,7),(13,36)] _ (Vl h N (bl s)) (bl s).length ?_ (Yff hd hl (by simp)) ?_
 ·have kk:=(aM (aM (ab.refl (h:=h) (n:=N)) (.cells [.int .i64 0,.aa] 121 true)) (.cells [.int .i64 0,.aa] 121 true)).set (i:=N+1) (o:=.cells [.int .i64 0,.aa] 121 true) (by omega);exact⟨by simp[ay],kk,aO _,by simp,bl s,0,0,.aa,by simp,rfl,aO _,hd,by simp,In.small (by omega) (by omega),by simp⟩
 rintro e r ⟨h5,m5,W5⟩ hr ⟨rfl,hW,hK,hle,az,cur,p,n1,u1,fv,cX,hms,qy,g1,hp,hv⟩;simp only at hW hK hle az g1 hp;have:cur=[]:=rS cX;subst this;have hv:aE (bl s)=p:=by rw[hv];simp[aE]
 have lp:wl (p:Int)<=100000:=by rw[<-hv];exact j_ (Hv (Dk hd)) hl
 obtain⟨_,_,e5,o5⟩:=hp.cells;simp only[V.agg.injEq,iH,V.int.injEq,true_and,and_true]at e5;obtain⟨rfl,rfl⟩:=e5;unfold V.one at o5;cases hn:cA s with
 |true=> simp[hr,hn,g1,aQ,aL];refine av (MG hp (by omega)) ?_;rintro v h6 m6 k6 hv6;obtain⟨n6,u6,rfl,o6⟩:=hv6.cells;unfold V.one at o6;have e0:=(k6.get N (by omega)).trans az;simp[hr,e0,o6,aQ,aL,ag,bO,ax,hW];exact⟨(hK.trans k6).set (aO _),by rw[hv];exact hv6.aI e0 (by simp) rfl⟩
 |false=> simp[hr,hn,g1,az,o5,aQ,aL,ag,bO,ax,hW];exact⟨hK.set (aO _),by rw[hv];exact hp.aI az (by simp) rfl⟩
variable {N:Nat} {h:T O} {w:List Nat}
def A.w50:=A.q Tryz.f50
def A.tl:=A.ql A.w50 0 []
def A.b50:=(fun x0=>A.qb A.w50 [x0]) A.tl
def A.k50:=@A.kk 50 15 [.tmp 2] A.b50 (by kernel_rfl) rfl
def A.QV:=A.q Tryz.f194
def A.oS:=A.ql A.QV 0 []
def A.b194:=(fun x0=>A.qb A.QV [x0]) A.oS
def A.k194:=@A.kk 194 15 [.tmp 2] A.b194 (by kernel_rfl) rfl
def Yma{v:V}{l:List Int}(hs:Sl h N v (dI l))(hl:l.length<1000):A.C.call (.func 50 [] []) [v] ⟨h,N,w⟩=some (.int .i64 (bp l),⟨h,N,w⟩):=by
 apply Call.eq;have hlen:=hs.len;rw[iJ]at hlen;rw[aN,A.k50 (by simp)];simp[A.b50,hlen];refine cm [(2,2),(4,4),(7,14)] (fun e r st=>st=⟨h,N,[]⟩/\((e=.exit 0/\bp l=0)\/(e=.ret/\r.get 2=some (.int .i64 (bp l))))) (fun m r st=>st=⟨h,N,[]⟩/\∃k,m=l.length-k/\k<=l.length/\r.get 7=some (.int .i64 k)/\bp l=bp (l.drop k)) l.length ?_ ?_ ?_
 ·exact⟨rfl,0,by omega,by omega,by simp,by simp⟩
 ·rintro m r _ hr hf ⟨rfl,k,rfl,hk,h7,hz⟩;rw[bu];by_cases aC:k<l.length
  ·obtain⟨c,hc⟩:=bj aC;obtain⟨i,o,cc,e,rw,q1,q2,q3,q4⟩:=hs.at (iP hc);rw[jN hc,bp]at hz;have cI:(k:Int)<(l.length:Int):=by omega
   by_cases h0:c=0
   ·rw[ar h0]at hz;simp(disch:=first|(simp;done)|omega|(simp only[bq,b_,bk];omega)|rfl) [A.tl,hr,hf,h7,cI,aC,hlen,q1,q3,q4,bh,h0];exact⟨_,by omega,k+1,rfl,by omega,by simp,hz⟩
   rw[ak h0]at hz;simp[A.tl,hr,hf,h7,cI,hlen,q1,q3,q4,h0,hz]
  have:l.drop k=[]:=wP (by omega);rw[this,bp]at hz;have:k=l.length:=by omega
  subst this;simp[A.tl,hr,hf,h7,hz]
 rintro _ r _ hr ⟨rfl,⟨rfl,hz⟩|⟨rfl,h2⟩⟩
 ·simp[hz]
 simp[h2]
def Yfw{v:V}{l:List Int}(hs:Sl h N v (dI l))(hl:l.length<1000):A.C.call (.func 194 [] []) [v] ⟨h,N,w⟩=some (.int .i64 (bp l),⟨h,N,w⟩):=by
 apply Call.eq;have hlen:=hs.len;rw[iJ]at hlen;rw[aN,A.k194 (by simp)];simp[A.b194,hlen];refine cm [(2,2),(4,4),(7,14)] (fun e r st=>st=⟨h,N,[]⟩/\((e=.exit 0/\bp l=0)\/(e=.ret/\r.get 2=some (.int .i64 (bp l))))) (fun m r st=>st=⟨h,N,[]⟩/\∃k,m=l.length-k/\k<=l.length/\r.get 7=some (.int .i64 k)/\bp l=bp (l.drop k)) l.length ?_ ?_ ?_
 ·exact⟨rfl,0,by omega,by omega,by simp,by simp⟩
 ·rintro m r _ hr hf ⟨rfl,k,rfl,hk,h7,hz⟩;rw[bu];by_cases aC:k<l.length
  ·obtain⟨c,hc⟩:=bj aC;obtain⟨i,o,cc,e,rw,q1,q2,q3,q4⟩:=hs.at (iP hc);rw[jN hc,bp]at hz;have cI:(k:Int)<(l.length:Int):=by omega
   by_cases h0:c=0
   ·rw[ar h0]at hz;simp(disch:=first|(simp;done)|omega|(simp only[bq,b_,bk];omega)|rfl) [A.oS,hr,hf,h7,cI,aC,hlen,q1,q3,q4,bh,h0];exact⟨_,by omega,k+1,rfl,by omega,by simp,hz⟩
   rw[ak h0]at hz;simp[A.oS,hr,hf,h7,cI,hlen,q1,q3,q4,h0,hz]
  have:l.drop k=[]:=wP (by omega);rw[this,bp]at hz;have:k=l.length:=by omega
  subst this;simp[A.oS,hr,hf,h7,hz]
 rintro _ r _ hr ⟨rfl,⟨rfl,hz⟩|⟨rfl,h2⟩⟩
 ·simp[hz]
 simp[h2]
def KC{i:Nat}{a0 a1:Int}(hi:i<N):A.C.call (.func 194 [] []) [.slice i 0 2 (some 2) 1] ⟨h.set i (.cells [.int .i64 a0,.int .i64 a1] 33 true),N,w⟩=some (.int .i64 (bp [a0,a1]),⟨h.set i (.cells [.int .i64 a0,.int .i64 a1] 33 true),N,w⟩):=
 Yfw (l:=[a0,a1]) (Sl.row (e:=33) (rw:=true) (cp:=some 2) hi (by simp[dI]) rfl (by simp)) (by simp)
def Li{i:Nat}{a0 a1:Int}(hi:i<N):A.C.call (.func 50 [] []) [.slice i 0 2 (some 2) 1] ⟨h.set i (.cells [.int .i64 a0,.int .i64 a1] 33 true),N,w⟩=some (.int .i64 (bp [a0,a1]),⟨h.set i (.cells [.int .i64 a0,.int .i64 a1] 33 true),N,w⟩):=
 Yma (l:=[a0,a1]) (Sl.row (e:=33) (rw:=true) (cp:=some 2) hi (by simp[dI]) rfl (by simp)) (by simp)
variable {s:aD}
def A.QW:=A.q Tryz.f150
def A.eg:=A.qt A.QW [] [] [1,1,1,1,1]
def A.b150:=(fun y0=>A.qt A.QW [] [([1,1,1,1,1],y0)] []) A.eg
def A.k150:=@A.kk 150 76 [.tmp 2] A.b150 (by kernel_rfl) rfl
def Zuw{s:aD}(h:jx s=true):cK s=true/\1<=s.length:=by
 cases s with
 |nil=>cases h
 |cons c s=> unfold jx at h;rw[gI]at h;exact⟨h.1,by simp⟩
def pS(form br:Bool)(p d:aD):Nat:=if form=false then 1 else if 600<p.length\/600<d.length then 4 else if br=true/\Nat.gcd (aE p) (aE d)≠1 then 1 else 0
def Yk1{s:aD}(h:cK s=true):cA s=false/\bl s=s:=by
 cases s with
 |nil=>exact⟨rfl,rfl⟩
 |cons c s=>
  have hc:my c=true:=by simp[cK]at h;exact h.1
  unfold my at hc;simp only[decide_eq_true_eq]at hc;have:cA (c::s)=false:=by simp[cA];omega
  refine⟨this,?_⟩;unfold bl;rw[this];rfl
def Zyz{h:T O}{N:Nat}(hd:cK s=true)(hl:s.length<=100000):Fn A.C 167 [.str s] h N (fun v h' n'=>In h' n' v (aE s:Nat)):=by obtain⟨h1,h2⟩:=Yk1 hd;have:=Yfg (s:=s) (h:=h) (N:=N) (by rw[h2];exact hd) (by rw[h2];exact hl);rw[h1,h2]at this;exact this
def Ys8{H:T O}{n:Nat}{r0:T V}{p d:aD}{form br:Bool}(hp:form=true->cK p=true)(hd:form=true->br=true->cK d=true)(lp:p.length<=100000)(ld:d.length<=100000)(a5:r0.get 5=some (.str p))(a6:r0.get 6=some (.str d))(a7:r0.get 7=some (.bool br))(a8:r0.get 8=some (.bool form)):
  Code A.C none A.eg ⟨r0,76,[]⟩ ⟨H,n,[]⟩ (fun e fr st=>e=.ret/\∃r,fr=⟨r,76,[]⟩/\r.get 2=some (.int .i64 (pS form br p d:Nat))/\ay n st.w=[]/\ab H n st.h st.n):=by
 rw[bu];cases form with
 |false=>
  by_cases c1:600<p.length
  ·have c1':(600:Int)<(p.length:Int):=by omega
   simp[A.eg,a5,a8,Fv,c1',ag,KC,bp,pS];exact aM ab.refl _
  have c1':¬(600:Int)<(p.length:Int):=by omega
  by_cases c2:600<d.length
  ·have c2':(600:Int)<(d.length:Int):=by omega
   simp[A.eg,a5,a6,a8,Fv,c1',c2',ag,KC,bp,pS];exact aM ab.refl _
  have c2':¬(600:Int)<(d.length:Int):=by omega
  simp[A.eg,a5,a6,a8,Fv,c1',c2',ag,KC,bp,pS];exact aM ab.refl _
 |true=>
  by_cases c1:600<p.length
  ·have c1':(600:Int)<(p.length:Int):=by omega
   simp[A.eg,a5,a8,Fv,c1,c1',ag,KC,bp,pS];exact aM ab.refl _
  have c1':¬(600:Int)<(p.length:Int):=by omega
  by_cases c2:600<d.length
  ·have c2':(600:Int)<(d.length:Int):=by omega
   simp[A.eg,a5,a6,a8,Fv,c1,c2,c1',c2',ag,KC,bp,pS];exact aM ab.refl _
  have c2':¬(600:Int)<(d.length:Int):=by omega
  have c3:¬(600<p.length\/600<d.length):=by omega
  cases br with
  |false=> simp[A.eg,a5,a6,a7,a8,Fv,c1,c2,c1',c2',ag,KC,bp,pS];exact aM ab.refl _
  |true=>
   have lwp:wl ((aE p:Nat):Int)<=100000:=j_ (Hv (Dk (hp rfl))) lp;have lwd:wl ((aE d:Nat):Int)<=100000:=j_ (Hv (Dk (hd rfl rfl))) ld;simp[A.eg,a5,a6,a7,a8,Fv,c1',c2',ag,KC,bp];have kz:=aM (ab.refl (h:=H) (n:=n)) (.cells [.int .i64 0,.int .i64 0] 33 true);refine av (Zyz (hp rfl) (by omega)) ?_;rintro v3 h3 n3 k3 Vk;simp[a6];refine av (Zyz (hd rfl rfl) (by omega)) ?_;rintro v4 h4 n4 k4 QU;simp[];refine av (Yoo (Vk.ad k4) QU (by omega) (by omega)) ?_;rintro v5 h5 n5 k5 hv5;simp[];refine av J7 ?_;rintro _ h6 n6 k6 rfl;simp[];have hg:Int.gcd (aE p:Nat) (aE d:Nat)=Nat.gcd (aE p) (aE d):=rfl;rw[hg]at hv5;have lg:wl ((Nat.gcd (aE p) (aE d):Nat):Int)<100000000000:=by
    by_cases hz:aE p=0
    ·rw[hz,Nat.gcd_zero_left];omega
    have:=ML (a:=((Nat.gcd (aE p) (aE d):Nat):Int)) (b:=((aE p:Nat):Int)) (by have:=Nat.gcd_le_left (aE d) (show 0<aE p by omega);omega);omega
   have l1:wl (1:Int)<100000000000:=by decide+kernel
   refine av (Yoy (hv5.ad k6) (In.small (z:=1) (by omega) (by omega)) lg l1) ?_;rintro _ h7 n7 k7 rfl;have kk:=((((kz.trans k3).trans k4).trans k5).trans k6).trans k7;generalize hgg:Nat.gcd (aE p) (aE d)=g at*;by_cases g1:g=1
   ·subst g1;simp[Fv,pS,c1,c2,eE,hgg];exact kk
   have g2:¬eE ((g:Int)-1)=0:=by unfold eE;split<;>(try split)<;>omega
   simp[Fv,pS,c1,c2,g1,g2,hgg];exact kk
def Yah(hl:s.length<=100000){h:T O}{N:Nat}:Fn A.C 150 [.str s] h N (fun v _ _=>v=.int .i64 (aS s:Nat)):=by
 intro w;have hb:(bl s).length<=s.length:=by unfold bl;split<;>simp
 have hc:=fun st=>Yox (s:=bl s) (st:=st) (by omega);rw[aN,A.k150 (by simp)];show bD _ _ _ (EU (ax (fun v _ _=>v=.int .i64 (JQ (cA s) (bl s):Nat)) h N w));unfold JQ;have hle:=G9 (bl s);have Ch:((bl s).take (ah (bl s))).length<=100000:=by simp;omega
 have uP:((bl s).drop (ah (bl s)+1)).length<=100000:=by simp;omega
 simp[A.b150,Zvf,hc];generalize cA s=neg at*;generalize qP:decide (ah (bl s)<(bl s).length)=br at*;generalize He:(bl s).take (ah (bl s))=p at*;generalize Bh:(bl s).drop (ah (bl s)+1)=d at*;clear qP He Bh hc;have cU:kZ neg p br d=pS (gV neg p br d) br p d:=rfl;rw[cU];have fin:∀(h1:T O) (n1:Nat) (r:T V) (form:Bool),ab h N h1 n1->form=gV neg p br d->r.get 5=some (.str p)->r.get 6=some (.str d)->r.get 7=some (.bool br)->r.get 8=some (.bool form)->bD A.C [.fin [.tmp 2] ⟨h,N,w⟩] (ff (A.C.code none A.eg ⟨r,76,[]⟩ ⟨h1,n1,[]⟩)) (EU (ax (fun v _ _=>v=.int .i64 (pS (gV neg p br d) br p d:Nat)) h N w)):=by
  intro h1 n1 r form k1 dS a5 a6 a7 a8;refine mJ (Ys8 (form:=form) (br:=br) (p:=p) (d:=d) ?_ ?_ Ch uP a5 a6 a7 a8) ?_
  ·intro hf;rw[dS]at hf;unfold gV at hf;simp only[gI]at hf;exact(Zuw hf.1.1).1
  ·intro hf n_;rw[dS]at hf;unfold gV at hf;rw[n_]at hf;simp only[gI,Bool.not_true,Bool.false_or]at hf;exact(Zuw hf.2.1.1).1
  rintro e fr ⟨h2,n2,W2⟩ ⟨rfl,r2,rfl,fi,hW,hK⟩;simp only at hW hK;have gS:=Mj k1.le hW;simp[fi,ax,gS,dS];exact k1.trans hK
 refine av (Ziw (by omega)) ?_;rintro v h1 n1 k1 rfl;have z0:jx [48]=true:=by decide
 by_cases hA:jx p=true
 ·have hB:(neg=true/\p=[48])\/(neg=false)\/(neg=true/\p≠[48]):=by
   cases neg
   ·exact .inr (.inl rfl)
   by_cases hq:p=[48]
   ·exact .inl ⟨rfl,hq⟩
   exact .inr (.inr ⟨rfl,hq⟩)
  rcases hB with⟨rfl,rfl⟩|rfl|⟨rfl,CM⟩
  ·cases br
   ·simp[z0];exact fin _ _ _ false k1 (by simp[gV]) (by simp) (by simp) (by simp) (by simp)
   simp[z0];exact fin _ _ _ false k1 (by simp[gV]) (by simp) (by simp) (by simp) (by simp)
  ·cases br
   ·simp[hA];exact fin _ _ _ true k1 (by simp[gV,hA]) (by simp) (by simp) (by simp) (by simp)
   simp[hA];refine av (Ziw (by omega)) ?_;rintro v h2 n2 k2 rfl;by_cases hD:jx d=true
   ·by_cases h48:d=[48]
    ·subst h48;simp[z0];exact fin _ _ _ false (k1.trans k2) (by simp[gV]) (by simp) (by simp) (by simp) (by simp)
    have e8:(d==[48])=false:=by simp[h48]
    have e9:(d==[49])=decide (d=[49]):=by by_cases h:d=[49]<;>simp[h]
    simp[hD,e8];exact fin _ _ _ (!(d==[49])) (k1.trans k2) (by simp[gV,hA,hD,h48,e9]) (by simp) (by simp) (by simp) (by simp)
   have hD:jx d=false:=by simpa using hD
   simp[hD];exact fin _ _ _ false (k1.trans k2) (by simp[gV,hD]) (by simp) (by simp) (by simp) (by simp)
  have e1:(p==[48])=false:=by simp[CM]
  cases br
  ·simp[hA,e1];exact fin _ _ _ true k1 (by simp[gV,hA,CM]) (by simp) (by simp) (by simp) (by simp)
  simp[hA,e1];refine av (Ziw (by omega)) ?_;rintro v h2 n2 k2 rfl;by_cases hD:jx d=true
  ·by_cases h48:d=[48]
   ·subst h48;simp[z0];exact fin _ _ _ false (k1.trans k2) (by simp[gV]) (by simp) (by simp) (by simp) (by simp)
   have e8:(d==[48])=false:=by simp[h48]
   have e9:(d==[49])=decide (d=[49]):=by by_cases h:d=[49]<;>simp[h]
   simp[hD,e8];exact fin _ _ _ (!(d==[49])) (k1.trans k2) (by simp[gV,hA,hD,h48,CM,e9]) (by simp) (by simp) (by simp) (by simp)
  have hD:jx d=false:=by simpa using hD
  simp[hD];exact fin _ _ _ false (k1.trans k2) (by simp[gV,hD]) (by simp) (by simp) (by simp) (by simp)
 have hA:jx p=false:=by simpa using hA
 cases br
 ·simp[hA];exact fin _ _ _ false k1 (by simp[gV,hA]) (by simp) (by simp) (by simp) (by simp)
 simp[hA];exact fin _ _ _ false k1 (by simp[gV,hA]) (by simp) (by simp) (by simp) (by simp)
end
end Go.Mx
