/-strconv-/
import Derived.Test.YtgccnjdneojagaaGreatDoorNbC
set_option linter.all false
set_option maxHeartbeats 2000000
namespace Go.Mx
noncomputable section
open Go Go.Proofs
set_option maxRecDepth 1000000
def A.Q5:=A.q Tryz.f252
def A.uc:=A.ql A.Q5 0 []
def A.b252:=(fun x0=>A.qb A.Q5 [x0]) A.uc
def A.k252:=@A.kk 252 77 [.tmp 2,.tmp 3] A.b252 (by kernel_rfl) rfl
def A.b226:=A.q Tryz.f226
def A.k226:=@A.kk 226 18 [.tmp 2,.tmp 3] A.b226 (by kernel_rfl) rfl
def Ynp{s:aG}{h:T O}{N:Nat}(hd:cN s=true)(h1:1<=s.length)(h2:s.length<=18):Fn A.C 252 [.str s] h N (fun v _ _=>v=.aX [.int .i64 (aF s:Nat),.bb]):=by
 intro w;obtain⟨c,hc⟩:=bj (l:=s) (k:=0) (by omega);have re:=OE hd hc;have a1:¬cX c=45:=by omega
 have a2:¬cX c=43:=by omega
 have a3:(0:Int)<(s.length:Int):=by omega
 have a5:(s.length:Int)<19:=by omega
 have jU:0<s.length:=by omega
 have aZ:s≠[]:=fun h=>by rw[h]at h1;simp at h1
 have iy:s.head?=some c:=by cases s with
  |nil=>simp at hc
  |cons=>simpa using hc
 rw[aQ,A.k252 (by simp)];by_cases a4:(s.length:Int)<10;all_goals
  simp(disch:=first|(simp;done)|omega|(simp only[bz,cm,bl];omega)|rfl) [-getElem?_pos,A.b252,a3,a4,a5,aZ,jU,iy,hc,bA,a1,a2]
  refine b_ [(2,3),(6,6),(8,8),(49,63)] (fun e r st=>st.n=N+1/\ay N st.w=[]/\ab h N st.h (N+1)/\e=.exit 0/\r.get 6=some (.int .i64 (aF s:Nat))) (fun m r st=>st.n=N+1/\ay N st.w=[]/\ab h N st.h (N+1)/\st.h.get N=some (.cells (JW s) 5 true)/\∃k,m=s.length-k/\k<=s.length/\r.get 49=some (.int .i64 k)/\r.get 6=some (.int .i64 (aF (s.take k):Nat))) s.length ?_ ?_ ?_
  ·exact⟨rfl,rfl,(ab.refl.set (aM _)).up (by omega),by simp,0,by omega,by omega,by simp,by simp[aF]⟩
  ·rintro m r ⟨H,n1,W⟩ hr hf ⟨hn,hW,hK,aA,k,rfl,hk,AY,h6⟩
   simp only at hn hW hK aA
   subst hn
   rw[bu]
   by_cases aE:k<s.length
   ·obtain⟨c,hc⟩:=bj aE
    have vN:=OE hd hc
    have hb:=Yel hc
    have hv:=Zpy hc
    have MR:=T2 hd k hk
    have sM:=T3 (a:=k) (b:=17) (by omega)
    have b1:¬9<cX c-48:=by omega
    have b2:bn .u8 (cX c-48)=cX c-48:=Dz (by omega) (by omega)
    have b3:((aF (s.take (k+1)):Nat):Int)=(aF (s.take k):Nat)*10+(cX c-48):=by
     rw[hv];unfold cX at*;omega
    have b4:((aF (s.take k):Nat):Int)<100000000000000000:=by
     have:(10:Nat)^17=100000000000000000:=by decide
     omega
    generalize hy:aF (s.take (k+1))=y at*
    generalize aF (s.take k)=x at*
    simp(disch:=first|(simp;done)|omega|(simp only[bz,cm,bl];omega)|rfl) [A.uc,hr,hf,AY,h6,aE,aA,hb,b1,b2,hW]
    exact⟨_,by omega,hK,k+1,rfl,by omega,by simp,by rw[hy,b3]⟩
   ·have:k=s.length:=by omega
    subst this
    simp[A.uc,hr,hf,AY,hW]
    rw[Dj]at h6
    exact⟨hK,h6⟩
  ·rintro _ r ⟨H,n1,W⟩ hr ⟨hn,hW,hK,rfl,h6⟩
   simp only at hn hW hK
   subst hn
   simp[hr,az,hW,hK,h6,hc,a1]
def Yvs{s:aG}{h:T O}{N:Nat}(hd:cN s=true)(h1:1<=s.length)(h2:s.length<=18):Fn A.C 226 [.str s] h N (fun v _ _=>v=.aX [.int .i64 (aF s:Nat),.bb]):=by intro w;rw[aQ,A.k226 (by simp)];simp[A.b226];refine ar (Ynp hd h1 h2) ?_;rintro v h1 n1 k1 rfl;simp[bA,az,k1]
variable {M N a k o:Nat} {h:T O} {s:aG}
def A.Q6:=A.q Tryz.f227
def A.mq:=A.ql A.Q6 0 []
def A.b227:=(fun x0=>A.qb A.Q6 [x0]) A.mq
def A.k227:=@A.kk 227 23 [.cell 4 (some 2)] A.b227 (by kernel_rfl) rfl
def A.Q7:=A.q Tryz.f174
def A.ph:=A.ql A.Q7 0 []
def A.b174:=(fun x0=>A.qb A.Q7 [x0]) A.ph
def A.k174:=@A.kk 174 41 [.cell 2 (some 2)] A.b174 (by kernel_rfl) rfl
def Yl2(h:o*a^k=M)(ha:1<=a)(ho:1<=o)(hk:1<=k):o*a<=M/\a<=M/\o<=M:=by have h1:a^1<=a^k:=rO ha hk;rw[Nat.pow_one]at h1;have h2:o*a<=o*a^k:=lF o h1;have h3:1*a<=o*a:=jz a ho;have h4:o*1<=o*a:=lF o ha;omega
def Yw3(h:o*a^k=M)(ha:1<=a)(ho:1<=o)(hk:1<k):a*a<=M:=by
 have h1:a^2<=a^k:=rO ha hk;have h2:1*a^k<=o*a^k:=jz _ ho;have h3:a^2=a*a:=by rw[Nat.pow_two]
 omega
def Yw4(h:o*a^k=M)(hk:k%2=1):(o*a)*(a*a)^(k/2)=M:=by
 rw[<-h,<-Nat.pow_two,<-Nat.pow_mul,Gm];congr 1;conv=>rhs;rw[show k=2*(k/2)+1 by omega,im]
 rw[kg]
def Ysl(h:o*a^k=M)(hk:k%2=0):o*(a*a)^(k/2)=M:=by rw[<-h,<-Nat.pow_two,<-Nat.pow_mul,show 2*(k/2)=k by omega]
structure VF (h:T O) (N q M m:Nat) (r:T V) (st:St):Prop where
 w:ay N st.w=[]
 ad:ab h N st.h st.n
 q1:N+2<=q
 q2:q<st.n
 row:st.h.get (N+1)=some (.cells [.int .i64 0,.aa] 94 true)
 r1:r.get 1=some (.int .i64 m)
 lm:m<4611686018427387904
 ex:∃(n1 n2:Int) (u1 u2:V) (a o:Nat),st.h.get N=some (.cells [.int .i64 n1,u1] 94 true)/\st.h.get q=some (.cells [.int .i64 n2,u2] 94 true)/\In st.h st.n (.agg [.int .i64 n1,u1]) a/\In st.h st.n (.agg [.int .i64 n2,u2]) o/\o*a^m=M/\1<=a/\1<=o/\wl a<10000000000
def Yl4{q:Nat}{r0:T V}(hM:wl M<10000000000)(a2:r0.get 2=some (.ptr N 0))(a5:r0.get 5=some (.ptr q 0)):
  ∀x r st,(∀t,j_ [(1,1),(7,21)] t=false->r.get t=r0.get t)->Fx [(1,1),(7,21)] r0 23 ⟨r,23,[]⟩->VF h N q M x r st->Code A.C none A.mq ⟨r,23,[]⟩ st (Rd [(1,1),(7,21)] r0 23 (VF h N q M) x (fun e r st=>e=.exit 0/\VF h N q M 0 r st)):=by
 rintro m r ⟨H,n0,W⟩ hr hf ⟨hW,hK,sS,jS,aA,r1,lm,n1,n2,u1,u2,a,o,g0,g1,ha,ho,t_,a1,o1,la⟩;simp only at hW hK jS aA g0 g1 ha ho;rw[bu];have b1:=Yoy (k:=m) (by omega);have b2:=Ylh (k:=m);by_cases h0:m=0
 ·subst h0;simp[A.mq,hf,r1];exact⟨hW,hK,sS,jS,aA,by simp[r1],by omega,n1,n2,u1,u2,a,o,g0,g1,ha,ho,t_,a1,o1,la⟩
 have c1:(0:Int)<(m:Int):=by omega
 have c2:0<m:=by omega
 obtain⟨t1,t2,t3⟩:=Yl2 t_ a1 o1 c2;have lo:wl o<10000000000:=oC (Kg (a:=(o:Int)) (b:=(M:Int)) (by omega)) hM;obtain⟨_,_,e5,o5⟩:=ha.cells;simp only[V.agg.injEq,jc,V.int.injEq,true_and,and_true]at e5;obtain⟨rfl,rfl⟩:=e5;unfold V.one at o5;have jV:¬q<N:=by omega
 by_cases hp:m%2=1
 ·have p1:(m:Int)%2=1:=by omega
  simp[A.mq,hr,r1,a2,a5,c2,b1,hp,g0,g1,aS,aP];refine ar (Fu ho ha (by omega) (by omega)) ?_;rintro v h3 n3 k3 hv;rw[<-LN]at hv;obtain⟨n6,u6,rfl,o6⟩:=hv.cells;unfold V.one at o6;have jT:=k3.le;have f0:=(k3.get N (by omega)).trans g0;have f1:=(k3.get q (by omega)).trans g1;have f2:=(k3.get (N+1) (by omega)).trans aA;have d1:¬N=q:=by omega
  have d2:¬N+1=q:=by omega
  have d3:¬q=N:=by omega
  have ha3:=(ha.ad k3).aI (c1:=[.int .i64 n6,u6]) (e1:=94) (w1:=true) f1 ho.nu rfl;have Ls:=hv.aI (c1:=[.int .i64 n6,u6]) (e1:=94) (w1:=true) f1 ho.nu rfl;have f0':(h3.set q (.cells [.int .i64 n6,u6] 94 true)).get N=some (.cells [.int .i64 n1,u1] 94 true):=by rw[T.ag,ak d1];exact f0
  have f1':(h3.set q (.cells [.int .i64 n6,u6] 94 true)).get q=some (.cells [.int .i64 n6,u6] 94 true):=by simp
  have f2':(h3.set q (.cells [.int .i64 n6,u6] 94 true)).get (N+1)=some (.cells [.int .i64 0,.aa] 94 true):=by rw[T.ag,ak d2];exact f2
  have kH:=(hK.trans k3).set (i:=q) (o:=.cells [.int .i64 n6,u6] 94 true) (by omega);by_cases Co:1<m
  ·have p2:(1:Int)<(m:Int):=by omega
   have t4:=Yw3 t_ a1 o1 Co;have laa:wl ((a*a:Nat):Int)<10000000000:=oC (Kg (a:=((a*a:Nat):Int)) (b:=(M:Int)) (by omega)) hM;generalize hH:h3.set q (.cells [.int .i64 n6,u6] 94 true)=H3 at*;simp[r1,hr,a2,a5,f1,o6,ae,bO,p2,hH,f0',aS,aP];refine ar (Fu ha3 ha3 (by omega) (by omega)) ?_;rintro v h4 n4 k4 Q8;rw[<-LN]at Q8;obtain⟨n7,u7,rfl,o7⟩:=Q8.cells;unfold V.one at o7;have we:=k4.le;have e0:=(k4.get N (by omega)).trans f0';have e1:=(k4.get q (by omega)).trans f1';have e2:=(k4.get (N+1) (by omega)).trans f2';simp[r1,hr,hf,a2,e0,o7,ae,bO,b2];refine⟨m/2,by omega,by simp[ay,hW,jV],(kH.trans k4).set (aM _),sS,by show q<n4;omega,by simp[e2],by simp,by omega,n7,n6,u7,u6,a*a,o*a,by simp,by simp[d3,e1],Q8.aI e0 ha.nu rfl,(Ls.ad k4).aI e0 ha.nu rfl,Yw4 t_ hp,zN a1 a1,zN o1 a1,laa⟩
  have p2:¬(1:Int)<(m:Int):=by omega
  have m0:m/2=0:=by omega
  have m1':m=1:=by omega
  simp[r1,hr,hf,a5,f1,o6,ae,bO,p2,b2];refine⟨m/2,by omega,by simp[ay,hW,jV],kH,sS,by show q<n3;omega,f2',by simp,by omega,n1,n6,u1,u6,a,o*a,f0',f1',ha3,Ls,by rw[m0,<-t_,m1'];simp,a1,zN o1 a1,la⟩
 have p1:¬(m:Int)%2=1:=by omega
 have p0:m%2=0:=by omega
 have p2:(1:Int)<(m:Int):=by omega
 have Co:1<m:=by omega
 have t4:=Yw3 t_ a1 o1 Co;have laa:wl ((a*a:Nat):Int)<10000000000:=oC (Kg (a:=((a*a:Nat):Int)) (b:=(M:Int)) (by omega)) hM;simp[A.mq,hr,r1,a2,c2,b1,p1,p2,g0,aS,aP];refine ar (Fu ha ha (by omega) (by omega)) ?_;rintro v h3 n3 k3 hv;rw[<-LN]at hv;obtain⟨n6,u6,rfl,o6⟩:=hv.cells;unfold V.one at o6;have jT:=k3.le;have f0:=(k3.get N (by omega)).trans g0;have f1:=(k3.get q (by omega)).trans g1;have f2:=(k3.get (N+1) (by omega)).trans aA;have d3:¬q=N:=by omega
 simp[r1,hr,hf,a2,f0,o6,ae,bO,b2];refine⟨m/2,by omega,by simp[ay,hW],(hK.trans k3).set (aM _),sS,by show q<n3;omega,by simp[f2],by simp,by omega,n6,n2,u6,u2,a*a,o,by simp,by simp[d3,f1],hv.aI f0 ha.nu rfl,(ho.ad k3).aI f0 ha.nu rfl,Ysl t_ p0,zN a1 a1,o1,laa⟩
def Yw6{x:V}(hx:In h N x a)(ha:1<=a)(hk:k<4611686018427387904)(la:wl a<10000000000)(hM:wl ((a^k:Nat):Int)<10000000000):Fn A.C 227 [x,.int .i64 k] h N (fun v h' n'=>In h' n' v ((a^k:Nat):Int)):=by
 intro w;rw[aQ,A.k227 (by simp)];obtain⟨n1,u1,rfl,o1⟩:=hx.cells;have kk:=aR (aR (ab.refl (h:=h) (n:=N)) (.cells [.int .i64 n1,u1] 94 true)) (.cells [.int .i64 0,.aa] 94 true);have kL:=hx.ad kk;unfold V.one at o1;simp[A.b227,o1];refine ar J5 ?_;rintro _ h1 m1 k1 rfl;have fM:=k1.le;have g0:=k1.get N (by omega);have g1:=k1.get (N+1) (by omega);simp at g0 g1;have xe:=kL.ad k1;have d1:¬N=m1:=by omega
 have d2:¬N+1=m1:=by omega
 have jV:¬m1<N:=by omega
 have kE:=(aR (ab.refl (h:=h1) (n:=m1)) (.cells [.int .i64 0,.aa] 94 true)).set (i:=m1) (o:=.cells [.int .i64 1,.aa] 94 true) (aM _);simp[ae,bO];refine b_ [(1,1),(7,21)] _ (VF h N m1 (a^k)) k ?_ (Yl4 hM (by simp) (by simp)) ?_
 ·refine⟨by simp[ay,jV],((kk.trans k1).trans kE),by omega,by show m1<m1+1;omega,by simp[d2,g1],by simp,hk,n1,1,u1,.aa,a,1,by simp[d1,g0],by simp,xe.ad kE,In.small (by omega) (by omega),by simp,ha,by omega,la⟩
 rintro e r ⟨h5,m5,W5⟩ hr ⟨rfl,hW,hK,sS,jS,aA,r1,lm,n5,n6,u5,u6,a',o,g5,g6,ha5,kQ,t_,a1,o1',Hu⟩;simp only at hW hK jS aA g5 g6 ha5 kQ;obtain⟨_,_,e5,o5⟩:=kQ.cells;simp only[V.agg.injEq,jc,V.int.injEq,true_and,and_true]at e5;obtain⟨rfl,rfl⟩:=e5;unfold V.one at o5;have he:(o:Int)=((a^k:Nat):Int):=by rw[<-t_];simp
 rw[he]at kQ;have jV:¬N+1<N:=by omega
 simp[hr,g6,aA,aS,aP,ae,bO,o5,az,hW,jV];exact⟨hK.set (by omega),kQ.aI aA (by simp) rfl⟩
def Yg6(x:aG):∀(y:aG),aF (x++y)=aF x*10^y.length+aF y:=by
 intro y;generalize hn:y.length=n;induction n generalizing y with
 |zero=> have:y=[]:=th hn;subst this;simp[aF]
 |succ n ih=> obtain⟨u,d,rfl⟩:∃u d,y=u++[d]:=⟨y.dropLast,y.getLast (by rintro rfl;simp at hn),(TT _).symm⟩;simp at hn;rw[<-uQ,OD,OD,ih u hn,im];grind
def Hx{n:Nat}(h:n<10^k):wl n<=k:=by unfold wl;apply Zhl;have:(10:Nat)^k<=B^k:=I1 (by decide) k;simp;omega
def Zsl(h:cN s=true)(k:Nat):cN (s.take k)=true:=by unfold cN at*;rw[iK]at*;exact fun x hx=>h x (wy hx)
def Yep(h:cN s=true)(k:Nat):cN (s.drop k)=true:=by unfold cN at*;rw[iK]at*;exact fun x hx=>h x (Ox hx)
structure VG (h:T O) (N:Nat) (s:aG) (m:Nat) (r:T V) (st:St):Prop where
 w:ay N st.w=[]
 ad:ab h N st.h st.n
 le:N+2<=st.n
 row:st.h.get N=some (.cells [.int .i64 0,.aa] 94 true)
 ex:∃(cur:aG) (p:Nat) (n1:Int) (u1:V),r.get 0=some (.str cur)/\cur.length=m/\m<=s.length/\cN cur=true/\st.h.get (N+1)=some (.cells [.int .i64 n1,u1] 94 true)/\In st.h st.n (.agg [.int .i64 n1,u1]) p/\aF s=p*10^m+aF cur
def Ygq{r0:T V}(hd:cN s=true)(hl:s.length<=100000)(a4:r0.get 4=some (.ptr (N+1) 0)):
  ∀x r st,(∀t,j_ [(0,0),(5,7),(13,36)] t=false->r.get t=r0.get t)->Fx [(0,0),(5,7),(13,36)] r0 41 ⟨r,41,[]⟩->VG h N s x r st->Code A.C none A.ph ⟨r,41,[]⟩ st (Rd [(0,0),(5,7),(13,36)] r0 41 (VG h N s) x (fun e r st=>e=.exit 0/\VG h N s 0 r st)):=by
 rintro m r ⟨H,n0,W⟩ hr hf ⟨hW,hK,hle,aA,cur,p,n1,u1,ib,cM,hms,re,g1,hp,hv⟩;simp only at hW hK hle aA g1 hp;rw[bu];by_cases h0:m=0
 ·subst h0;have:cur=[]:=th cM;subst this;simp[A.ph,hf,ib];exact⟨hW,hK,hle,aA,[],p,n1,u1,by simp[ib],rfl,by omega,rfl,g1,hp,hv⟩
 obtain⟨n,hn⟩:∃n,n=min 18 m:=⟨_,rfl⟩;have c1:0<cur.length:=by omega
 have c3:(if (cur.length:Int)<18 then (cur.length:Int) else 18)=(n:Int):=by split<;>omega
 have c4:(n:Int)<=(cur.length:Int):=by omega
 have A4:p<=aF s:=by rw[hv];have:p*1<=p*10^m:=lF p (BD (by decide));omega
 have cC:=DC hd;have lp:wl (p:Int)<=100000:=iZ (Hx (oC A4 cC)) hl;have vc:=fun (h:T O) (N:Nat)=>Yvs (s:=cur.take n) (h:=h) (N:=N) (Zsl re n) (by rw[ik];omega) (by rw[ik];omega);have l10:wl ((10:Nat):Int)<10000000000:=by decide+kernel
 have lpw:wl ((10^n:Nat):Int)<=19:=Hx (Nat.pow_lt_pow_right (by decide) (by omega));have HD:=DC (Zsl re n);have htl:(cur.take n).length=n:=by rw[ik];omega
 rw[htl]at HD;have h18:(10:Nat)^n<=10^18:=rO (by decide) (by omega);have e18:(10:Nat)^18=1000000000000000000:=by decide
 have lnv:wl ((aF (cur.take n):Nat):Int)<=18:=iZ (Hx HD) (by omega);simp[A.ph,ib,c1,AL,EB,Aa,c3,c4,aC];refine ar (vc _ _) ?_;rintro _ h1 m1 k1 rfl;have fM:=k1.le;have f1:=(k1.get (N+1) (by omega)).trans g1;simp[a4,hr,f1,aS,aP];refine ar J5 ?_;rintro _ h2 m2 k2 rfl;have iX:=k2.le;simp[];refine ar (Yw6 (In.small (z:=(10:Nat)) (by omega) (by omega)) (by omega) (by omega) l10 (by omega)) ?_;rintro vp h3 m3 k3 hvp;have jT:=k3.le;simp[];refine ar (Fu (((hp.ad k1).ad k2).ad k3) hvp (by omega) (by omega)) ?_;rintro vm h4 m4 k4 hvm;have we:=k4.le;have lm:=Ke (p:Int) ((10^n:Nat):Int);simp[];refine ar J5 ?_;rintro _ h5 m5 k5 rfl;have Kw:=k5.le;simp[];refine ar (Qy (hvm.ad k5) (In.small (z:=((aF (cur.take n):Nat):Int)) (by omega) (by omega)) (by omega) (by omega)) ?_;rintro va h6 m6 k6 hva;have zb1:=k6.le;have k26:=(((k2.trans k3).trans k4).trans k5).trans k6;have e1:=(k26.get (N+1) (by omega)).trans f1;have e2:=(k26.get N (by omega)).trans ((k1.get N (by omega)).trans aA);obtain⟨n6,u6,rfl,o6⟩:=hva.cells;unfold V.one at o6;have z1:N+1<m1:=by omega
 have z2:N+1<m6:=by omega
 have z3:¬N+1<N:=by omega
 have z4:N+1<m5:=by omega
 simp[hr,hf,a4,ib,e1,o6,z1,z2,z4,ae,bO,aC,c4,dv.dw];have GX:(p:Int)*((10^n:Nat):Int)+((aF (cur.take n):Nat):Int)=((p*10^n+aF (cur.take n):Nat):Int):=by simp
 rw[GX]at hva;refine⟨m-n,by omega,by simp[ay,hW,z3],((hK.trans k1).trans k26).set (by omega),by show N+2<=m6;omega,by simp[e2],cur.drop n,p*10^n+aF (cur.take n),n6,u6,by simp,by rw[yO];omega,by omega,Yep re n,by simp,hva.aI e1 hp.nu rfl,?_⟩;have h1:=Yg6 (cur.take n) (cur.drop n);rw[Df,yO,cM]at h1;rw[hv,h1,js,Gm,<-mJ,show n+(m-n)=m by omega];omega
def Ygr{s:aG}{h:T O}{N:Nat}(hd:cN (bm s)=true)(hl:(bm s).length<=100000):Fn A.C 174 [.str s] h N (fun v h' n'=>In h' n' v (if cD s=true then -(aF (bm s):Int) else (aF (bm s):Int))):=by
 intro w;rw[aQ,A.k174 (by simp)];simp[A.b174,Zv0,Zlp,ae];refine b_ [(0,0),(5,7),(13,36)] _ (VG h N (bm s)) (bm s).length ?_ (Ygq hd hl (by simp)) ?_
 ·have kk:=(aR (aR (ab.refl (h:=h) (n:=N)) (.cells [.int .i64 0,.aa] 94 true)) (.cells [.int .i64 0,.aa] 94 true)).set (i:=N+1) (o:=.cells [.int .i64 0,.aa] 94 true) (by omega);exact⟨by simp[ay],kk,aM _,by simp,bm s,0,0,.aa,by simp,rfl,aM _,hd,by simp,In.small (by omega) (by omega),by simp⟩
 rintro e r ⟨h5,m5,W5⟩ hr ⟨rfl,hW,hK,hle,aA,cur,p,n1,u1,ib,cM,hms,re,g1,hp,hv⟩;simp only at hW hK hle aA g1 hp;have:cur=[]:=th cM;subst this;have hv:aF (bm s)=p:=by rw[hv];simp[aF]
 have lp:wl (p:Int)<=100000:=by rw[<-hv];exact iZ (Hx (DC hd)) hl
 obtain⟨_,_,e5,o5⟩:=hp.cells;simp only[V.agg.injEq,jc,V.int.injEq,true_and,and_true]at e5;obtain⟨rfl,rfl⟩:=e5;unfold V.one at o5;cases hn:cD s with
 |true=> simp[hr,hn,g1,aS,aP];refine ar (MH hp (by omega)) ?_;rintro v h6 m6 k6 hv6;obtain⟨n6,u6,rfl,o6⟩:=hv6.cells;unfold V.one at o6;have e0:=(k6.get N (by omega)).trans aA;simp[hr,e0,o6,aS,aP,ae,bO,az,hW];exact⟨(hK.trans k6).set (aM _),by rw[hv];exact hv6.aI e0 (by simp) rfl⟩
 |false=> simp[hr,hn,g1,aA,o5,aS,aP,ae,bO,az,hW];exact⟨hK.set (aM _),by rw[hv];exact hp.aI aA (by simp) rfl⟩
variable {N:Nat} {h:T O} {w:List Nat}
def A.w92:=A.q Tryz.f92
def A.ue:=A.ql A.w92 0 []
def A.b92:=(fun x0=>A.qb A.w92 [x0]) A.ue
def A.k92:=@A.kk 92 15 [.tmp 2] A.b92 (by kernel_rfl) rfl
def A.Q9:=A.q Tryz.f198
def A.pj:=A.ql A.Q9 0 []
def A.b198:=(fun x0=>A.qb A.Q9 [x0]) A.pj
def A.k198:=@A.kk 198 15 [.tmp 2] A.b198 (by kernel_rfl) rfl
def Ynv{v:V}{l:List Int}(hs:Sl h N v (dI l))(hl:l.length<1000):A.C.call (.func 92 [] []) [v] ⟨h,N,w⟩=some (.int .i64 (cg l),⟨h,N,w⟩):=by
 apply Call.eq;have hlen:=hs.len;rw[h_]at hlen;rw[aQ,A.k92 (by simp)];simp[A.b92,hlen];refine b_ [(2,2),(4,4),(7,14)] (fun e r st=>st=⟨h,N,[]⟩/\((e=.exit 0/\cg l=0)\/(e=.ret/\r.get 2=some (.int .i64 (cg l))))) (fun m r st=>st=⟨h,N,[]⟩/\∃k,m=l.length-k/\k<=l.length/\r.get 7=some (.int .i64 k)/\cg l=cg (l.drop k)) l.length ?_ ?_ ?_
 ·exact⟨rfl,0,by omega,by omega,by simp,by simp⟩
 ·rintro m r _ hr hf ⟨rfl,k,rfl,hk,h7,hz⟩;rw[bu];by_cases aE:k<l.length
  ·obtain⟨c,hc⟩:=bj aE;obtain⟨i,o,cc,e,rw,q1,q2,q3,q4⟩:=hs.at (iB hc);rw[nf hc,cg]at hz;have cK:(k:Int)<(l.length:Int):=by omega
   by_cases h0:c=0
   ·rw[av h0]at hz;simp(disch:=first|(simp;done)|omega|(simp only[bz,cm,bl];omega)|rfl) [A.ue,hr,hf,h7,cK,aE,hlen,q1,q3,q4,bA,h0];exact⟨_,by omega,k+1,rfl,by omega,by simp,hz⟩
   rw[ak h0]at hz;simp[A.ue,hr,hf,h7,cK,hlen,q1,q3,q4,h0,hz]
  have:l.drop k=[]:=BA (by omega);rw[this,cg]at hz;have:k=l.length:=by omega
  subst this;simp[A.ue,hr,hf,h7,hz]
 rintro _ r _ hr ⟨rfl,⟨rfl,hz⟩|⟨rfl,h2⟩⟩
 ·simp[hz]
 simp[h2]
def Yha{v:V}{l:List Int}(hs:Sl h N v (dI l))(hl:l.length<1000):A.C.call (.func 198 [] []) [v] ⟨h,N,w⟩=some (.int .i64 (cg l),⟨h,N,w⟩):=by
 apply Call.eq;have hlen:=hs.len;rw[h_]at hlen;rw[aQ,A.k198 (by simp)];simp[A.b198,hlen];refine b_ [(2,2),(4,4),(7,14)] (fun e r st=>st=⟨h,N,[]⟩/\((e=.exit 0/\cg l=0)\/(e=.ret/\r.get 2=some (.int .i64 (cg l))))) (fun m r st=>st=⟨h,N,[]⟩/\∃k,m=l.length-k/\k<=l.length/\r.get 7=some (.int .i64 k)/\cg l=cg (l.drop k)) l.length ?_ ?_ ?_
 ·exact⟨rfl,0,by omega,by omega,by simp,by simp⟩
 ·rintro m r _ hr hf ⟨rfl,k,rfl,hk,h7,hz⟩;rw[bu];by_cases aE:k<l.length
  ·obtain⟨c,hc⟩:=bj aE;obtain⟨i,o,cc,e,rw,q1,q2,q3,q4⟩:=hs.at (iB hc);rw[nf hc,cg]at hz;have cK:(k:Int)<(l.length:Int):=by omega
   by_cases h0:c=0
   ·rw[av h0]at hz;simp(disch:=first|(simp;done)|omega|(simp only[bz,cm,bl];omega)|rfl) [A.pj,hr,hf,h7,cK,aE,hlen,q1,q3,q4,bA,h0];exact⟨_,by omega,k+1,rfl,by omega,by simp,hz⟩
   rw[ak h0]at hz;simp[A.pj,hr,hf,h7,cK,hlen,q1,q3,q4,h0,hz]
  have:l.drop k=[]:=BA (by omega);rw[this,cg]at hz;have:k=l.length:=by omega
  subst this;simp[A.pj,hr,hf,h7,hz]
 rintro _ r _ hr ⟨rfl,⟨rfl,hz⟩|⟨rfl,h2⟩⟩
 ·simp[hz]
 simp[h2]
def KD{i:Nat}{a0 a1:Int}(hi:i<N):A.C.call (.func 198 [] []) [.slice i 0 2 (some 2) 1] ⟨h.set i (.cells [.int .i64 a0,.int .i64 a1] 32 true),N,w⟩=some (.int .i64 (cg [a0,a1]),⟨h.set i (.cells [.int .i64 a0,.int .i64 a1] 32 true),N,w⟩):=
 Yha (l:=[a0,a1]) (Sl.row (e:=32) (rw:=true) (cp:=some 2) hi (by simp[dI]) rfl (by simp)) (by simp)
def Ysq{i:Nat}{a0 a1:Int}(hi:i<N):A.C.call (.func 92 [] []) [.slice i 0 2 (some 2) 1] ⟨h.set i (.cells [.int .i64 a0,.int .i64 a1] 32 true),N,w⟩=some (.int .i64 (cg [a0,a1]),⟨h.set i (.cells [.int .i64 a0,.int .i64 a1] 32 true),N,w⟩):=
 Ynv (l:=[a0,a1]) (Sl.row (e:=32) (rw:=true) (cp:=some 2) hi (by simp[dI]) rfl (by simp)) (by simp)
variable {s:aG}
def A.Ra:=A.q Tryz.f136
def A.eM:=A.qt A.Ra [] [] [1,1,1,1,1]
def A.b136:=(fun y0=>A.qt A.Ra [] [([1,1,1,1,1],y0)] []) A.eM
def A.k136:=@A.kk 136 76 [.tmp 2] A.b136 (by kernel_rfl) rfl
def Zvx{s:aG}(h:jH s=true):cN s=true/\1<=s.length:=by
 cases s with
 |nil=>cases h
 |cons c s=> unfold jH at h;rw[fW]at h;exact⟨h.1,by simp⟩
def qu(form br:Bool)(p d:aG):Nat:=if form=false then 1 else if 600<p.length\/600<d.length then 4 else if br=true/\Nat.gcd (aF p) (aF d)≠1 then 1 else 0
def Ymm{s:aG}(h:cN s=true):cD s=false/\bm s=s:=by
 cases s with
 |nil=>exact⟨rfl,rfl⟩
 |cons c s=>
  have hc:mQ c=true:=by simp[cN]at h;exact h.1
  unfold mQ at hc;simp only[decide_eq_true_eq]at hc;have:cD (c::s)=false:=by simp[cD];omega
  refine⟨this,?_⟩;unfold bm;rw[this];rfl
def Zz5{h:T O}{N:Nat}(hd:cN s=true)(hl:s.length<=100000):Fn A.C 174 [.str s] h N (fun v h' n'=>In h' n' v (aF s:Nat)):=by obtain⟨h1,h2⟩:=Ymm hd;have:=Ygr (s:=s) (h:=h) (N:=N) (by rw[h2];exact hd) (by rw[h2];exact hl);rw[h1,h2]at this;exact this
def Yvd{H:T O}{n:Nat}{r0:T V}{p d:aG}{form br:Bool}(hp:form=true->cN p=true)(hd:form=true->br=true->cN d=true)(lp:p.length<=100000)(ld:d.length<=100000)(a5:r0.get 5=some (.str p))(a6:r0.get 6=some (.str d))(a7:r0.get 7=some (.bool br))(a8:r0.get 8=some (.bool form)):
  Code A.C none A.eM ⟨r0,76,[]⟩ ⟨H,n,[]⟩ (fun e fr st=>e=.ret/\∃r,fr=⟨r,76,[]⟩/\r.get 2=some (.int .i64 (qu form br p d:Nat))/\ay n st.w=[]/\ab H n st.h st.n):=by
 rw[bu];cases form with
 |false=>
  by_cases c1:600<p.length
  ·have c1':(600:Int)<(p.length:Int):=by omega
   simp[A.eM,a5,a8,Fv,c1',ae,KD,cg,qu];exact aR ab.refl _
  have c1':¬(600:Int)<(p.length:Int):=by omega
  by_cases c2:600<d.length
  ·have c2':(600:Int)<(d.length:Int):=by omega
   simp[A.eM,a5,a6,a8,Fv,c1',c2',ae,KD,cg,qu];exact aR ab.refl _
  have c2':¬(600:Int)<(d.length:Int):=by omega
  simp[A.eM,a5,a6,a8,Fv,c1',c2',ae,KD,cg,qu];exact aR ab.refl _
 |true=>
  by_cases c1:600<p.length
  ·have c1':(600:Int)<(p.length:Int):=by omega
   simp[A.eM,a5,a8,Fv,c1,c1',ae,KD,cg,qu];exact aR ab.refl _
  have c1':¬(600:Int)<(p.length:Int):=by omega
  by_cases c2:600<d.length
  ·have c2':(600:Int)<(d.length:Int):=by omega
   simp[A.eM,a5,a6,a8,Fv,c1,c2,c1',c2',ae,KD,cg,qu];exact aR ab.refl _
  have c2':¬(600:Int)<(d.length:Int):=by omega
  have c3:¬(600<p.length\/600<d.length):=by omega
  cases br with
  |false=> simp[A.eM,a5,a6,a7,a8,Fv,c1,c2,c1',c2',ae,KD,cg,qu];exact aR ab.refl _
  |true=>
   have lwp:wl ((aF p:Nat):Int)<=100000:=iZ (Hx (DC (hp rfl))) lp;have lwd:wl ((aF d:Nat):Int)<=100000:=iZ (Hx (DC (hd rfl rfl))) ld;simp[A.eM,a5,a6,a7,a8,Fv,c1',c2',ae,KD,cg];have kz:=aR (ab.refl (h:=H) (n:=n)) (.cells [.int .i64 0,.int .i64 0] 32 true);refine ar (Zz5 (hp rfl) (by omega)) ?_;rintro v3 h3 n3 k3 Ls;simp[a6];refine ar (Zz5 (hd rfl rfl) (by omega)) ?_;rintro v4 h4 n4 k4 Q8;simp[];refine ar (Yp8 (Ls.ad k4) Q8 (by omega) (by omega)) ?_;rintro v5 h5 n5 k5 hv5;simp[];refine ar J5 ?_;rintro _ h6 n6 k6 rfl;simp[];have hg:Int.gcd (aF p:Nat) (aF d:Nat)=Nat.gcd (aF p) (aF d):=rfl;rw[hg]at hv5;have lg:wl ((Nat.gcd (aF p) (aF d):Nat):Int)<100000000000:=by
    by_cases hz:aF p=0
    ·rw[hz,Nat.gcd_zero_left];omega
    have:=Kg (a:=((Nat.gcd (aF p) (aF d):Nat):Int)) (b:=((aF p:Nat):Int)) (by have:=Nat.gcd_le_left (aF d) (show 0<aF p by omega);omega);omega
   have l1:wl (1:Int)<100000000000:=by decide+kernel
   refine ar (Yyo (hv5.ad k6) (In.small (z:=1) (by omega) (by omega)) lg l1) ?_;rintro _ h7 n7 k7 rfl;have kk:=((((kz.trans k3).trans k4).trans k5).trans k6).trans k7;generalize hgg:Nat.gcd (aF p) (aF d)=g at*;by_cases g1:g=1
   ·subst g1;simp[Fv,qu,c1,c2,dN,hgg];exact kk
   have g2:¬dN ((g:Int)-1)=0:=by unfold dN;split<;>(try split)<;>omega
   simp[Fv,qu,c1,c2,g1,g2,hgg];exact kk
def Ybr(hl:s.length<=100000){h:T O}{N:Nat}:Fn A.C 136 [.str s] h N (fun v _ _=>v=.int .i64 (aV s:Nat)):=by
 intro w;have hb:(bm s).length<=s.length:=by unfold bm;split<;>simp
 have hc:=fun st=>Yqj (s:=bm s) (st:=st) (by omega);rw[aQ,A.k136 (by simp)];show bE _ _ _ (EU (az (fun v _ _=>v=.int .i64 (JN (cD s) (bm s):Nat)) h N w));unfold JN;have hle:=GS (bm s);have Co:((bm s).take (ah (bm s))).length<=100000:=by simp;omega
 have vN:((bm s).drop (ah (bm s)+1)).length<=100000:=by simp;omega
 simp[A.b136,Zwf,hc];generalize cD s=neg at*;generalize rG:decide (ah (bm s)<(bm s).length)=br at*;generalize GX:(bm s).take (ah (bm s))=p at*;generalize Bj:(bm s).drop (ah (bm s)+1)=d at*;clear rG GX Bj hc;have dw:lV neg p br d=qu (gU neg p br d) br p d:=rfl;rw[dw];have fin:∀(h1:T O) (n1:Nat) (r:T V) (form:Bool),ab h N h1 n1->form=gU neg p br d->r.get 5=some (.str p)->r.get 6=some (.str d)->r.get 7=some (.bool br)->r.get 8=some (.bool form)->bE A.C [.fin [.tmp 2] ⟨h,N,w⟩] (fl (A.C.code none A.eM ⟨r,76,[]⟩ ⟨h1,n1,[]⟩)) (EU (az (fun v _ _=>v=.int .i64 (qu (gU neg p br d) br p d:Nat)) h N w)):=by
  intro h1 n1 r form k1 dZ a5 a6 a7 a8;refine mO (Yvd (form:=form) (br:=br) (p:=p) (d:=d) ?_ ?_ Co vN a5 a6 a7 a8) ?_
  ·intro hf;rw[dZ]at hf;unfold gU at hf;simp only[fW]at hf;exact(Zvx hf.1.1).1
  ·intro hf mK;rw[dZ]at hf;unfold gU at hf;rw[mK]at hf;simp only[fW,Bool.not_true,Bool.false_or]at hf;exact(Zvx hf.2.1.1).1
  rintro e fr ⟨h2,n2,W2⟩ ⟨rfl,r2,rfl,dJ,hW,hK⟩;simp only at hW hK;have fY:=MG k1.le hW;simp[dJ,az,fY,dZ];exact k1.trans hK
 refine ar (Zi0 (by omega)) ?_;rintro v h1 n1 k1 rfl;have z0:jH [48]=true:=by decide
 by_cases hA:jH p=true
 ·have hB:(neg=true/\p=[48])\/(neg=false)\/(neg=true/\p≠[48]):=by
   cases neg
   ·exact .inr (.inl rfl)
   by_cases hq:p=[48]
   ·exact .inl ⟨rfl,hq⟩
   exact .inr (.inr ⟨rfl,hq⟩)
  rcases hB with⟨rfl,rfl⟩|rfl|⟨rfl,CS⟩
  ·cases br
   ·simp[z0];exact fin _ _ _ false k1 (by simp[gU]) (by simp) (by simp) (by simp) (by simp)
   simp[z0];exact fin _ _ _ false k1 (by simp[gU]) (by simp) (by simp) (by simp) (by simp)
  ·cases br
   ·simp[hA];exact fin _ _ _ true k1 (by simp[gU,hA]) (by simp) (by simp) (by simp) (by simp)
   simp[hA];refine ar (Zi0 (by omega)) ?_;rintro v h2 n2 k2 rfl;by_cases hD:jH d=true
   ·by_cases h48:d=[48]
    ·subst h48;simp[z0];exact fin _ _ _ false (k1.trans k2) (by simp[gU]) (by simp) (by simp) (by simp) (by simp)
    have e8:(d==[48])=false:=by simp[h48]
    have e9:(d==[49])=decide (d=[49]):=by by_cases h:d=[49]<;>simp[h]
    simp[hD,e8];exact fin _ _ _ (!(d==[49])) (k1.trans k2) (by simp[gU,hA,hD,h48,e9]) (by simp) (by simp) (by simp) (by simp)
   have hD:jH d=false:=by simpa using hD
   simp[hD];exact fin _ _ _ false (k1.trans k2) (by simp[gU,hD]) (by simp) (by simp) (by simp) (by simp)
  have e1:(p==[48])=false:=by simp[CS]
  cases br
  ·simp[hA,e1];exact fin _ _ _ true k1 (by simp[gU,hA,CS]) (by simp) (by simp) (by simp) (by simp)
  simp[hA,e1];refine ar (Zi0 (by omega)) ?_;rintro v h2 n2 k2 rfl;by_cases hD:jH d=true
  ·by_cases h48:d=[48]
   ·subst h48;simp[z0];exact fin _ _ _ false (k1.trans k2) (by simp[gU]) (by simp) (by simp) (by simp) (by simp)
   have e8:(d==[48])=false:=by simp[h48]
   have e9:(d==[49])=decide (d=[49]):=by by_cases h:d=[49]<;>simp[h]
   simp[hD,e8];exact fin _ _ _ (!(d==[49])) (k1.trans k2) (by simp[gU,hA,hD,h48,CS,e9]) (by simp) (by simp) (by simp) (by simp)
  have hD:jH d=false:=by simpa using hD
  simp[hD];exact fin _ _ _ false (k1.trans k2) (by simp[gU,hD]) (by simp) (by simp) (by simp) (by simp)
 have hA:jH p=false:=by simpa using hA
 cases br
 ·simp[hA];exact fin _ _ _ false k1 (by simp[gU,hA]) (by simp) (by simp) (by simp) (by simp)
 simp[hA];exact fin _ _ _ false k1 (by simp[gU,hA]) (by simp) (by simp) (by simp) (by simp)
end
end Go.Mx
