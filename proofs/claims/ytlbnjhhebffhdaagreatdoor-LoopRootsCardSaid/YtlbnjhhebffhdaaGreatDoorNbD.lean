/-num-/
import Derived.Test.YtlbnjhhebffhdaaGreatDoorNbC
set_option linter.all false
set_option maxHeartbeats 2000000
namespace Go.Mx
noncomputable section
open Go Go.Proofs
variable {M N a k o:Nat} {h:T O} {s:bj}
set_option maxRecDepth 1000000
def A.QO:=A.q Tryz.f146
def A.jG:=A.ql A.QO 0 []
def A.b146:=(fun x0=>A.qb A.QO [x0]) A.jG
def A.k146:=@A.kk 146 23 [.cell 4 (some 2)] A.b146 (by kernel_rfl) rfl
def A.QP:=A.q Tryz.f176
def A.zgy:=A.ql A.QP 0 []
def A.b176:=(fun x0=>A.qb A.QP [x0]) A.zgy
def A.k176:=@A.kk 176 41 [.cell 2 (some 2)] A.b176 (by kernel_rfl) rfl
def Yhu(h:o*a^k=M)(ha:1<=a)(ho:1<=o)(hk:1<=k):o*a<=M/\a<=M/\o<=M:=by
 have h1:a^1<=a^k:=Ywo ha hk
 rw[Nat.pow_one]at h1
 have h2:o*a<=o*a^k:=jh o h1
 have h3:1*a<=o*a:=ot a ho
 have h4:o*1<=o*a:=jh o ha
 omega
def Yqb(h:o*a^k=M)(ha:1<=a)(ho:1<=o)(hk:1<k):a*a<=M:=by
 have h1:a^2<=a^k:=Ywo ha hk
 have h2:1*a^k<=o*a^k:=ot _ ho
 have h3:a^2=a*a:=by rw[Nat.pow_two]
 omega
def Yqc(h:o*a^k=M)(hk:k%2=1):(o*a)*(a*a)^(k/2)=M:=by
 rw[<-h,<-Nat.pow_two,<-Nat.pow_mul,AG]
 congr 1
 conv=>rhs;rw[show k=2*(k/2)+1 by omega,fV]
 rw[iz]
def Ymn(h:o*a^k=M)(hk:k%2=0):o*(a*a)^(k/2)=M:=by
 rw[<-h,<-Nat.pow_two,<-Nat.pow_mul,show 2*(k/2)=k by omega]
structure US (h:T O) (N q M m:Nat) (r:T V) (st:St):Prop where
 w:aL N st.w=[]
 ai:ah h N st.h st.n
 q1:N+2<=q
 q2:q<st.n
 row:st.h.get (N+1)=some (.cells [.int .i64 0,.ziA] 100 true)
 r1:r.get 1=some (.int .i64 m)
 lm:m<4611686018427387904
 ex:∃(n1 n2:Int) (u1 u2:V) (a o:Nat),st.h.get N=some (.cells [.int .i64 n1,u1] 100 true)/\st.h.get q=some (.cells [.int .i64 n2,u2] 100 true)/\In st.h st.n (.agg [.int .i64 n1,u1]) a/\In st.h st.n (.agg [.int .i64 n2,u2]) o/\o*a^m=M/\1<=a/\1<=o/\wl a<10000000000
def Yhx{q:Nat}{r0:T V}(hM:wl M<10000000000)(a2:r0.get 2=some (.ptr N 0))(a5:r0.get 5=some (.ptr q 0)):
  ∀x r st,(∀t,jx [(1,1),(7,21)] t=false->r.get t=r0.get t)->Fx [(1,1),(7,21)] r0 23 ⟨r,23,[]⟩->US h N q M x r st->Code A.C none A.jG ⟨r,23,[]⟩ st (Rd [(1,1),(7,21)] r0 23 (US h N q M) x (fun e r st=>e=.exit 0/\US h N q M 0 r st)):=by
 rintro m r ⟨H,n0,W⟩ hr hf ⟨hW,hK,rR,kK,zgc,r1,lm,n1,n2,u1,u2,a,o,g0,g1,ha,ho,tX,a1,o1,la⟩
 simp only at hW hK kK zgc g0 g1 ha ho
 rw[cn]
 have b1:=Yj2 (k:=m) (by omega)
 have b2:=Yhe (k:=m)
 by_cases h0:m=0
 ·subst h0
  simp[A.jG,hf,r1]
  exact⟨hW,hK,rR,kK,zgc,by simp[r1],by omega,n1,n2,u1,u2,a,o,g0,g1,ha,ho,tX,a1,o1,la⟩
 ·have c1:(0:Int)<(m:Int):=by omega
  have c2:0<m:=by omega
  obtain⟨t1,t2,t3⟩:=Yhu tX a1 o1 c2
  have lo:wl o<10000000000:=oe (MH (a:=(o:Int)) (b:=(M:Int)) (by omega)) hM
  obtain⟨_,_,e5,o5⟩:=ha.cells
  simp only[V.agg.injEq,iA,V.int.injEq,true_and,and_true]at e5
  obtain⟨rfl,rfl⟩:=e5
  unfold V.one at o5
  have lP:¬q<N:=by omega
  by_cases hp:m%2=1
  ·have p1:(m:Int)%2=1:=by omega
   simp[A.jG,hr,r1,a2,a5,c2,b1,hp,g0,g1,aI,aK]
   refine av (Af ho ha (by omega) (by omega)) ?_
   rintro v h3 n3 k3 hv
   rw[<-LD]at hv
   obtain⟨n6,u6,rfl,o6⟩:=hv.cells
   unfold V.one at o6
   have zgC:=k3.le
   have f0:=(k3.get N (by omega)).trans g0
   have f1:=(k3.get q (by omega)).trans g1
   have f2:=(k3.get (N+1) (by omega)).trans zgc
   have d1:¬N=q:=by omega
   have d2:¬N+1=q:=by omega
   have d3:¬q=N:=by omega
   have ha3:=(ha.ai k3).ay (c1:=[.int .i64 n6,u6]) (e1:=100) (w1:=true) f1 ho.nu rfl
   have Da:=hv.ay (c1:=[.int .i64 n6,u6]) (e1:=100) (w1:=true) f1 ho.nu rfl
   have f0':(h3.set q (.cells [.int .i64 n6,u6] 100 true)).get N=some (.cells [.int .i64 n1,u1] 100 true):=by rw[T.al,aA d1];exact f0
   have SI:(h3.set q (.cells [.int .i64 n6,u6] 100 true)).get q=some (.cells [.int .i64 n6,u6] 100 true):=by simp
   have f2':(h3.set q (.cells [.int .i64 n6,u6] 100 true)).get (N+1)=some (.cells [.int .i64 0,.ziA] 100 true):=by rw[T.al,aA d2];exact f2
   have kH:=(hK.trans k3).set (i:=q) (o:=.cells [.int .i64 n6,u6] 100 true) (by omega)
   by_cases Ai:1<m
   ·have p2:(1:Int)<(m:Int):=by omega
    have t4:=Yqb tX a1 o1 Ai
    have laa:wl ((a*a:Nat):Int)<10000000000:=oe (MH (a:=((a*a:Nat):Int)) (b:=(M:Int)) (by omega)) hM
    generalize hH:h3.set q (.cells [.int .i64 n6,u6] 100 true)=H3 at*
    simp[r1,hr,a2,a5,f1,o6,aj,bM,p2,hH,f0',aI,aK]
    refine av (Af ha3 ha3 (by omega) (by omega)) ?_
    rintro v h4 n4 k4 Ko
    rw[<-LD]at Ko
    obtain⟨n7,u7,rfl,o7⟩:=Ko.cells
    unfold V.one at o7
    have uU:=k4.le
    have e0:=(k4.get N (by omega)).trans f0'
    have e1:=(k4.get q (by omega)).trans SI
    have e2:=(k4.get (N+1) (by omega)).trans f2'
    simp[r1,hr,hf,a2,e0,o7,aj,bM,b2]
    refine⟨m/2,by omega,by simp[aL,hW,lP],(kH.trans k4).set (Yv5 _),rR,by show q<n4;omega,by simp[e2],by simp,by omega,n7,n6,u7,u6,a*a,o*a,by simp,by simp[d3,e1],Ko.ay e0 ha.nu rfl,(Da.ai k4).ay e0 ha.nu rfl,Yqc tX hp,xM a1 a1,xM o1 a1,laa⟩
   ·have p2:¬(1:Int)<(m:Int):=by omega
    have m0:m/2=0:=by omega
    have m1':m=1:=by omega
    simp[r1,hr,hf,a5,f1,o6,aj,bM,p2,b2]
    refine⟨m/2,by omega,by simp[aL,hW,lP],kH,rR,by show q<n3;omega,f2',by simp,by omega,n1,n6,u1,u6,a,o*a,f0',SI,ha3,Da,by rw[m0,<-tX,m1'];simp,a1,xM o1 a1,la⟩
  ·have p1:¬(m:Int)%2=1:=by omega
   have p0:m%2=0:=by omega
   have p2:(1:Int)<(m:Int):=by omega
   have Ai:1<m:=by omega
   have t4:=Yqb tX a1 o1 Ai
   have laa:wl ((a*a:Nat):Int)<10000000000:=oe (MH (a:=((a*a:Nat):Int)) (b:=(M:Int)) (by omega)) hM
   simp[A.jG,hr,r1,a2,c2,b1,p1,p2,g0,aI,aK]
   refine av (Af ha ha (by omega) (by omega)) ?_
   rintro v h3 n3 k3 hv
   rw[<-LD]at hv
   obtain⟨n6,u6,rfl,o6⟩:=hv.cells
   unfold V.one at o6
   have zgC:=k3.le
   have f0:=(k3.get N (by omega)).trans g0
   have f1:=(k3.get q (by omega)).trans g1
   have f2:=(k3.get (N+1) (by omega)).trans zgc
   have d3:¬q=N:=by omega
   simp[r1,hr,hf,a2,f0,o6,aj,bM,b2]
   refine⟨m/2,by omega,by simp[aL,hW],(hK.trans k3).set (Yv5 _),rR,by show q<n3;omega,by simp[f2],by simp,by omega,n6,n2,u6,u2,a*a,o,by simp,by simp[d3,f1],hv.ay f0 ha.nu rfl,(ho.ai k3).ay f0 ha.nu rfl,Ymn tX p0,xM a1 a1,o1,laa⟩
def Yc1{x:V}(hx:In h N x a)(ha:1<=a)(hk:k<4611686018427387904)(la:wl a<10000000000)(hM:wl ((a^k:Nat):Int)<10000000000):Fn A.C 146 [x,.int .i64 k] h N (fun v h' n'=>In h' n' v ((a^k:Nat):Int)):=by
 intro w
 rw[aZ,A.k146 (by simp)]
 obtain⟨n1,u1,rfl,o1⟩:=hx.cells
 have kk:=aO (aO (ah.refl (h:=h) (n:=N)) (.cells [.int .i64 n1,u1] 100 true)) (.cells [.int .i64 0,.ziA] 100 true)
 have oA:=hx.ai kk
 unfold V.one at o1
 simp[A.b146,o1]
 refine av JU ?_
 rintro _ h1 m1 k1 rfl
 have fC:=k1.le
 have g0:=k1.get N (by omega)
 have g1:=k1.get (N+1) (by omega)
 simp at g0 g1
 have zK:=oA.ai k1
 have d1:¬N=m1:=by omega
 have d2:¬N+1=m1:=by omega
 have lP:¬m1<N:=by omega
 have kE:=(aO (ah.refl (h:=h1) (n:=m1)) (.cells [.int .i64 0,.ziA] 100 true)).set (i:=m1) (o:=.cells [.int .i64 1,.ziA] 100 true) (Yv5 _)
 simp[aj,bM]
 refine Zal [(1,1),(7,21)] _ (US h N m1 (a^k)) k ?_ (Yhx hM (by simp) (by simp)) ?_
 ·refine⟨by simp[aL,lP],((kk.trans k1).trans kE),by omega,by show m1<m1+1;omega,by simp[d2,g1],by simp,hk,n1,1,u1,.ziA,a,1,by simp[d1,g0],by simp,zK.ai kE,In.small (by omega) (by omega),by simp,ha,by omega,la⟩
 rintro e r ⟨h5,m5,W5⟩ hr ⟨rfl,hW,hK,rR,kK,zgc,r1,lm,n5,n6,u5,u6,a',o,g5,g6,ha5,jd,tX,a1,o1',Ez⟩
 simp only at hW hK kK zgc g5 g6 ha5 jd
 obtain⟨_,_,e5,o5⟩:=jd.cells
 simp only[V.agg.injEq,iA,V.int.injEq,true_and,and_true]at e5
 obtain⟨rfl,rfl⟩:=e5
 unfold V.one at o5
 have he:(o:Int)=((a^k:Nat):Int):=by rw[<-tX];simp
 rw[he]at jd
 have lP:¬N+1<N:=by omega
 simp[hr,g6,zgc,aI,aK,aj,bM,o5,Ret,hW,lP]
 exact⟨hK.set (by omega),jd.ay zgc (by simp) rfl⟩
def Ydf(x:bj):∀(y:bj),aN (x++y)=aN x*10^y.length+aN y:=by
 intro y
 generalize hn:y.length=n
 induction n generalizing y with
 |zero=>
  have:y=[]:=rz hn
  subst this;simp[aN]
 |succ n ih=>
  obtain⟨u,d,rfl⟩:∃u d,y=u++[d]:=⟨y.dropLast,y.getLast (by rintro rfl;simp at hn),(Yzy _).symm⟩
  simp at hn
  rw[<-rB,Oh,Oh,ih u hn,fV]
  grind
def EC{n:Nat}(h:n<10^k):wl n<=k:=by
 unfold wl
 apply Zgb
 have:(10:Nat)^k<=B^k:=IB (by decide) k
 simp;omega
def Zp3(h:cO s=true)(k:Nat):cO (s.take k)=true:=by
 unfold cO at*
 rw[uv]at*
 exact fun x hx=>h x (BR hx)
def Ybf(h:cO s=true)(k:Nat):cO (s.drop k)=true:=by
 unfold cO at*
 rw[uv]at*
 exact fun x hx=>h x (List.mem_of_mem_drop hx)
structure UT (h:T O) (N:Nat) (s:bj) (m:Nat) (r:T V) (st:St):Prop where
 w:aL N st.w=[]
 ai:ah h N st.h st.n
 le:N+2<=st.n
 row:st.h.get N=some (.cells [.int .i64 0,.ziA] 100 true)
 ex:∃(cur:bj) (p:Nat) (n1:Int) (u1:V),r.get 0=some (.str cur)/\cur.length=m/\m<=s.length/\cO cur=true/\st.h.get (N+1)=some (.cells [.int .i64 n1,u1] 100 true)/\In st.h st.n (.agg [.int .i64 n1,u1]) p/\aN s=p*10^m+aN cur
def Ycv{r0:T V}(hd:cO s=true)(hl:s.length<=100000)(a4:r0.get 4=some (.ptr (N+1) 0)):
  ∀x r st,(∀t,jx [(0,0),(5,7),(13,36)] t=false->r.get t=r0.get t)->Fx [(0,0),(5,7),(13,36)] r0 41 ⟨r,41,[]⟩->UT h N s x r st->Code A.C none A.zgy ⟨r,41,[]⟩ st (Rd [(0,0),(5,7),(13,36)] r0 41 (UT h N s) x (fun e r st=>e=.exit 0/\UT h N s 0 r st)):=by
 rintro m r ⟨H,n0,W⟩ hr hf ⟨hW,hK,hle,zgc,cur,p,n1,u1,kh,dW,hms,oD,g1,hp,hv⟩
 simp only at hW hK hle zgc g1 hp
 rw[cn]
 by_cases h0:m=0
 ·subst h0
  have:cur=[]:=rz dW
  subst this
  simp[A.zgy,hf,kh]
  exact⟨hW,hK,hle,zgc,[],p,n1,u1,by simp[kh],rfl,by omega,rfl,g1,hp,hv⟩
 ·obtain⟨n,hn⟩:∃n,n=min 18 m:=⟨_,rfl⟩
  have c1:0<cur.length:=by omega
  have c3:(if (cur.length:Int)<18 then (cur.length:Int) else 18)=(n:Int):=by split<;>omega
  have c4:(n:Int)<=(cur.length:Int):=by omega
  have hpv:p<=aN s:=by
   rw[hv]
   have:p*1<=p*10^m:=jh p (vu (by decide))
   omega
  have de:=A5 hd
  have lp:wl (p:Int)<=100000:=p9 (EC (oe hpv de)) hl
  have hat:=fun (h:T O) (N:Nat)=>Yo1 (s:=cur.take n) (h:=h) (N:=N) (Zp3 oD n) (by rw[j9];omega) (by rw[j9];omega)
  have l10:wl ((10:Nat):Int)<10000000000:=by decide+kernel
  have lpw:wl ((10^n:Nat):Int)<=19:=EC (Nat.pow_lt_pow_right (by decide) (by omega))
  have EE:=A5 (Zp3 oD n)
  have htl:(cur.take n).length=n:=by rw[j9];omega
  rw[htl]at EE
  have h18:(10:Nat)^n<=10^18:=Ywo (by decide) (by omega)
  have e18:(10:Nat)^18=1000000000000000000:=by decide
  have lnv:wl ((aN (cur.take n):Nat):Int)<=18:=p9 (EC EE) (by omega)
  simp[A.zgy,kh,c1,wU,yY,xc,c3,c4,aH]
  refine av (hat _ _) ?_
  rintro _ h1 m1 k1 rfl
  have fC:=k1.le
  have f1:=(k1.get (N+1) (by omega)).trans g1
  simp[a4,hr,f1,aI,aK]
  refine av JU ?_
  rintro _ h2 m2 k2 rfl
  have zgl:=k2.le
  simp[]
  refine av (Yc1 (In.small (z:=(10:Nat)) (by omega) (by omega)) (by omega) (by omega) l10 (by omega)) ?_
  rintro vp h3 m3 k3 hvp
  have zgC:=k3.le
  simp[]
  refine av (Af (((hp.ai k1).ai k2).ai k3) hvp (by omega) (by omega)) ?_
  rintro vm h4 m4 k4 hvm
  have uU:=k4.le
  have lm:=CR (p:Int) ((10^n:Nat):Int)
  simp[]
  refine av JU ?_
  rintro _ h5 m5 k5 rfl
  have Kl:=k5.le
  simp[]
  refine av (Qj (hvm.ai k5) (In.small (z:=((aN (cur.take n):Nat):Int)) (by omega) (by omega)) (by omega) (by omega)) ?_
  rintro va h6 m6 k6 hva
  have zfU:=k6.le
  have k26:=(((k2.trans k3).trans k4).trans k5).trans k6
  have e1:=(k26.get (N+1) (by omega)).trans f1
  have e2:=(k26.get N (by omega)).trans ((k1.get N (by omega)).trans zgc)
  obtain⟨n6,u6,rfl,o6⟩:=hva.cells
  unfold V.one at o6
  have z1:N+1<m1:=by omega
  have z2:N+1<m6:=by omega
  have z3:¬N+1<N:=by omega
  have z4:N+1<m5:=by omega
  simp[hr,hf,a4,kh,e1,o6,z1,z2,z4,aj,bM,aH,c4,b_.chk]
  have Pz:(p:Int)*((10^n:Nat):Int)+((aN (cur.take n):Nat):Int)=((p*10^n+aN (cur.take n):Nat):Int):=by simp
  rw[Pz]at hva
  refine⟨m-n,by omega,by simp[aL,hW,z3],((hK.trans k1).trans k26).set (by omega),by show N+2<=m6;omega,by simp[e2],cur.drop n,p*10^n+aN (cur.take n),n6,u6,by simp,by rw[AQ];omega,by omega,Ybf oD n,by simp,hva.ay e1 hp.nu rfl,?_⟩
  have h1:=Ydf (cur.take n) (cur.drop n)
  rw[AO,AQ,dW]at h1
  rw[hv,h1,ku,AG,<-Yw8,show n+(m-n)=m by omega]
  omega
def Ycw{s:bj}{h:T O}{N:Nat}(hd:cO (Zas s)=true)(hl:(Zas s).length<=100000):Fn A.C 176 [.str s] h N (fun v h' n'=>In h' n' v (if cF s=true then -(aN (Zas s):Int) else (aN (Zas s):Int))):=by
 intro w
 rw[aZ,A.k176 (by simp)]
 simp[A.b176,Zs0,Zka,aj]
 refine Zal [(0,0),(5,7),(13,36)] _ (UT h N (Zas s)) (Zas s).length ?_ (Ycv hd hl (by simp)) ?_
 ·have kk:=(aO (aO (ah.refl (h:=h) (n:=N)) (.cells [.int .i64 0,.ziA] 100 true)) (.cells [.int .i64 0,.ziA] 100 true)).set (i:=N+1) (o:=.cells [.int .i64 0,.ziA] 100 true) (by omega)
  exact⟨by simp[aL],kk,Yv5 _,by simp,Zas s,0,0,.ziA,by simp,rfl,Yv5 _,hd,by simp,In.small (by omega) (by omega),by simp⟩
 rintro e r ⟨h5,m5,W5⟩ hr ⟨rfl,hW,hK,hle,zgc,cur,p,n1,u1,kh,dW,hms,oD,g1,hp,hv⟩
 simp only at hW hK hle zgc g1 hp
 have:cur=[]:=rz dW
 subst this
 have hv:aN (Zas s)=p:=by rw[hv];simp[aN]
 have lp:wl (p:Int)<=100000:=by rw[<-hv];exact p9 (EC (A5 hd)) hl
 obtain⟨_,_,e5,o5⟩:=hp.cells
 simp only[V.agg.injEq,iA,V.int.injEq,true_and,and_true]at e5
 obtain⟨rfl,rfl⟩:=e5
 unfold V.one at o5
 cases hn:cF s with
 |true=>
  simp[hr,hn,g1,aI,aK]
  refine av (MC hp (by omega)) ?_
  rintro v h6 m6 k6 hv6
  obtain⟨n6,u6,rfl,o6⟩:=hv6.cells
  unfold V.one at o6
  have e0:=(k6.get N (by omega)).trans zgc
  simp[hr,e0,o6,aI,aK,aj,bM,Ret,hW]
  exact⟨(hK.trans k6).set (Yv5 _),by rw[hv];exact hv6.ay e0 (by simp) rfl⟩
 |false=>
  simp[hr,hn,g1,zgc,o5,aI,aK,aj,bM,Ret,hW]
  exact⟨hK.set (Yv5 _),by rw[hv];exact hp.ay zgc (by simp) rfl⟩
variable {N:Nat} {h:T O}
def A.QQ:=A.q Tryz.f103
def A.mJ:=A.ql A.QQ 0 []
def A.b103:=(fun x0=>A.qb A.QQ [x0]) A.mJ
def A.k103:=@A.kk 103 15 [.tmp 2] A.b103 (by kernel_rfl) rfl
def A.QR:=A.q Tryz.f182
def A.mK:=A.ql A.QR 0 []
def A.b182:=(fun x0=>A.qb A.QR [x0]) A.mK
def A.k182:=@A.kk 182 15 [.tmp 2] A.b182 (by kernel_rfl) rfl
def Zxz{v:V}{l:List Int}{w:List Nat}(hs:Sl h N v (dI l))(hl:l.length<1000):A.C.call (.func 103 [] []) [v] ⟨h,N,w⟩=some (.int .i64 (cN l),⟨h,N,w⟩):=by
 apply Call.eq
 have hlen:=hs.len
 rw[gp]at hlen
 rw[aZ,A.k103 (by simp)]
 simp[A.b103,hlen]
 refine Zal [(2,2),(4,4),(7,14)] (fun e r st=>st=⟨h,N,[]⟩/\((e=.exit 0/\cN l=0)\/(e=.ret/\r.get 2=some (.int .i64 (cN l))))) (fun m r st=>st=⟨h,N,[]⟩/\∃k,m=l.length-k/\k<=l.length/\r.get 7=some (.int .i64 k)/\cN l=cN (l.drop k)) l.length ?_ ?_ ?_
 ·exact⟨rfl,0,by omega,by omega,by simp,by simp⟩
 ·rintro m r _ hr hf ⟨rfl,k,rfl,hk,h7,hz⟩
  rw[cn]
  by_cases aW:k<l.length
  ·obtain⟨c,hc⟩:=eQ aW
   obtain⟨i,o,cc,e,rw,q1,q2,q3,q4⟩:=hs.at (fY hc)
   rw[rV hc,cN]at hz
   have hk1:(k:Int)<(l.length:Int):=by omega
   by_cases h0:c=0
   ·rw[aR h0]at hz
    simp(disch:=first|(simp;done)|omega|(simp only[bH,cy,bC];omega)|rfl) [A.mJ,hr,hf,h7,hk1,aW,hlen,q1,q3,q4,a_,h0]
    exact⟨_,by omega,k+1,rfl,by omega,by simp,hz⟩
   ·rw[aA h0]at hz
    simp[A.mJ,hr,hf,h7,hk1,hlen,q1,q3,q4,h0,hz]
  ·have:l.drop k=[]:=zd (by omega)
   rw[this,cN]at hz
   have:k=l.length:=by omega
   subst this
   simp[A.mJ,hr,hf,h7,hz]
 ·rintro _ r _ hr ⟨rfl,⟨rfl,hz⟩|⟨rfl,h2⟩⟩
  ·simp[hz]
  ·simp[h2]
def Ydi{v:V}{l:List Int}{w:List Nat}(hs:Sl h N v (dI l))(hl:l.length<1000):A.C.call (.func 182 [] []) [v] ⟨h,N,w⟩=some (.int .i64 (cN l),⟨h,N,w⟩):=by
 apply Call.eq
 have hlen:=hs.len
 rw[gp]at hlen
 rw[aZ,A.k182 (by simp)]
 simp[A.b182,hlen]
 refine Zal [(2,2),(4,4),(7,14)] (fun e r st=>st=⟨h,N,[]⟩/\((e=.exit 0/\cN l=0)\/(e=.ret/\r.get 2=some (.int .i64 (cN l))))) (fun m r st=>st=⟨h,N,[]⟩/\∃k,m=l.length-k/\k<=l.length/\r.get 7=some (.int .i64 k)/\cN l=cN (l.drop k)) l.length ?_ ?_ ?_
 ·exact⟨rfl,0,by omega,by omega,by simp,by simp⟩
 ·rintro m r _ hr hf ⟨rfl,k,rfl,hk,h7,hz⟩
  rw[cn]
  by_cases aW:k<l.length
  ·obtain⟨c,hc⟩:=eQ aW
   obtain⟨i,o,cc,e,rw,q1,q2,q3,q4⟩:=hs.at (fY hc)
   rw[rV hc,cN]at hz
   have hk1:(k:Int)<(l.length:Int):=by omega
   by_cases h0:c=0
   ·rw[aR h0]at hz
    simp(disch:=first|(simp;done)|omega|(simp only[bH,cy,bC];omega)|rfl) [A.mK,hr,hf,h7,hk1,aW,hlen,q1,q3,q4,a_,h0]
    exact⟨_,by omega,k+1,rfl,by omega,by simp,hz⟩
   ·rw[aA h0]at hz
    simp[A.mK,hr,hf,h7,hk1,hlen,q1,q3,q4,h0,hz]
  ·have:l.drop k=[]:=zd (by omega)
   rw[this,cN]at hz
   have:k=l.length:=by omega
   subst this
   simp[A.mK,hr,hf,h7,hz]
 ·rintro _ r _ hr ⟨rfl,⟨rfl,hz⟩|⟨rfl,h2⟩⟩
  ·simp[hz]
  ·simp[h2]
def Kp{i:Nat}{w:List Nat}{a0 a1:Int}(hi:i<N):A.C.call (.func 182 [] []) [.slice i 0 2 (some 2) 1] ⟨h.set i (.cells [.int .i64 a0,.int .i64 a1] 26 true),N,w⟩=some (.int .i64 (cN [a0,a1]),⟨h.set i (.cells [.int .i64 a0,.int .i64 a1] 26 true),N,w⟩):=
 Ydi (l:=[a0,a1]) (Sl.row (e:=26) (rw:=true) (cp:=some 2) hi (by simp[dI]) rfl (by simp)) (by simp)
def Zup{i:Nat}{w:List Nat}{a0 a1:Int}(hi:i<N):A.C.call (.func 103 [] []) [.slice i 0 2 (some 2) 1] ⟨h.set i (.cells [.int .i64 a0,.int .i64 a1] 26 true),N,w⟩=some (.int .i64 (cN [a0,a1]),⟨h.set i (.cells [.int .i64 a0,.int .i64 a1] 26 true),N,w⟩):=
 Zxz (l:=[a0,a1]) (Sl.row (e:=26) (rw:=true) (cp:=some 2) hi (by simp[dI]) rfl (by simp)) (by simp)
variable {s:bj}
def A.QS:=A.q Tryz.f120
def A.ed:=A.qt A.QS [] [] [1,1,1,1,1]
def A.b120:=(fun y0=>A.qt A.QS [] [([1,1,1,1,1],y0)] []) A.ed
def A.k120:=@A.kk 120 76 [.tmp 2] A.b120 (by kernel_rfl) rfl
def Zsx{s:bj}(h:ij s=true):cO s=true/\1<=s.length:=by
 cases s with
 |nil=>cases h
 |cons c s=>
  unfold ij at h
  rw[jc]at h
  exact⟨h.1,by simp⟩
def nU(form br:Bool)(p d:bj):Nat:=if form=false then 1 else if 600<p.length\/600<d.length then 4 else if br=true/\Nat.gcd (aN p) (aN d)≠1 then 1 else 0
def Yid{s:bj}(h:cO s=true):cF s=false/\Zas s=s:=by
 cases s with
 |nil=>exact⟨rfl,rfl⟩
 |cons c s=>
  have hc:jN c=true:=by simp[cO]at h;exact h.1
  unfold jN at hc
  simp only[decide_eq_true_eq]at hc
  have:cF (c::s)=false:=by simp[cF];omega
  refine⟨this,?_⟩
  unfold Zas;rw[this];rfl
def Zwz{h:T O}{N:Nat}(hd:cO s=true)(hl:s.length<=100000):Fn A.C 176 [.str s] h N (fun v h' n'=>In h' n' v (aN s:Nat)):=by
 obtain⟨h1,h2⟩:=Yid hd
 have:=Ycw (s:=s) (h:=h) (N:=N) (by rw[h2];exact hd) (by rw[h2];exact hl)
 rw[h1,h2]at this
 exact this
def Yoo{H:T O}{n:Nat}{r0:T V}{p d:bj}{form br:Bool}(hp:form=true->cO p=true)(hd:form=true->br=true->cO d=true)(lp:p.length<=100000)(ld:d.length<=100000)(a5:r0.get 5=some (.str p))(a6:r0.get 6=some (.str d))(a7:r0.get 7=some (.bool br))(a8:r0.get 8=some (.bool form)):
  Code A.C none A.ed ⟨r0,76,[]⟩ ⟨H,n,[]⟩ (fun e fr st=>e=.ret/\∃r,fr=⟨r,76,[]⟩/\r.get 2=some (.int .i64 (nU form br p d:Nat))/\aL n st.w=[]/\ah H n st.h st.n):=by
 rw[cn]
 cases form with
 |false=>
  by_cases c1:600<p.length
  ·have c1':(600:Int)<(p.length:Int):=by omega
   simp[A.ed,a5,a8,yE,c1',aj,Kp,cN,nU]
   exact aO ah.refl _
  ·have c1':¬(600:Int)<(p.length:Int):=by omega
   by_cases c2:600<d.length
   ·have c2':(600:Int)<(d.length:Int):=by omega
    simp[A.ed,a5,a6,a8,yE,c1',c2',aj,Kp,cN,nU]
    exact aO ah.refl _
   ·have c2':¬(600:Int)<(d.length:Int):=by omega
    simp[A.ed,a5,a6,a8,yE,c1',c2',aj,Kp,cN,nU]
    exact aO ah.refl _
 |true=>
  by_cases c1:600<p.length
  ·have c1':(600:Int)<(p.length:Int):=by omega
   simp[A.ed,a5,a8,yE,c1,c1',aj,Kp,cN,nU]
   exact aO ah.refl _
  ·have c1':¬(600:Int)<(p.length:Int):=by omega
   by_cases c2:600<d.length
   ·have c2':(600:Int)<(d.length:Int):=by omega
    simp[A.ed,a5,a6,a8,yE,c1,c2,c1',c2',aj,Kp,cN,nU]
    exact aO ah.refl _
   ·have c2':¬(600:Int)<(d.length:Int):=by omega
    have c3:¬(600<p.length\/600<d.length):=by omega
    cases br with
    |false=>
     simp[A.ed,a5,a6,a7,a8,yE,c1,c2,c1',c2',aj,Kp,cN,nU]
     exact aO ah.refl _
    |true=>
     have lwp:wl ((aN p:Nat):Int)<=100000:=p9 (EC (A5 (hp rfl))) lp
     have lwd:wl ((aN d:Nat):Int)<=100000:=p9 (EC (A5 (hd rfl rfl))) ld
     simp[A.ed,a5,a6,a7,a8,yE,c1',c2',aj,Kp,cN]
     have kz:=aO (ah.refl (h:=H) (n:=n)) (.cells [.int .i64 0,.int .i64 0] 26 true)
     refine av (Zwz (hp rfl) (by omega)) ?_
     rintro v3 h3 n3 k3 Da
     simp[a6]
     refine av (Zwz (hd rfl rfl) (by omega)) ?_
     rintro v4 h4 n4 k4 Ko
     simp[]
     refine av (Yk7 (Da.ai k4) Ko (by omega) (by omega)) ?_
     rintro v5 h5 n5 k5 UR
     simp[]
     refine av JU ?_
     rintro _ h6 n6 k6 rfl
     simp[]
     have hg:Int.gcd (aN p:Nat) (aN d:Nat)=Nat.gcd (aN p) (aN d):=rfl
     rw[hg]at UR
     have lg:wl ((Nat.gcd (aN p) (aN d):Nat):Int)<100000000000:=by
      by_cases hz:aN p=0
      ·rw[hz,Nat.gcd_zero_left];omega
      ·have:=MH (a:=((Nat.gcd (aN p) (aN d):Nat):Int)) (b:=((aN p:Nat):Int)) (by
        have:=Nat.gcd_le_left (aN d) (show 0<aN p by omega)
        omega)
       omega
     have l1:wl (1:Int)<100000000000:=by decide+kernel
     refine av (Ylg (UR.ai k6) (In.small (z:=1) (by omega) (by omega)) lg l1) ?_
     rintro _ h7 n7 k7 rfl
     have kk:=((((kz.trans k3).trans k4).trans k5).trans k6).trans k7
     generalize hgg:Nat.gcd (aN p) (aN d)=g at*
     by_cases g1:g=1
     ·subst g1
      simp[yE,nU,c1,c2,sg3,hgg]
      exact kk
     ·have g2:¬sg3 ((g:Int)-1)=0:=by unfold sg3;split<;>(try split)<;>omega
      simp[yE,nU,c1,c2,g1,g2,hgg]
      exact kk
def Zrc(hl:s.length<=100000){h:T O}{N:Nat}:Fn A.C 120 [.str s] h N (fun v _ _=>v=.int .i64 (aV s:Nat)):=by
 intro w
 have hb:(Zas s).length<=s.length:=by unfold Zas;split<;>simp
 have hc:=fun st=>Ylf (s:=Zas s) (st:=st) (by omega)
 rw[aZ,A.k120 (by simp)]
 show Run _ _ _ (Cv (Ret (fun v _ _=>v=.int .i64 (JB (cF s) (Zas s):Nat)) h N w))
 unfold JB
 have hle:=BN (Zas s)
 have Ai:((Zas s).take (ak (Zas s))).length<=100000:=by simp;omega
 have rW:((Zas s).drop (ak (Zas s)+1)).length<=100000:=by simp;omega
 simp[A.b120,Ztf,hc]
 generalize cF s=neg at*
 generalize oU:decide (ak (Zas s)<(Zas s).length)=br at*
 generalize Pz:(Zas s).take (ak (Zas s))=p at*
 generalize Br:(Zas s).drop (ak (Zas s)+1)=d at*
 clear oU Pz Br hc
 have chk:js neg p br d=nU (fP neg p br d) br p d:=rfl
 rw[chk]
 have fin:∀(h1:T O) (n1:Nat) (r:T V) (form:Bool),ah h N h1 n1->form=fP neg p br d->r.get 5=some (.str p)->r.get 6=some (.str d)->r.get 7=some (.bool br)->r.get 8=some (.bool form)->Run A.C [.fin [.tmp 2] ⟨h,N,w⟩] (fx (A.C.code none A.ed ⟨r,76,[]⟩ ⟨h1,n1,[]⟩)) (Cv (Ret (fun v _ _=>v=.int .i64 (nU (fP neg p br d) br p d:Nat)) h N w)):=by
  intro h1 n1 r form k1 dK a5 a6 a7 a8
  refine nc (Yoo (form:=form) (br:=br) (p:=p) (d:=d) ?_ ?_ Ai rW a5 a6 a7 a8) ?_
  ·intro hf
   rw[dK]at hf
   unfold fP at hf
   simp only[jc]at hf
   exact(Zsx hf.1.1).1
  ·intro hf oE
   rw[dK]at hf
   unfold fP at hf
   rw[oE]at hf
   simp only[jc,Bool.not_true,Bool.false_or]at hf
   exact(Zsx hf.2.1.1).1
  ·rintro e fr ⟨h2,n2,W2⟩ ⟨rfl,r2,rfl,dw,hW,hK⟩
   simp only at hW hK
   have dX:=MB k1.le hW
   simp[dw,Ret,dX,dK]
   exact k1.trans hK
 refine av (Zhs (by omega)) ?_
 rintro v h1 n1 k1 rfl
 have z0:ij [48]=true:=by decide
 by_cases hA:ij p=true
 ·have hB:(neg=true/\p=[48])\/(neg=false)\/(neg=true/\p≠[48]):=by
   cases neg
   ·exact .inr (.inl rfl)
   ·by_cases hq:p=[48]
    ·exact .inl ⟨rfl,hq⟩
    ·exact .inr (.inr ⟨rfl,hq⟩)
  rcases hB with⟨rfl,rfl⟩|rfl|⟨rfl,JC⟩
  ·cases br
   ·simp[z0]
    exact fin _ _ _ false k1 (by simp[fP]) (by simp) (by simp) (by simp) (by simp)
   ·simp[z0]
    exact fin _ _ _ false k1 (by simp[fP]) (by simp) (by simp) (by simp) (by simp)
  ·cases br
   ·simp[hA]
    exact fin _ _ _ true k1 (by simp[fP,hA]) (by simp) (by simp) (by simp) (by simp)
   ·simp[hA]
    refine av (Zhs (by omega)) ?_
    rintro v h2 n2 k2 rfl
    by_cases hD:ij d=true
    ·by_cases h48:d=[48]
     ·subst h48
      simp[z0]
      exact fin _ _ _ false (k1.trans k2) (by simp[fP]) (by simp) (by simp) (by simp) (by simp)
     ·have e8:(d==[48])=false:=by simp[h48]
      have e9:(d==[49])=decide (d=[49]):=by by_cases h:d=[49]<;>simp[h]
      simp[hD,e8]
      exact fin _ _ _ (!(d==[49])) (k1.trans k2) (by simp[fP,hA,hD,h48,e9]) (by simp) (by simp) (by simp) (by simp)
    ·have hD:ij d=false:=by simpa using hD
     simp[hD]
     exact fin _ _ _ false (k1.trans k2) (by simp[fP,hD]) (by simp) (by simp) (by simp) (by simp)
  ·have e1:(p==[48])=false:=by simp[JC]
   cases br
   ·simp[hA,e1]
    exact fin _ _ _ true k1 (by simp[fP,hA,JC]) (by simp) (by simp) (by simp) (by simp)
   ·simp[hA,e1]
    refine av (Zhs (by omega)) ?_
    rintro v h2 n2 k2 rfl
    by_cases hD:ij d=true
    ·by_cases h48:d=[48]
     ·subst h48
      simp[z0]
      exact fin _ _ _ false (k1.trans k2) (by simp[fP]) (by simp) (by simp) (by simp) (by simp)
     ·have e8:(d==[48])=false:=by simp[h48]
      have e9:(d==[49])=decide (d=[49]):=by by_cases h:d=[49]<;>simp[h]
      simp[hD,e8]
      exact fin _ _ _ (!(d==[49])) (k1.trans k2) (by simp[fP,hA,hD,h48,JC,e9]) (by simp) (by simp) (by simp) (by simp)
    ·have hD:ij d=false:=by simpa using hD
     simp[hD]
     exact fin _ _ _ false (k1.trans k2) (by simp[fP,hD]) (by simp) (by simp) (by simp) (by simp)
 ·have hA:ij p=false:=by simpa using hA
  cases br
  ·simp[hA]
   exact fin _ _ _ false k1 (by simp[fP,hA]) (by simp) (by simp) (by simp) (by simp)
  ·simp[hA]
   exact fin _ _ _ false k1 (by simp[fP,hA]) (by simp) (by simp) (by simp) (by simp)
end
end Go.Mx
