/-
  num.Int: Pow, Read.
-/
import Derived.Test.YtlbophlgohokkaaGreatDoorNbC
import Derived.Test.YtlbophlgohokkaaGreatDoorPaP
set_option linter.all false
namespace Go.Mx
open Go Go.Proofs
variable {M N a k o:Nat} {h:T O} {s:a_}
set_option maxHeartbeats 2000000
set_option maxRecDepth 1000000
def A.iW:aq:=.seq (sr [mv 7 1,bc 8 .gtr 7 0]
 (cd 8
 (.skip)
 (.exit 0)))
 (.seq (.block 1 (.seq (sr [mv 11 1,bc 12 .and 11 1,ei 13 12 1]
 (cd 13
 (.aM [lN 14 2 5,lN 15 2 2,c2 16 157 14 15,⟨none,.store 2 (.tmp 5) (.tmp 16),none⟩])
 (.skip)))
 (sr [mv 17 1,bc 18 .gtr 17 1]
 (cd 18
 (.aM [lN 19 2 2,lN 20 2 2,c2 21 157 19 20,⟨none,.store 2 (.tmp 2) (.tmp 21),none⟩])
 (.skip)))))
 (.aM [mv 9 1,⟨(some 10),.bin .shr (.node []) false (.tmp 9) (.const (.int .u64 1)),none⟩,mv 1 10]))
def A.b256:aq:=sr [bx 2 112 0,⟨(some 4),.alloc [(.int .i64 0),.aa] 112,none⟩]
 (sr [⟨(some 6),.call (.const (.func 190 [] [])) [(.const (.int .i64 1))],none⟩,⟨(some 5),.alloc [(.int .i64 0),.aa] 112,none⟩,⟨none,.store 2 (.tmp 5) (.tmp 6),none⟩]
 (.seq (.block 0 (.loop A.iW))
 (sr [lN 22 2 5,⟨none,.store 2 (.tmp 4) (.tmp 22),none⟩]
 (.ret))))
theorem A.c256:A.F 256=some ⟨23,[.cell 4 (some 2)],A.b256⟩:=by kernel_rfl
def A.k256:=@A.kk 256 _ _ _ A.c256 rfl
def A.kR:aq:=.seq (sr [mv 13 0,⟨(some 14),.len 0 (.tmp 13),none⟩,bc 15 .gtr 14 0]
 (cd 15
 (.skip)
 (.exit 0)))
 (.block 1 (sr [mv 16 0,⟨(some 17),.len 0 (.tmp 16),none⟩,⟨(some 18),.mn [(.const (.int .i64 18)),(.tmp 17)],none⟩,mv 5 18]
 (sr [mv 20 0,mv 21 5,⟨(some 22),.az (.tmp 20) none (some (.tmp 21)),none⟩,c1 23 255 22,mv 19 23,xt 24 19 0,xt 25 19 1,mv 6 24,mv 7 25]
 (.seq (.aV [lN 26 2 4,⟨(some 27),.call (.const (.func 190 [] [])) [(.const (.int .i64 10))],none⟩,mv 28 5,c2 29 256 27 28,c2 30 157 26 29,mv 31 6,c1 32 190 31,c2 33 192 30 32,⟨none,.store 2 (.tmp 4) (.tmp 33),none⟩] [0,0,0,6,15,0,63,127,255])
 (.aM [mv 34 0,mv 35 5,⟨(some 36),.az (.tmp 34) (some (.tmp 35)) none,none⟩,mv 0 36])))))
def A.b211:aq:=sr [⟨(some 2),.alloc [(.int .i64 0),.aa] 112,none⟩]
 (sr [mv 8 0,⟨(some 9),.call (.const (.func 254 [] [])) [(.tmp 8),(.const (.str [45]))],none⟩,mv 3 9]
 (sr [mv 10 0,⟨(some 11),.call (.const (.func 240 [] [])) [(.tmp 10),(.const (.str [45]))],none⟩,mv 0 11]
 (sr [⟨(some 12),.build [(.int .i64 0),.aa] [],none⟩,⟨(some 4),.alloc [(.int .i64 0),.aa] 112,none⟩,⟨none,.store 2 (.tmp 4) (.tmp 12),none⟩]
 (.seq (.block 0 (.loop A.kR))
 (.seq (sr [mv 37 3]
 (cd 37
 (sr [lN 38 2 4,c1 39 218 38,⟨none,.store 2 (.tmp 2) (.tmp 39),none⟩]
 (.ret))
 (.skip)))
 (sr [lN 40 2 4,⟨none,.store 2 (.tmp 2) (.tmp 40),none⟩]
 (.ret)))))))
theorem A.c211:A.F 211=some ⟨41,[.cell 2 (some 2)],A.b211⟩:=by kernel_rfl
def A.k211:=@A.kk 211 _ _ _ A.c211 rfl
theorem Ye9(h:o*a^k=M)(ha:1<=a)(ho:1<=o)(hk:1<=k):o*a<=M/\a<=M/\o<=M:=by
 have h1:a^1<=a^k:=qx ha hk
 rw[Nat.pow_one]at h1
 have h2:o*a<=o*a^k:=jo o h1
 have h3:1*a<=o*a:=jn a ho
 have h4:o*1<=o*a:=jo o ha
 omega
theorem Ynr(h:o*a^k=M)(ha:1<=a)(ho:1<=o)(hk:1<k):a*a<=M:=by
 have h1:a^2<=a^k:=qx ha hk
 have h2:1*a^k<=o*a^k:=jn _ ho
 have h3:a^2=a*a:=by rw[Nat.pow_two]
 omega
theorem Yns(h:o*a^k=M)(hk:k%2=1):(o*a)*(a*a)^(k/2)=M:=by
 rw[<-h,<-Nat.pow_two,<-Nat.pow_mul,Bq]
 congr 1
 conv=>rhs;rw[show k=2*(k/2)+1 by omega,fL]
 rw[gX]
theorem Yj4(h:o*a^k=M)(hk:k%2=0):o*(a*a)^(k/2)=M:=by
 rw[<-h,<-Nat.pow_two,<-Nat.pow_mul,show 2*(k/2)=k by omega]
structure Ns (h:T O) (N q M m:Nat) (r:T V) (st:St):Prop where
 w:ad N st.w=[]
 ae:ab h N st.h st.n
 q1:N+2<=q
 q2:q<st.n
 row:st.h.get (N+1)=some (.cells [.int .i64 0,.aa] 112 true)
 r1:r.get 1=some (.int .i64 m)
 lm:m<4611686018427387904
 ex:∃(n1 n2:Int) (u1 u2:V) (a o:Nat),st.h.get N=some (.cells [.int .i64 n1,u1] 112 true)/\st.h.get q=some (.cells [.int .i64 n2,u2] 112 true)/\In st.h st.n (.agg [.int .i64 n1,u1]) a/\In st.h st.n (.agg [.int .i64 n2,u2]) o/\o*a^m=M/\1<=a/\1<=o/\wl a<10000000000
theorem Yfd{q:Nat}{r0:T V}(hM:wl M<10000000000)(a2:r0.get 2=some (.ptr N 0))(a5:r0.get 5=some (.ptr q 0)):
  ∀x r st,(∀t,iS [(1,1),(7,21)] t=false->r.get t=r0.get t)->Fx [(1,1),(7,21)] r0 23 ⟨r,23,[]⟩->Ns h N q M x r st->Code A.C none A.iW ⟨r,23,[]⟩ st (Rd [(1,1),(7,21)] r0 23 (Ns h N q M) x (fun e r st=>e=.exit 0/\Ns h N q M 0 r st)):=by
 rintro m r ⟨H,n0,W⟩ hr hf ⟨hW,hK,nV,jK,ar,r1,lm,n1,n2,u1,u2,a,o,g0,g1,ha,ho,sN,a1,o1,la⟩
 simp only at hW hK jK ar g0 g1 ha ho
 rw[bA]
 have b1:=Yho (k:=m) (by omega)
 have b2:=Yeu (k:=m)
 by_cases h0:m=0
 ·subst h0
  simp[A.iW,hf,r1]
  exact⟨hW,hK,nV,jK,ar,by simp[r1],by omega,n1,n2,u1,u2,a,o,g0,g1,ha,ho,sN,a1,o1,la⟩
 ·have c1:(0:Int)<(m:Int):=by omega
  have c2:0<m:=by omega
  obtain⟨t1,t2,t3⟩:=Ye9 sN a1 o1 c2
  have lo:wl o<10000000000:=qc (Eo (a:=(o:Int)) (b:=(M:Int)) (by omega)) hM
  have loa:wl ((o*a:Nat):Int)<10000000000:=qc (Eo (a:=((o*a:Nat):Int)) (b:=(M:Int)) (by omega)) hM
  obtain⟨_,_,e5,o5⟩:=ha.cells
  simp only[V.agg.injEq,gK,V.int.injEq,true_and,and_true]at e5
  obtain⟨rfl,rfl⟩:=e5
  unfold V.one at o5
  have iV:¬q<N:=by omega
  by_cases hp:m%2=1
  ·have p1:(m:Int)%2=1:=by omega
   simp[A.iW,hr,r1,a2,a5,c2,b1,hp,g0,g1,aU,aJ]
   refine ax (AI ho ha (by omega) (by omega)) ?_
   rintro v h3 n3 k3 hv
   rw[<-FX]at hv
   obtain⟨n6,u6,rfl,o6⟩:=hv.cells
   unfold V.one at o6
   have iX:=k3.le
   have f0:=(k3.get N (by omega)).trans g0
   have f1:=(k3.get q (by omega)).trans g1
   have f2:=(k3.get (N+1) (by omega)).trans ar
   have d1:¬N=q:=by omega
   have d2:¬N+1=q:=by omega
   have d3:¬q=N:=by omega
   have T3:=(ha.ae k3).aE (c1:=[.int .i64 n6,u6]) (e1:=112) (w1:=true) f1 ho.nu rfl
   have Nt:=hv.aE (c1:=[.int .i64 n6,u6]) (e1:=112) (w1:=true) f1 ho.nu rfl
   have T4:(h3.set q (.cells [.int .i64 n6,u6] 112 true)).get N=some (.cells [.int .i64 n1,u1] 112 true):=by rw[T.ai,au d1];exact f0
   have f1':(h3.set q (.cells [.int .i64 n6,u6] 112 true)).get q=some (.cells [.int .i64 n6,u6] 112 true):=by simp
   have f2':(h3.set q (.cells [.int .i64 n6,u6] 112 true)).get (N+1)=some (.cells [.int .i64 0,.aa] 112 true):=by rw[T.ai,au d2];exact f2
   have kH:=(hK.trans k3).set (i:=q) (o:=.cells [.int .i64 n6,u6] 112 true) (by omega)
   by_cases xX:1<m
   ·have p2:(1:Int)<(m:Int):=by omega
    have t4:=Ynr sN a1 o1 xX
    have T5:wl ((a*a:Nat):Int)<10000000000:=qc (Eo (a:=((a*a:Nat):Int)) (b:=(M:Int)) (by omega)) hM
    generalize hH:h3.set q (.cells [.int .i64 n6,u6] 112 true)=H3 at*
    simp[r1,hr,a2,a5,f1,o6,ag,bW,p2,hH,T4,aU,aJ]
    refine ax (AI T3 T3 (by omega) (by omega)) ?_
    rintro v h4 n4 k4 JX
    rw[<-FX]at JX
    obtain⟨n7,u7,rfl,o7⟩:=JX.cells
    unfold V.one at o7
    have qY:=k4.le
    have e0:=(k4.get N (by omega)).trans T4
    have e1:=(k4.get q (by omega)).trans f1'
    have e2:=(k4.get (N+1) (by omega)).trans f2'
    simp[r1,hr,hf,a2,e0,o7,ag,bW,b2]
    refine⟨m/2,by omega,by simp[ad,hW,iV],(kH.trans k4).set (aS _),nV,by show q<n4;omega,by simp[e2],by simp,by omega,n7,n6,u7,u6,a*a,o*a,by simp,by simp[d3,e1],JX.aE e0 ha.nu rfl,(Nt.ae k4).aE e0 ha.nu rfl,Yns sN hp,yH a1 a1,yH o1 a1,T5⟩
   ·have p2:¬(1:Int)<(m:Int):=by omega
    have m0:m/2=0:=by omega
    have m1':m=1:=by omega
    simp[r1,hr,hf,a5,f1,o6,ag,bW,p2,b2]
    refine⟨m/2,by omega,by simp[ad,hW,iV],kH,nV,by show q<n3;omega,f2',by simp,by omega,n1,n6,u1,u6,a,o*a,T4,f1',T3,Nt,by rw[m0,<-sN,m1'];simp,a1,yH o1 a1,la⟩
  ·have p1:¬(m:Int)%2=1:=by omega
   have p0:m%2=0:=by omega
   have p2:(1:Int)<(m:Int):=by omega
   have xX:1<m:=by omega
   have t4:=Ynr sN a1 o1 xX
   have T5:wl ((a*a:Nat):Int)<10000000000:=qc (Eo (a:=((a*a:Nat):Int)) (b:=(M:Int)) (by omega)) hM
   simp[A.iW,hr,r1,a2,c2,b1,p1,p2,g0,aU,aJ]
   refine ax (AI ha ha (by omega) (by omega)) ?_
   rintro v h3 n3 k3 hv
   rw[<-FX]at hv
   obtain⟨n6,u6,rfl,o6⟩:=hv.cells
   unfold V.one at o6
   have iX:=k3.le
   have f0:=(k3.get N (by omega)).trans g0
   have f1:=(k3.get q (by omega)).trans g1
   have f2:=(k3.get (N+1) (by omega)).trans ar
   have d3:¬q=N:=by omega
   simp[r1,hr,hf,a2,f0,o6,ag,bW,b2]
   refine⟨m/2,by omega,by simp[ad,hW],(hK.trans k3).set (aS _),nV,by show q<n3;omega,by simp[f2],by simp,by omega,n6,n2,u6,u2,a*a,o,by simp,by simp[d3,f1],hv.aE f0 ha.nu rfl,(ho.ae k3).aE f0 ha.nu rfl,Yj4 sN p0,yH a1 a1,o1,T5⟩
theorem Ynt{x:V}(hx:In h N x a)(ha:1<=a)(hk:k<4611686018427387904)(la:wl a<10000000000)(hM:wl ((a^k:Nat):Int)<10000000000):Fn A.C 256 [x,.int .i64 k] h N (fun v h' n'=>In h' n' v ((a^k:Nat):Int)):=by
 intro w
 rw[aR,A.k256 (by simp)]
 obtain⟨n1,u1,rfl,o1⟩:=hx.cells
 have kk:=aL (aL (ab.refl (h:=h) (n:=N)) (.cells [.int .i64 n1,u1] 112 true)) (.cells [.int .i64 0,.aa] 112 true)
 have mR:=hx.ae kk
 unfold V.one at o1
 simp[A.b256,o1]
 refine ax Eh ?_
 rintro _ h1 m1 k1 rfl
 have eR:=k1.le
 have g0:=k1.get N (by omega)
 have g1:=k1.get (N+1) (by omega)
 simp at g0 g1
 have xB:=mR.ae k1
 have d1:¬N=m1:=by omega
 have d2:¬N+1=m1:=by omega
 have iV:¬m1<N:=by omega
 have kE:=(aL (ab.refl (h:=h1) (n:=m1)) (.cells [.int .i64 0,.aa] 112 true)).set (i:=m1) (o:=.cells [.int .i64 1,.aa] 112 true) (aS _)
 simp[ag,bW]
 refine bQ [(1,1),(7,21)] _ (Ns h N m1 (a^k)) k ?_ (Yfd hM (by simp) (by simp)) ?_
 ·refine⟨by simp[ad,iV],((kk.trans k1).trans kE),by omega,by show m1<m1+1;omega,by simp[d2,g1],by simp,hk,n1,1,u1,.aa,a,1,by simp[d1,g0],by simp,xB.ae kE,In.small (by omega) (by omega),by simp,ha,by omega,la⟩
 rintro e r ⟨h5,m5,W5⟩ hr ⟨rfl,hW,hK,nV,jK,ar,r1,lm,n5,n6,u5,u6,a',o,g5,g6,ha5,iC,sN,a1,o1',Cl⟩
 simp only at hW hK jK ar g5 g6 ha5 iC
 obtain⟨_,_,e5,o5⟩:=iC.cells
 simp only[V.agg.injEq,gK,V.int.injEq,true_and,and_true]at e5
 obtain⟨rfl,rfl⟩:=e5
 unfold V.one at o5
 have he:(o:Int)=((a^k:Nat):Int):=by rw[<-sN];simp
 rw[he]at iC
 have iV:¬N+1<N:=by omega
 simp[hr,g6,ar,aU,aJ,ag,bW,o5,aA,hW,iV]
 exact⟨hK.set (by omega),iC.aE ar (by simp) rfl⟩
theorem Ya7(x:a_):∀(y:a_),aB (x++y)=aB x*10^y.length+aB y:=by
 intro y
 generalize hn:y.length=n
 induction n generalizing y with
 |zero=>
  have:y=[]:=qa hn
  subst this;simp[aB]
 |succ n ih=>
  obtain⟨u,d,rfl⟩:∃u d,y=u++[d]:=⟨y.dropLast,y.getLast (by rintro rfl;simp at hn),(Q4 _).symm⟩
  simp at hn
  rw[<-qw,HV,HV,ih u hn,fL]
  grind
theorem Co{n:Nat}(h:n<10^k):wl n<=k:=by
 unfold wl
 apply T6
 have:(10:Nat)^k<=B^k:=CX (by decide) k
 simp;omega
theorem Zpa(h:ct s=true)(k:Nat):ct (s.take k)=true:=by
 unfold ct at*
 rw[m8]at*
 exact fun x hx=>h x (rQ hx)
theorem Zzd(h:ct s=true)(k:Nat):ct (s.drop k)=true:=by
 unfold ct at*
 rw[m8]at*
 exact fun x hx=>h x (List.mem_of_mem_drop hx)
structure Nu (h:T O) (N:Nat) (s:a_) (m:Nat) (r:T V) (st:St):Prop where
 w:ad N st.w=[]
 ae:ab h N st.h st.n
 le:N+2<=st.n
 row:st.h.get N=some (.cells [.int .i64 0,.aa] 112 true)
 ex:∃(cur:a_) (p:Nat) (n1:Int) (u1:V),r.get 0=some (.str cur)/\cur.length=m/\m<=s.length/\ct cur=true/\st.h.get (N+1)=some (.cells [.int .i64 n1,u1] 112 true)/\In st.h st.n (.agg [.int .i64 n1,u1]) p/\aB s=p*10^m+aB cur
theorem Yaq{r0:T V}(hd:ct s=true)(hl:s.length<=100000)(a4:r0.get 4=some (.ptr (N+1) 0)):
  ∀x r st,(∀t,iS [(0,0),(5,7),(13,36)] t=false->r.get t=r0.get t)->Fx [(0,0),(5,7),(13,36)] r0 41 ⟨r,41,[]⟩->Nu h N s x r st->Code A.C none A.kR ⟨r,41,[]⟩ st (Rd [(0,0),(5,7),(13,36)] r0 41 (Nu h N s) x (fun e r st=>e=.exit 0/\Nu h N s 0 r st)):=by
 rintro m r ⟨H,n0,W⟩ hr hf ⟨hW,hK,hle,ar,cur,p,n1,u1,ef,dp,Nv,mV,g1,hp,hv⟩
 simp only at hW hK hle ar g1 hp
 rw[bA]
 by_cases h0:m=0
 ·subst h0
  have:cur=[]:=qa dp
  subst this
  simp[A.kR,hf,ef]
  exact⟨hW,hK,hle,ar,[],p,n1,u1,by simp[ef],rfl,by omega,rfl,g1,hp,hv⟩
 ·obtain⟨n,hn⟩:∃n,n=min 18 m:=⟨_,rfl⟩
  have c1:0<cur.length:=by omega
  have c2:(0:Int)<(cur.length:Int):=by omega
  have c3:(if (cur.length:Int)<18 then (cur.length:Int) else 18)=(n:Int):=by split<;>omega
  have c4:(n:Int)<=(cur.length:Int):=by omega
  have hpv:p<=aB s:=by
   rw[hv]
   have:p*1<=p*10^m:=jo p (wW (by decide))
   omega
  have cg:=yW hd
  have lp:wl (p:Int)<=100000:=p9 (Co (qc hpv cg)) hl
  have T7:=fun (h:T O) (N:Nat)=>Ymk (s:=cur.take n) (h:=h) (N:=N) (Zpa mV n) (by rw[fR];omega) (by rw[fR];omega)
  have l10:wl ((10:Nat):Int)<10000000000:=by decide+kernel
  have lpw:wl ((10^n:Nat):Int)<=19:=Co (Nat.pow_lt_pow_right (by decide) (by omega))
  have Cq:=yW (Zpa mV n)
  have T8:(cur.take n).length=n:=by rw[fR];omega
  rw[T8]at Cq
  have Z1:(10:Nat)^n<=10^18:=qx (by decide) (by omega)
  have e18:(10:Nat)^18=1000000000000000000:=by decide
  have lnv:wl ((aB (cur.take n):Nat):Int)<=18:=p9 (Co Cq) (by omega)
  simp[A.kR,ef,c1,vU,zK,uX,c3,c4,ay]
  refine ax (T7 _ _) ?_
  rintro _ h1 m1 k1 rfl
  have eR:=k1.le
  have f1:=(k1.get (N+1) (by omega)).trans g1
  simp[a4,hr,f1,aU,aJ]
  refine ax Eh ?_
  rintro _ h2 m2 k2 rfl
  have f_:=k2.le
  simp[]
  refine ax (Ynt (In.small (z:=(10:Nat)) (by omega) (by omega)) (by omega) (by omega) l10 (by omega)) ?_
  rintro vp h3 m3 k3 hvp
  have iX:=k3.le
  simp[]
  refine ax (AI (((hp.ae k1).ae k2).ae k3) hvp (by omega) (by omega)) ?_
  rintro vm h4 m4 k4 hvm
  have qY:=k4.le
  have lm:=Eu (p:Int) ((10^n:Nat):Int)
  simp[]
  refine ax Eh ?_
  rintro _ h5 m5 k5 rfl
  have Ev:=k5.le
  simp[]
  refine ax (JR (hvm.ae k5) (In.small (z:=((aB (cur.take n):Nat):Int)) (by omega) (by omega)) (by omega) (by omega)) ?_
  rintro va h6 m6 k6 T9
  have zaw:=k6.le
  have k26:=(((k2.trans k3).trans k4).trans k5).trans k6
  have e1:=(k26.get (N+1) (by omega)).trans f1
  have e2:=(k26.get N (by omega)).trans ((k1.get N (by omega)).trans ar)
  obtain⟨n6,u6,rfl,o6⟩:=T9.cells
  unfold V.one at o6
  have z1:N+1<m1:=by omega
  have z2:N+1<m6:=by omega
  have z3:¬N+1<N:=by omega
  have z4:N+1<m5:=by omega
  simp[hr,hf,a4,ef,e1,o6,z1,z2,z4,ag,bW,ay,c4,dw.dB]
  have Jj:(p:Int)*((10^n:Nat):Int)+((aB (cur.take n):Nat):Int)=((p*10^n+aB (cur.take n):Nat):Int):=by simp
  rw[Jj]at T9
  refine⟨m-n,by omega,by simp[ad,hW,z3],((hK.trans k1).trans k26).set (by omega),by show N+2<=m6;omega,by simp[e2],cur.drop n,p*10^n+aB (cur.take n),n6,u6,by simp,by rw[wX];omega,by omega,Zzd mV n,by simp,T9.aE e1 hp.nu rfl,?_⟩
  have h1:=Ya7 (cur.take n) (cur.drop n)
  rw[yD,wX,dp]at h1
  rw[hv,h1,iE,Bq,<-jH,show n+(m-n)=m by omega]
  omega
theorem Yar{s:a_}{h:T O}{N:Nat}(hd:ct (bp s)=true)(hl:(bp s).length<=100000):Fn A.C 211 [.str s] h N (fun v h' n'=>In h' n' v (if cv s=true then -(aB (bp s):Int) else (aB (bp s):Int))):=by
 intro w
 rw[aR,A.k211 (by simp)]
 simp[A.b211,Zr5,Zje,ag]
 refine bQ [(0,0),(5,7),(13,36)] _ (Nu h N (bp s)) (bp s).length ?_ (Yaq hd hl (by simp)) ?_
 ·have kk:=(aL (aL (ab.refl (h:=h) (n:=N)) (.cells [.int .i64 0,.aa] 112 true)) (.cells [.int .i64 0,.aa] 112 true)).set (i:=N+1) (o:=.cells [.int .i64 0,.aa] 112 true) (by omega)
  exact⟨by simp[ad],kk,aS _,by simp,bp s,0,0,.aa,by simp,rfl,aS _,hd,by simp,In.small (by omega) (by omega),by simp⟩
 rintro e r ⟨h5,m5,W5⟩ hr ⟨rfl,hW,hK,hle,ar,cur,p,n1,u1,ef,dp,Nv,mV,g1,hp,hv⟩
 simp only at hW hK hle ar g1 hp
 have:cur=[]:=qa dp
 subst this
 have hv:aB (bp s)=p:=by rw[hv];simp[aB]
 have lp:wl (p:Int)<=100000:=by rw[<-hv];exact p9 (Co (yW hd)) hl
 obtain⟨_,_,e5,o5⟩:=hp.cells
 simp only[V.agg.injEq,gK,V.int.injEq,true_and,and_true]at e5
 obtain⟨rfl,rfl⟩:=e5
 unfold V.one at o5
 have iV:¬N<N:=by omega
 cases hn:cv s with
 |true=>
  simp[hr,hn,g1,aU,aJ]
  refine ax (GU hp (by omega)) ?_
  rintro v h6 m6 k6 hv6
  obtain⟨n6,u6,rfl,o6⟩:=hv6.cells
  unfold V.one at o6
  have e0:=(k6.get N (by omega)).trans ar
  have uA:=k6.le
  simp[hr,e0,o6,aU,aJ,ag,bW,aA,hW]
  exact⟨(hK.trans k6).set (aS _),by rw[hv];exact hv6.aE e0 (by simp) rfl⟩
 |false=>
  simp[hr,hn,g1,ar,o5,aU,aJ,ag,bW,aA,hW]
  exact⟨hK.set (aS _),by rw[hv];exact hp.aE ar (by simp) rfl⟩
variable {N:Nat} {h:T O} {w:List Nat}
def A.pg:aq:=sr [bi 8 .lss 7 6]
 (.seq (cd 8
 (.skip)
 (.exit 0))
 (.seq (.block 1 (sr [ia 9 1 5 7,ld 10 9,mv 4 10]
 (sr [mv 11 4,ni 12 11 0]
 (cd 12
 (sr [mv 13 4,mv 2 13]
 (.ret))
 (.skip)))))
 (.aM [bc 14 .add 7 1,mv 7 14])))
def A.b74:aq:=sr [mc 2 0]
 (.seq (sr [mv 5 0,ln 6 5,mc 7 0]
 (.block 0 (.loop A.pg)))
 (sr [mc 2 0]
 (.ret)))
theorem A.c74:A.F 74=some ⟨15,[.tmp 2],A.b74⟩:=by kernel_rfl
def A.k74:=@A.kk 74 _ _ _ A.c74 rfl
def A.kV:aq:=sr [bi 8 .lss 7 6]
 (.seq (cd 8
 (.skip)
 (.exit 0))
 (.seq (.block 1 (sr [ia 9 1 5 7,ld 10 9,mv 4 10]
 (sr [mv 11 4,ni 12 11 0]
 (cd 12
 (sr [mv 13 4,mv 2 13]
 (.ret))
 (.skip)))))
 (.aM [bc 14 .add 7 1,mv 7 14])))
def A.b214:aq:=sr [mc 2 0]
 (.seq (sr [mv 5 0,ln 6 5,mc 7 0]
 (.block 0 (.loop A.kV)))
 (sr [mc 2 0]
 (.ret)))
theorem A.c214:A.F 214=some ⟨15,[.tmp 2],A.b214⟩:=by kernel_rfl
def A.k214:=@A.kk 214 _ _ _ A.c214 rfl
theorem Ygn{v:V}{l:List Int}(hs:Sl h N v (dI l))(hl:l.length<1000):A.C.call (.func 74 [] []) [v] ⟨h,N,w⟩=some (.int .i64 (cn l),⟨h,N,w⟩):=by
 apply Call.eq
 have hlen:=hs.len
 rw[gk]at hlen
 rw[aR,A.k74 (by simp)]
 simp[A.b74,hlen]
 refine bQ [(2,2),(4,4),(7,14)] (fun e r st=>st=⟨h,N,[]⟩/\((e=.exit 0/\cn l=0)\/(e=.ret/\r.get 2=some (.int .i64 (cn l))))) (fun m r st=>st=⟨h,N,[]⟩/\∃k,m=l.length-k/\k<=l.length/\r.get 7=some (.int .i64 k)/\cn l=cn (l.drop k)) l.length ?_ ?_ ?_
 ·exact⟨rfl,0,by omega,by omega,by simp,by simp⟩
 ·rintro m r _ hr hf ⟨rfl,k,rfl,hk,h7,hz⟩
  rw[bA]
  by_cases aD:k<l.length
  ·obtain⟨c,hc⟩:=bV aD
   obtain⟨i,o,cc,e,rw,q1,q2,q3,q4⟩:=hs.at (fU hc)
   rw[ke hc,cn]at hz
   have cK:(k:Int)<(l.length:Int):=by omega
   by_cases h0:c=0
   ·rw[aF h0]at hz
    simp(disch:=first|(simp;done)|omega|(simp only[bl,bG,bh];omega)|rfl) [A.pg,hr,hf,h7,cK,hlen,q1,q3,q4,h0]
    exact⟨_,by omega,k+1,rfl,by omega,by simp,hz⟩
   ·rw[au h0]at hz
    simp[A.pg,hr,hf,h7,cK,hlen,q1,q3,q4,h0,hz]
  ·have:l.drop k=[]:=wU (by omega)
   rw[this,cn]at hz
   have:k=l.length:=by omega
   subst this
   simp[A.pg,hr,hf,h7,hz]
 ·rintro _ r _ hr ⟨rfl,⟨rfl,hz⟩|⟨rfl,h2⟩⟩
  ·simp[hz]
  ·simp[h2]
theorem Yba{v:V}{l:List Int}(hs:Sl h N v (dI l))(hl:l.length<1000):A.C.call (.func 214 [] []) [v] ⟨h,N,w⟩=some (.int .i64 (cn l),⟨h,N,w⟩):=by
 apply Call.eq
 have hlen:=hs.len
 rw[gk]at hlen
 rw[aR,A.k214 (by simp)]
 simp[A.b214,hlen]
 refine bQ [(2,2),(4,4),(7,14)] (fun e r st=>st=⟨h,N,[]⟩/\((e=.exit 0/\cn l=0)\/(e=.ret/\r.get 2=some (.int .i64 (cn l))))) (fun m r st=>st=⟨h,N,[]⟩/\∃k,m=l.length-k/\k<=l.length/\r.get 7=some (.int .i64 k)/\cn l=cn (l.drop k)) l.length ?_ ?_ ?_
 ·exact⟨rfl,0,by omega,by omega,by simp,by simp⟩
 ·rintro m r _ hr hf ⟨rfl,k,rfl,hk,h7,hz⟩
  rw[bA]
  by_cases aD:k<l.length
  ·obtain⟨c,hc⟩:=bV aD
   obtain⟨i,o,cc,e,rw,q1,q2,q3,q4⟩:=hs.at (fU hc)
   rw[ke hc,cn]at hz
   have cK:(k:Int)<(l.length:Int):=by omega
   by_cases h0:c=0
   ·rw[aF h0]at hz
    simp(disch:=first|(simp;done)|omega|(simp only[bl,bG,bh];omega)|rfl) [A.kV,hr,hf,h7,cK,hlen,q1,q3,q4,h0]
    exact⟨_,by omega,k+1,rfl,by omega,by simp,hz⟩
   ·rw[au h0]at hz
    simp[A.kV,hr,hf,h7,cK,hlen,q1,q3,q4,h0,hz]
  ·have:l.drop k=[]:=wU (by omega)
   rw[this,cn]at hz
   have:k=l.length:=by omega
   subst this
   simp[A.kV,hr,hf,h7,hz]
 ·rintro _ r _ hr ⟨rfl,⟨rfl,hz⟩|⟨rfl,h2⟩⟩
  ·simp[hz]
  ·simp[h2]
theorem Zip{i:Nat}{a0 a1:Int}(hi:i<N):A.C.call (.func 214 [] []) [.slice i 0 2 (some 2) 1] ⟨h.set i (.cells [.int .i64 a0,.int .i64 a1] 27 true),N,w⟩=some (.int .i64 (cn [a0,a1]),⟨h.set i (.cells [.int .i64 a0,.int .i64 a1] 27 true),N,w⟩):=
 Yba (l:=[a0,a1]) (Sl.row (e:=27) (rw:=true) (cp:=some 2) hi (by simp[dI]) rfl (by simp)) (by simp)
variable {s:a_}
set_option maxHeartbeats 1000000
def A.dE:aq:=.seq (sr [mv 46 8,⟨(some 47),.un .not (.tmp 46),none⟩,⟨(some 48),.call (.const (.func 215 [] [])) [(.tmp 47),(.const (.int .i64 1))],none⟩,mv 49 5,⟨(some 50),.len 0 (.tmp 49),none⟩,bc 51 .gtr 50 600,mv 52 51,mh 53 6 52,⟨(some 54),.len 0 (.tmp 53),(some (52,false))⟩,⟨(some 55),.bin .gtr (.node []) false (.tmp 54) (.const (.int .i64 600)),(some (52,false))⟩,pt 56 52 55,⟨(some 57),.call (.const (.func 215 [] [])) [(.tmp 56),(.const (.int .i64 4))],none⟩,⟨(some 58),.aO 27 1 2 [(.int .i64 0),(.int .i64 0)] [(0,1,(.tmp 48)),(1,1,(.tmp 57))],none⟩,c1 59 214 58,mv 9 59]
 (sr [mv 60 9,ni 61 60 0]
 (cd 61
 (sr [mv 62 9,mv 2 62]
 (.ret))
 (.skip))))
 (sr [mv 63 7,mv 64 63,mg 65 5 64,⟨(some 66),.call (.const (.func 211 [] [])) [(.tmp 65)],(some (64,true))⟩,mg 67 6 64,⟨(some 68),.call (.const (.func 211 [] [])) [(.tmp 67)],(some (64,true))⟩,⟨(some 69),.call (.const (.func 216 [] [])) [(.tmp 66),(.tmp 68)],(some (64,true))⟩,⟨(some 70),.call (.const (.func 190 [] [])) [(.const (.int .i64 1))],(some (64,true))⟩,⟨(some 71),.call (.const (.func 217 [] [])) [(.tmp 69),(.tmp 70)],(some (64,true))⟩,⟨(some 72),.bin .neq (.aI .int) true (.tmp 71) (.const (.int .i64 0)),(some (64,true))⟩,pf 73 64 72,mv 10 73]
 (sr [mv 74 10,⟨(some 75),.call (.const (.func 215 [] [])) [(.tmp 74),(.const (.int .i64 1))],none⟩,mv 2 75]
 (.ret)))
def A.b151:aq:=sr [mc 2 0]
 (sr [mv 12 0,⟨(some 13),.call (.const (.func 212 [] [])) [(.tmp 12),(.const (.str [45]))],none⟩,mv 11 13,xt 14 11 0,xt 15 11 1,mv 3 14,mv 4 15]
 (sr [mv 17 3,⟨(some 18),.call (.const (.func 210 [] [])) [(.tmp 17),(.const (.str [47]))],none⟩,mv 16 18,xt 19 16 0,xt 20 16 1,xt 21 16 2,mv 5 19,mv 6 20,mv 7 21]
 (sr [mv 22 5,c1 23 213 22,mv 24 23,mg 25 4 24,⟨(some 26),.un .not (.tmp 25),(some (24,true))⟩,mg 27 26 24,mh 28 5 27,⟨(some 29),.bin .neq (.aI .str) true (.tmp 28) (.const (.str [48])),(some (27,false))⟩,⟨(some 30),.pick (.tmp 27) (.const (.bool true)) (.tmp 29),(some (24,true))⟩,pf 31 24 30,mv 8 31]
 (.seq (sr [mv 32 7]
 (cd 32
 (.aM [mv 33 8,mv 34 33,mg 35 6 34,⟨(some 36),.call (.const (.func 213 [] [])) [(.tmp 35)],(some (34,true))⟩,pf 37 34 36,mv 38 37,mg 39 6 38,⟨(some 40),.bin .neq (.aI .str) true (.tmp 39) (.const (.str [48])),(some (38,true))⟩,pf 41 38 40,mv 42 41,mg 43 6 42,⟨(some 44),.bin .neq (.aI .str) true (.tmp 43) (.const (.str [49])),(some (42,true))⟩,pf 45 42 44,mv 8 45])
 (.skip)))
 A.dE))))
theorem A.c151:A.F 151=some ⟨76,[.tmp 2],A.b151⟩:=by kernel_rfl
def A.k151:=@A.kk 151 _ _ _ A.c151 rfl
theorem Zr2{s:a_}(h:gS s=true):ct s=true/\1<=s.length:=by
 cases s with
 |nil=>cases h
 |cons c s=>
  unfold gS at h
  rw[gW]at h
  exact⟨h.1,by simp⟩
def mC(form br:Bool)(p d:a_):Nat:=if form=false then 1 else if 600<p.length\/600<d.length then 4 else if br=true/\Nat.gcd (aB p) (aB d)≠1 then 1 else 0
theorem Yfp{s:a_}(h:ct s=true):cv s=false/\bp s=s:=by
 cases s with
 |nil=>exact⟨rfl,rfl⟩
 |cons c s=>
  have hc:jh c=true:=by simp[ct]at h;exact h.1
  unfold jh at hc
  simp only[decide_eq_true_eq]at hc
  have:cv (c::s)=false:=by simp[cv];omega
  refine⟨this,?_⟩
  unfold bp;rw[this];rfl
theorem Zvl{h:T O}{N:Nat}(hd:ct s=true)(hl:s.length<=100000):Fn A.C 211 [.str s] h N (fun v h' n'=>In h' n' v (aB s:Nat)):=by
 obtain⟨h1,h2⟩:=Yfp hd
 have:=Yar (s:=s) (h:=h) (N:=N) (by rw[h2];exact hd) (by rw[h2];exact hl)
 rw[h1,h2]at this
 exact this
theorem Ymb{H:T O}{n:Nat}{r0:T V}{p d:a_}{form br:Bool}(hp:form=true->ct p=true)(hd:form=true->br=true->ct d=true)(lp:p.length<=100000)(ld:d.length<=100000)(a5:r0.get 5=some (.str p))(a6:r0.get 6=some (.str d))(a7:r0.get 7=some (.bool br))(a8:r0.get 8=some (.bool form)):
  Code A.C none A.dE ⟨r0,76,[]⟩ ⟨H,n,[]⟩ (fun e fr st=>e=.ret/\∃r,fr=⟨r,76,[]⟩/\r.get 2=some (.int .i64 (mC form br p d:Nat))/\ad n st.w=[]/\ab H n st.h st.n):=by
 rw[bA]
 cases form with
 |false=>
  by_cases c1:600<p.length
  ·have c1':(600:Int)<(p.length:Int):=by omega
   simp[A.dE,a5,a8,AH,c1',ag,Zip,cn,mC]
   exact aL ab.refl _
  ·have c1':¬(600:Int)<(p.length:Int):=by omega
   by_cases c2:600<d.length
   ·have c2':(600:Int)<(d.length:Int):=by omega
    simp[A.dE,a5,a6,a8,AH,c1',c2',ag,Zip,cn,mC]
    exact aL ab.refl _
   ·have c2':¬(600:Int)<(d.length:Int):=by omega
    simp[A.dE,a5,a6,a8,AH,c1',c2',ag,Zip,cn,mC]
    exact aL ab.refl _
 |true=>
  by_cases c1:600<p.length
  ·have c1':(600:Int)<(p.length:Int):=by omega
   simp[A.dE,a5,a8,AH,c1,c1',ag,Zip,cn,mC]
   exact aL ab.refl _
  ·have c1':¬(600:Int)<(p.length:Int):=by omega
   by_cases c2:600<d.length
   ·have c2':(600:Int)<(d.length:Int):=by omega
    simp[A.dE,a5,a6,a8,AH,c1,c2,c1',c2',ag,Zip,cn,mC]
    exact aL ab.refl _
   ·have c2':¬(600:Int)<(d.length:Int):=by omega
    have c3:¬(600<p.length\/600<d.length):=by omega
    cases br with
    |false=>
     simp[A.dE,a5,a6,a7,a8,AH,c1,c2,c1',c2',ag,Zip,cn,mC]
     exact aL ab.refl _
    |true=>
     have lwp:wl ((aB p:Nat):Int)<=100000:=p9 (Co (yW (hp rfl))) lp
     have lwd:wl ((aB d:Nat):Int)<=100000:=p9 (Co (yW (hd rfl rfl))) ld
     simp[A.dE,a5,a6,a7,a8,AH,c1',c2',ag,Zip,cn]
     have kz:=aL (ab.refl (h:=H) (n:=n)) (.cells [.int .i64 0,.int .i64 0] 27 true)
     refine ax (Zvl (hp rfl) (by omega)) ?_
     rintro v3 h3 n3 k3 Nt
     simp[a6]
     refine ax (Zvl (hd rfl rfl) (by omega)) ?_
     rintro v4 h4 n4 k4 JX
     simp[]
     refine ax (Yil (Nt.ae k4) JX (by omega) (by omega)) ?_
     rintro v5 h5 n5 k5 hv5
     simp[]
     refine ax Eh ?_
     rintro _ h6 n6 k6 rfl
     simp[]
     have hg:Int.gcd (aB p:Nat) (aB d:Nat)=Nat.gcd (aB p) (aB d):=rfl
     rw[hg]at hv5
     have lg:wl ((Nat.gcd (aB p) (aB d):Nat):Int)<100000000000:=by
      by_cases hz:aB p=0
      ·rw[hz,Nat.gcd_zero_left];omega
      ·have:=Eo (a:=((Nat.gcd (aB p) (aB d):Nat):Int)) (b:=((aB p:Nat):Int)) (by
        have:=Nat.gcd_le_left (aB d) (show 0<aB p by omega)
        omega)
       omega
     have l1:wl (1:Int)<100000000000:=by decide+kernel
     refine ax (Yoy (hv5.ae k6) (In.small (z:=1) (by omega) (by omega)) lg l1) ?_
     rintro _ h7 n7 k7 rfl
     have kk:=((((kz.trans k3).trans k4).trans k5).trans k6).trans k7
     generalize hgg:Nat.gcd (aB p) (aB d)=g at*
     by_cases g1:g=1
     ·subst g1
      simp[AH,mC,c1,c2,fM,hgg]
      exact kk
     ·have g2:¬fM ((g:Int)-1)=0:=by unfold fM;split<;>(try split)<;>omega
      simp[AH,mC,c1,c2,g1,g2,hgg]
      exact kk
theorem Zwl(hl:s.length<=100000){h:T O}{N:Nat}:Fn A.C 151 [.str s] h N (fun v _ _=>v=.int .i64 (bk s:Nat)):=by
 intro w
 have hb:(bp s).length<=s.length:=by unfold bp;split<;>simp
 have hc:=fun st=>Yiu (s:=bp s) (st:=st) (by omega)
 rw[aR,A.k151 (by simp)]
 show bF _ _ _ (Ak (aA (fun v _ _=>v=.int .i64 (GI (cv s) (bp s):Nat)) h N w))
 unfold GI
 have hle:=B3 (bp s)
 have xX:((bp s).take (ah (bp s))).length<=100000:=by simp;omega
 have qH:((bp s).drop (ah (bp s)+1)).length<=100000:=by simp;omega
 simp[A.b151,Zsi,hc]
 generalize cv s=neg at*
 generalize nh:decide (ah (bp s)<(bp s).length)=br at*
 generalize Jj:(bp s).take (ah (bp s))=p at*
 generalize zn:(bp s).drop (ah (bp s)+1)=d at*
 clear nh Jj zn hc
 have dB:ji neg p br d=mC (fJ neg p br d) br p d:=rfl
 rw[dB]
 have fin:∀(h1:T O) (n1:Nat) (r:T V) (form:Bool),ab h N h1 n1->form=fJ neg p br d->r.get 5=some (.str p)->r.get 6=some (.str d)->r.get 7=some (.bool br)->r.get 8=some (.bool form)->bF A.C [.fin [.tmp 2] ⟨h,N,w⟩] (eL (A.C.code none A.dE ⟨r,76,[]⟩ ⟨h1,n1,[]⟩)) (Ak (aA (fun v _ _=>v=.int .i64 (mC (fJ neg p br d) br p d:Nat)) h N w)):=by
  intro h1 n1 r form k1 cZ a5 a6 a7 a8
  refine oU (Ymb (form:=form) (br:=br) (p:=p) (d:=d) ?_ ?_ xX qH a5 a6 a7 a8) ?_
  ·intro hf
   rw[cZ]at hf
   unfold fJ at hf
   simp only[gW]at hf
   exact(Zr2 hf.1.1).1
  ·intro hf Ua
   rw[cZ]at hf
   unfold fJ at hf
   rw[Ua]at hf
   simp only[gW,Bool.not_true,Bool.false_or]at hf
   exact(Zr2 hf.2.1.1).1
  ·rintro e fr ⟨h2,n2,W2⟩ ⟨rfl,r2,rfl,ew,hW,hK⟩
   simp only at hW hK
   have eE:=GR k1.le hW
   simp[ew,aA,eE,cZ]
   exact k1.trans hK
 refine ax (Ub (by omega)) ?_
 rintro v h1 n1 k1 rfl
 have z0:gS [48]=true:=by decide
 by_cases hA:gS p=true
 ·have hB:(neg=true/\p=[48])\/(neg=false)\/(neg=true/\p≠[48]):=by
   cases neg
   ·exact .inr (.inl rfl)
   ·by_cases hq:p=[48]
    ·exact .inl ⟨rfl,hq⟩
    ·exact .inr (.inr ⟨rfl,hq⟩)
  rcases hB with⟨rfl,rfl⟩|rfl|⟨rfl,DX⟩
  ·cases br
   ·simp[z0]
    exact fin _ _ _ false k1 (by simp[fJ]) (by simp) (by simp) (by simp) (by simp)
   ·simp[z0]
    exact fin _ _ _ false k1 (by simp[fJ]) (by simp) (by simp) (by simp) (by simp)
  ·cases br
   ·simp[hA]
    exact fin _ _ _ true k1 (by simp[fJ,hA]) (by simp) (by simp) (by simp) (by simp)
   ·simp[hA]
    refine ax (Ub (by omega)) ?_
    rintro v h2 n2 k2 rfl
    by_cases hD:gS d=true
    ·by_cases h48:d=[48]
     ·subst h48
      simp[z0]
      exact fin _ _ _ false (k1.trans k2) (by simp[fJ]) (by simp) (by simp) (by simp) (by simp)
     ·have e8:(d==[48])=false:=by simp[h48]
      have e9:(d==[49])=decide (d=[49]):=by by_cases h:d=[49]<;>simp[h]
      simp[hD,e8]
      exact fin _ _ _ (!(d==[49])) (k1.trans k2) (by simp[fJ,hA,hD,h48,e9]) (by simp) (by simp) (by simp) (by simp)
    ·have hD:gS d=false:=by simpa using hD
     simp[hD]
     exact fin _ _ _ false (k1.trans k2) (by simp[fJ,hD]) (by simp) (by simp) (by simp) (by simp)
  ·have e1:(p==[48])=false:=by simp[DX]
   cases br
   ·simp[hA,e1]
    exact fin _ _ _ true k1 (by simp[fJ,hA,DX]) (by simp) (by simp) (by simp) (by simp)
   ·simp[hA,e1]
    refine ax (Ub (by omega)) ?_
    rintro v h2 n2 k2 rfl
    by_cases hD:gS d=true
    ·by_cases h48:d=[48]
     ·subst h48
      simp[z0]
      exact fin _ _ _ false (k1.trans k2) (by simp[fJ]) (by simp) (by simp) (by simp) (by simp)
     ·have e8:(d==[48])=false:=by simp[h48]
      have e9:(d==[49])=decide (d=[49]):=by by_cases h:d=[49]<;>simp[h]
      simp[hD,e8]
      exact fin _ _ _ (!(d==[49])) (k1.trans k2) (by simp[fJ,hA,hD,h48,DX,e9]) (by simp) (by simp) (by simp) (by simp)
    ·have hD:gS d=false:=by simpa using hD
     simp[hD]
     exact fin _ _ _ false (k1.trans k2) (by simp[fJ,hD]) (by simp) (by simp) (by simp) (by simp)
 ·have hA:gS p=false:=by simpa using hA
  cases br
  ·simp[hA]
   exact fin _ _ _ false k1 (by simp[fJ,hA]) (by simp) (by simp) (by simp) (by simp)
  ·simp[hA]
   exact fin _ _ _ false k1 (by simp[fJ,hA]) (by simp) (by simp) (by simp) (by simp)
end Go.Mx
