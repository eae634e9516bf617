/-
  num.Int: Pow, Read.
-/
import Derived.Test.YtlbophlgohokkaaGreatDoorNbC
import Derived.Test.YtlbophlgohokkaaGreatDoorPaP
import Derived.Test.YtlbophlgohokkaaGreatDoorMxRg
import Derived.Test.YtlbophlgohokkaaGreatDoorRcK
import Derived.Test.YtlbophlgohokkaaGreatDoorMxWord
set_option linter.all false
namespace Go.Mx
open Go Go.Proofs
variable {M N a k o:Nat} {h:T O} {s:Str}
set_option maxHeartbeats 2000000
set_option maxRecDepth 1000000
def A.lb256_0:Zae:=.seq (sr [mv 7 1,bc 8 .gtr 7 0]
 (cd 8
 (.skip)
 (.exit 0)))
 (.seq (.block 1 (.seq (sr [mv 11 1,bc 12 .and 11 1,ei 13 12 1]
 (cd 13
 (.reg [lN 14 2 5,lN 15 2 2,c2 16 157 14 15,⟨none,.store 2 (.tmp 5) (.tmp 16),none⟩])
 (.skip)))
 (sr [mv 17 1,bc 18 .gtr 17 1]
 (cd 18
 (.reg [lN 19 2 2,lN 20 2 2,c2 21 157 19 20,⟨none,.store 2 (.tmp 2) (.tmp 21),none⟩])
 (.skip)))))
 (.reg [mv 9 1,⟨(some 10),.bin .shr (.node []) false (.tmp 9) (.const (.int .u64 1)),none⟩,mv 1 10]))
def A.b256:Zae:=sr [bx 2 112 0,⟨(some 4),.alloc [(.int .i64 0),.nilslice] 112,none⟩]
 (sr [⟨(some 6),.call (.const (.func 190 [] [])) [(.const (.int .i64 1))],none⟩,⟨(some 5),.alloc [(.int .i64 0),.nilslice] 112,none⟩,⟨none,.store 2 (.tmp 5) (.tmp 6),none⟩]
 (.seq (.block 0 (.loop A.lb256_0))
 (sr [lN 22 2 5,⟨none,.store 2 (.tmp 4) (.tmp 22),none⟩]
 (.ret))))
theorem A.c256:A.F 256=some ⟨23,[.cell 4 (some 2)],A.b256⟩:=by kernel_rfl
def A.k256:=@A.kk 256 _ _ _ A.c256 rfl
def A.lb211_0:Zae:=.seq (sr [mv 13 0,⟨(some 14),.len 0 (.tmp 13),none⟩,bc 15 .gtr 14 0]
 (cd 15
 (.skip)
 (.exit 0)))
 (.block 1 (sr [mv 16 0,⟨(some 17),.len 0 (.tmp 16),none⟩,⟨(some 18),.mn [(.const (.int .i64 18)),(.tmp 17)],none⟩,mv 5 18]
 (sr [mv 20 0,mv 21 5,⟨(some 22),.sliceStr (.tmp 20) none (some (.tmp 21)),none⟩,c1 23 255 22,mv 19 23,xt 24 19 0,xt 25 19 1,mv 6 24,mv 7 25]
 (.seq (.regD [lN 26 2 4,⟨(some 27),.call (.const (.func 190 [] [])) [(.const (.int .i64 10))],none⟩,mv 28 5,c2 29 256 27 28,c2 30 157 26 29,mv 31 6,c1 32 190 31,c2 33 192 30 32,⟨none,.store 2 (.tmp 4) (.tmp 33),none⟩] [0,0,0,6,15,0,63,127,255])
 (.reg [mv 34 0,mv 35 5,⟨(some 36),.sliceStr (.tmp 34) (some (.tmp 35)) none,none⟩,mv 0 36])))))
def A.b211:Zae:=sr [⟨(some 2),.alloc [(.int .i64 0),.nilslice] 112,none⟩]
 (sr [mv 8 0,⟨(some 9),.call (.const (.func 254 [] [])) [(.tmp 8),(.const (.str [45]))],none⟩,mv 3 9]
 (sr [mv 10 0,⟨(some 11),.call (.const (.func 240 [] [])) [(.tmp 10),(.const (.str [45]))],none⟩,mv 0 11]
 (sr [⟨(some 12),.build [(.int .i64 0),.nilslice] [],none⟩,⟨(some 4),.alloc [(.int .i64 0),.nilslice] 112,none⟩,⟨none,.store 2 (.tmp 4) (.tmp 12),none⟩]
 (.seq (.block 0 (.loop A.lb211_0))
 (.seq (sr [mv 37 3]
 (cd 37
 (sr [lN 38 2 4,c1 39 218 38,⟨none,.store 2 (.tmp 2) (.tmp 39),none⟩]
 (.ret))
 (.skip)))
 (sr [lN 40 2 4,⟨none,.store 2 (.tmp 2) (.tmp 40),none⟩]
 (.ret)))))))
theorem A.c211:A.F 211=some ⟨41,[.cell 2 (some 2)],A.b211⟩:=by kernel_rfl
def A.k211:=@A.kk 211 _ _ _ A.c211 rfl
theorem Ycq(h:o*a^k=M)(ha:1≤a)(ho:1≤o)(hk:1≤k):o*a≤M∧a≤M∧o≤M:=by
 have h1:a^1≤a^k:=Yp3 ha hk
 rw[Nat.pow_one]at h1
 have h2:o*a≤o*a^k:=Ypg o h1
 have h3:1*a≤o*a:=Ypk a ho
 have h4:o*1≤o*a:=Ypg o ha
 omega
theorem Yj7(h:o*a^k=M)(ha:1≤a)(ho:1≤o)(hk:1<k):a*a≤M:=by
 have h1:a^2≤a^k:=Yp3 ha hk
 have h2:1*a^k≤o*a^k:=Ypk _ ho
 have h3:a^2=a*a:=by rw[Nat.pow_two]
 omega
theorem Yj8(h:o*a^k=M)(hk:k%2=1):(o*a)*(a*a)^(k/2)=M:=by
 rw[←h,←Nat.pow_two,←Nat.pow_mul,Yse]
 congr 1
 conv=>rhs;rw[show k=2*(k/2)+1 by omega,Ypn]
 rw[Yps]
theorem Yg3(h:o*a^k=M)(hk:k%2=0):o*(a*a)^(k/2)=M:=by
 rw[←h,←Nat.pow_two,←Nat.pow_mul,show 2*(k/2)=k by omega]
structure PwJ (h:T O) (N q M m:Nat) (r:T V) (st:St):Prop where
 w:Zaa N st.w=[]
 keep:Keeps h N st.h st.n
 q1:N+2≤q
 q2:q<st.n
 row:st.h.get (N+1)=some (.cells [.int .i64 0,.nilslice] 112 true)
 r1:r.get 1=some (.int .i64 m)
 lm:m<4611686018427387904
 ex:∃(n1 n2:Int) (u1 u2:V) (a o:Nat),st.h.get N=some (.cells [.int .i64 n1,u1] 112 true)∧st.h.get q=some (.cells [.int .i64 n2,u2] 112 true)∧In st.h st.n (.agg [.int .i64 n1,u1]) a∧In st.h st.n (.agg [.int .i64 n2,u2]) o∧o*a^m=M∧1≤a∧1≤o∧wl a<10000000
theorem Ycs{q:Nat}{r0:T V}(hM:wl M<10000000)(a2:r0.get 2=some (.ptr N 0))(a5:r0.get 5=some (.ptr q 0)):
  ∀x r st,(∀t,inD [(1,1),(7,21)] t=false→r.get t=r0.get t)→Fx [(1,1),(7,21)] r0 23 ⟨r,23,[]⟩→PwJ h N q M x r st→Code A.C none A.lb256_0 ⟨r,23,[]⟩ st (Rd [(1,1),(7,21)] r0 23 (PwJ h N q M) x (fun e r st=>e=.exit 0∧PwJ h N q M 0 r st)):=by
 rintro m r ⟨H,n0,W⟩ hr hf ⟨hW,hK,hq1,hq2,hrow,r1,lm,n1,n2,u1,u2,a,o,g0,g1,ha,ho,hM2,a1,o1,la⟩
 simp only at hW hK hq2 hrow g0 g1 ha ho
 rw[Zah]
 have b1:=Yew (k:=m) (by omega)
 have b2:=Yb6 (k:=m)
 by_cases h0:m=0
 ·subst h0
  simp[A.lb256_0,hf,r1]
  exact⟨hW,hK,hq1,hq2,hrow,by simp[r1],by omega,n1,n2,u1,u2,a,o,g0,g1,ha,ho,hM2,a1,o1,la⟩
 ·have c1:(0:Int)<(m:Int):=by omega
  have c2:0<m:=by omega
  obtain⟨t1,t2,t3⟩:=Ycq hM2 a1 o1 c2
  have lo:wl o<10000000:=Ypx (Zrf (a:=(o:Int)) (b:=(M:Int)) (by omega)) hM
  have loa:wl ((o*a:Nat):Int)<10000000:=Ypx (Zrf (a:=((o*a:Nat):Int)) (b:=(M:Int)) (by omega)) hM
  obtain⟨_,_,e5,o5⟩:=ha.cells
  simp only[V.agg.injEq,Ypi,V.int.injEq,true_and,and_true]at e5
  obtain⟨rfl,rfl⟩:=e5
  unfold V.one at o5
  have wok:¬q<N:=by omega
  by_cases hp:m%2=1
  ·have p1:(m:Int)%2=1:=by omega
   simp[A.lb256_0,hr,r1,a2,a5,c2,b1,hp,g0,g1,Zal,slc]
   refine Zac (Zi6 ho ha (by omega) (by omega)) ?_
   rintro v h3 n3 k3 hv
   rw[←Ysn]at hv
   obtain⟨n6,u6,rfl,o6⟩:=hv.cells
   unfold V.one at o6
   have kle3:=k3.le
   have f0:=(k3.get N (by omega)).trans g0
   have f1:=(k3.get q (by omega)).trans g1
   have f2:=(k3.get (N+1) (by omega)).trans hrow
   have d1:¬N=q:=by omega
   have d2:¬N+1=q:=by omega
   have d3:¬q=N:=by omega
   have ha3:=(ha.keep k3).setNU (c1:=[.int .i64 n6,u6]) (e1:=112) (w1:=true) f1 ho.nu rfl
   have hv3:=hv.setNU (c1:=[.int .i64 n6,u6]) (e1:=112) (w1:=true) f1 ho.nu rfl
   have f0':(h3.set q (.cells [.int .i64 n6,u6] 112 true)).get N=some (.cells [.int .i64 n1,u1] 112 true):=by rw[T.get_set,Yo0 d1];exact f0
   have f1':(h3.set q (.cells [.int .i64 n6,u6] 112 true)).get q=some (.cells [.int .i64 n6,u6] 112 true):=by simp
   have f2':(h3.set q (.cells [.int .i64 n6,u6] 112 true)).get (N+1)=some (.cells [.int .i64 0,.nilslice] 112 true):=by rw[T.get_set,Yo0 d2];exact f2
   have kH:=(hK.trans k3).set (i:=q) (o:=.cells [.int .i64 n6,u6] 112 true) (by omega)
   by_cases hp1:1<m
   ·have p2:(1:Int)<(m:Int):=by omega
    have t4:=Yj7 hM2 a1 o1 hp1
    have laa:wl ((a*a:Nat):Int)<10000000:=Ypx (Zrf (a:=((a*a:Nat):Int)) (b:=(M:Int)) (by omega)) hM
    generalize hH:h3.set q (.cells [.int .i64 n6,u6] 112 true)=H3 at*
    simp[r1,hr,a2,a5,f1,o6,splice,Zak,p2,hH,f0',Zal,slc]
    refine Zac (Zi6 ha3 ha3 (by omega) (by omega)) ?_
    rintro v h4 n4 k4 hv4
    rw[←Ysn]at hv4
    obtain⟨n7,u7,rfl,o7⟩:=hv4.cells
    unfold V.one at o7
    have kle4:=k4.le
    have e0:=(k4.get N (by omega)).trans f0'
    have e1:=(k4.get q (by omega)).trans f1'
    have e2:=(k4.get (N+1) (by omega)).trans f2'
    simp[r1,hr,hf,a2,e0,o7,splice,Zak,b2]
    refine⟨m/2,by omega,by simp[Zaa,hW,wok],(kH.trans k4).set (Yoy _),hq1,by show q<n4;omega,by simp[e2],by simp,by omega,n7,n6,u7,u6,a*a,o*a,by simp,by simp[d3,e1],hv4.setNU e0 ha.nu rfl,(hv3.keep k4).setNU e0 ha.nu rfl,Yj8 hM2 hp,Ysa a1 a1,Ysa o1 a1,laa⟩
   ·have p2:¬(1:Int)<(m:Int):=by omega
    have m0:m/2=0:=by omega
    have m1':m=1:=by omega
    simp[r1,hr,hf,a5,f1,o6,splice,Zak,p2,b2]
    refine⟨m/2,by omega,by simp[Zaa,hW,wok],kH,hq1,by show q<n3;omega,f2',by simp,by omega,n1,n6,u1,u6,a,o*a,f0',f1',ha3,hv3,by rw[m0,←hM2,m1'];simp,a1,Ysa o1 a1,la⟩
  ·have p1:¬(m:Int)%2=1:=by omega
   have p0:m%2=0:=by omega
   have p2:(1:Int)<(m:Int):=by omega
   have hp1:1<m:=by omega
   have t4:=Yj7 hM2 a1 o1 hp1
   have laa:wl ((a*a:Nat):Int)<10000000:=Ypx (Zrf (a:=((a*a:Nat):Int)) (b:=(M:Int)) (by omega)) hM
   simp[A.lb256_0,hr,r1,a2,c2,b1,p1,p2,g0,Zal,slc]
   refine Zac (Zi6 ha ha (by omega) (by omega)) ?_
   rintro v h3 n3 k3 hv
   rw[←Ysn]at hv
   obtain⟨n6,u6,rfl,o6⟩:=hv.cells
   unfold V.one at o6
   have kle3:=k3.le
   have f0:=(k3.get N (by omega)).trans g0
   have f1:=(k3.get q (by omega)).trans g1
   have f2:=(k3.get (N+1) (by omega)).trans hrow
   have d3:¬q=N:=by omega
   simp[r1,hr,hf,a2,f0,o6,splice,Zak,b2]
   refine⟨m/2,by omega,by simp[Zaa,hW],(hK.trans k3).set (Yoy _),hq1,by show q<n3;omega,by simp[f2],by simp,by omega,n6,n2,u6,u2,a*a,o,by simp,by simp[d3,f1],hv.setNU f0 ha.nu rfl,(ho.keep k3).setNU f0 ha.nu rfl,Yg3 hM2 p0,Ysa a1 a1,o1,laa⟩
theorem Yj9{x:V}(hx:In h N x a)(ha:1≤a)(hk:k<4611686018427387904)(la:wl a<10000000)(hM:wl ((a^k:Nat):Int)<10000000):Fn A.C 256 [x,.int .i64 k] h N (fun v h' n'=>In h' n' v ((a^k:Nat):Int)):=by
 intro w
 rw[Zab,A.k256 (by simp)]
 obtain⟨n1,u1,rfl,o1⟩:=hx.cells
 have kk:=kset (kset (Keeps.refl (h:=h) (n:=N)) (.cells [.int .i64 n1,u1] 112 true)) (.cells [.int .i64 0,.nilslice] 112 true)
 have hx':=hx.keep kk
 unfold V.one at o1
 simp[A.b256,o1]
 refine Zac Zvt ?_
 rintro _ h1 m1 k1 rfl
 have kle1:=k1.le
 have g0:=k1.get N (by omega)
 have g1:=k1.get (N+1) (by omega)
 simp at g0 g1
 have hx1:=hx'.keep k1
 have d1:¬N=m1:=by omega
 have d2:¬N+1=m1:=by omega
 have wok:¬m1<N:=by omega
 have kE:=(kset (Keeps.refl (h:=h1) (n:=m1)) (.cells [.int .i64 0,.nilslice] 112 true)).set (i:=m1) (o:=.cells [.int .i64 1,.nilslice] 112 true) (Yoy _)
 simp[splice,Zak]
 refine Zaj [(1,1),(7,21)] _ (PwJ h N m1 (a^k)) k ?_ (Ycs hM (by simp) (by simp)) ?_
 ·refine⟨by simp[Zaa,wok],((kk.trans k1).trans kE),by omega,by show m1<m1+1;omega,by simp[d2,g1],by simp,hk,n1,1,u1,.nilslice,a,1,by simp[d1,g0],by simp,hx1.keep kE,In.small (by omega) (by omega),by simp,ha,by omega,la⟩
 rintro e r ⟨h5,m5,W5⟩ hr ⟨rfl,hW,hK,hq1,hq2,hrow,r1,lm,n5,n6,u5,u6,a',o,g5,g6,ha5,ho5,hM2,a1,o1',la'⟩
 simp only at hW hK hq2 hrow g5 g6 ha5 ho5
 obtain⟨_,_,e5,o5⟩:=ho5.cells
 simp only[V.agg.injEq,Ypi,V.int.injEq,true_and,and_true]at e5
 obtain⟨rfl,rfl⟩:=e5
 unfold V.one at o5
 have he:(o:Int)=((a^k:Nat):Int):=by rw[←hM2];simp
 rw[he]at ho5
 have wok:¬N+1<N:=by omega
 simp[hr,g6,hrow,Zal,slc,splice,Zak,o5,Ret,hW,wok]
 exact⟨hK.set (by omega),ho5.setNU hrow (by simp) rfl⟩
theorem Zy5(x:Str):∀(y:Str),numV (x++y)=numV x*10^y.length+numV y:=by
 intro y
 generalize hn:y.length=n
 induction n generalizing y with
 |zero=>
  have:y=[]:=Yph hn
  subst this;simp[numV]
 |succ n ih=>
  obtain⟨u,d,rfl⟩:∃u d,y=u++[d]:=⟨y.dropLast,y.getLast (by rintro rfl;simp at hn),(Yst _).symm⟩
  simp at hn
  rw[←Yqf,Zgl,Zgl,ih u hn,Ypn]
  grind
theorem Zfj{n:Nat}(h:n<10^k):wl n≤k:=by
 unfold wl
 apply Zfk
 have:(10:Nat)^k≤B^k:=Yr5 (by decide) k
 simp;omega
theorem Znx(h:Zb3 s=true)(k:Nat):Zb3 (s.take k)=true:=by
 unfold Zb3 at*
 rw[Ypv]at*
 exact fun x hx=>h x (Yrr hx)
theorem Zxn(h:Zb3 s=true)(k:Nat):Zb3 (s.drop k)=true:=by
 unfold Zb3 at*
 rw[Ypv]at*
 exact fun x hx=>h x (List.mem_of_mem_drop hx)
structure RdI (h:T O) (N:Nat) (s:Str) (m:Nat) (r:T V) (st:St):Prop where
 w:Zaa N st.w=[]
 keep:Keeps h N st.h st.n
 le:N+2≤st.n
 row:st.h.get N=some (.cells [.int .i64 0,.nilslice] 112 true)
 ex:∃(cur:Str) (p:Nat) (n1:Int) (u1:V),r.get 0=some (.str cur)∧cur.length=m∧m≤s.length∧Zb3 cur=true∧st.h.get (N+1)=some (.cells [.int .i64 n1,u1] 112 true)∧In st.h st.n (.agg [.int .i64 n1,u1]) p∧numV s=p*10^m+numV cur
theorem Zyp{r0:T V}(hd:Zb3 s=true)(hl:s.length≤100000)(a4:r0.get 4=some (.ptr (N+1) 0)):
  ∀x r st,(∀t,inD [(0,0),(5,7),(13,36)] t=false→r.get t=r0.get t)→Fx [(0,0),(5,7),(13,36)] r0 41 ⟨r,41,[]⟩→RdI h N s x r st→Code A.C none A.lb211_0 ⟨r,41,[]⟩ st (Rd [(0,0),(5,7),(13,36)] r0 41 (RdI h N s) x (fun e r st=>e=.exit 0∧RdI h N s 0 r st)):=by
 rintro m r ⟨H,n0,W⟩ hr hf ⟨hW,hK,hle,hrow,cur,p,n1,u1,hr0,hcl,hms,hcd,g1,hp,hv⟩
 simp only at hW hK hle hrow g1 hp
 rw[Zah]
 by_cases h0:m=0
 ·subst h0
  have:cur=[]:=Yph hcl
  subst this
  simp[A.lb211_0,hf,hr0]
  exact⟨hW,hK,hle,hrow,[],p,n1,u1,by simp[hr0],rfl,by omega,rfl,g1,hp,hv⟩
 ·obtain⟨n,hn⟩:∃n,n=min 18 m:=⟨_,rfl⟩
  have c1:0<cur.length:=by omega
  have c2:(0:Int)<(cur.length:Int):=by omega
  have c3:(if (cur.length:Int)<18 then (cur.length:Int) else 18)=(n:Int):=by split<;>omega
  have c4:(n:Int)≤(cur.length:Int):=by omega
  have hpv:p≤numV s:=by
   rw[hv]
   have:p*1≤p*10^m:=Ypg p (Yr1 (by decide))
   omega
  have hsl:=Zdz hd
  have lp:wl (p:Int)≤100000:=Yqk (Zfj (Ypx hpv hsl)) hl
  have hat:=fun (h:T O) (N:Nat)=>Yi8 (s:=cur.take n) (h:=h) (N:=N) (Znx hcd n) (by rw[Ypq];omega) (by rw[Ypq];omega)
  have l10:wl ((10:Nat):Int)<10000000:=by decide+kernel
  have lpw:wl ((10^n:Nat):Int)≤19:=Zfj (Nat.pow_lt_pow_right (by decide) (by omega))
  have hnv:=Zdz (Znx hcd n)
  have htl:(cur.take n).length=n:=by rw[Ypq];omega
  rw[htl]at hnv
  have h18:(10:Nat)^n≤10^18:=Yp3 (by decide) (by omega)
  have e18:(10:Nat)^18=1000000000000000000:=by decide
  have lnv:wl ((numV (cur.take n):Nat):Int)≤18:=Yqk (Zfj hnv) (by omega)
  simp[A.lb211_0,hr0,c1,Zkl,Ydh,Zwb,c3,c4,evOpt]
  refine Zac (hat _ _) ?_
  rintro _ h1 m1 k1 rfl
  have kle1:=k1.le
  have f1:=(k1.get (N+1) (by omega)).trans g1
  simp[a4,hr,f1,Zal,slc]
  refine Zac Zvt ?_
  rintro _ h2 m2 k2 rfl
  have kle2:=k2.le
  simp[]
  refine Zac (Yj9 (In.small (z:=(10:Nat)) (by omega) (by omega)) (by omega) (by omega) l10 (by omega)) ?_
  rintro vp h3 m3 k3 hvp
  have kle3:=k3.le
  simp[]
  refine Zac (Zi6 (((hp.keep k1).keep k2).keep k3) hvp (by omega) (by omega)) ?_
  rintro vm h4 m4 k4 hvm
  have kle4:=k4.le
  have lm:=Zk8 (p:Int) ((10^n:Nat):Int)
  simp[]
  refine Zac Zvt ?_
  rintro _ h5 m5 k5 rfl
  have kle5:=k5.le
  simp[]
  refine Zac (Zrb (hvm.keep k5) (In.small (z:=((numV (cur.take n):Nat):Int)) (by omega) (by omega)) (by omega) (by omega)) ?_
  rintro va h6 m6 k6 hva
  have kle6:=k6.le
  have k26:=(((k2.trans k3).trans k4).trans k5).trans k6
  have e1:=(k26.get (N+1) (by omega)).trans f1
  have e2:=(k26.get N (by omega)).trans ((k1.get N (by omega)).trans hrow)
  obtain⟨n6,u6,rfl,o6⟩:=hva.cells
  unfold V.one at o6
  have z1:N+1<m1:=by omega
  have z2:N+1<m6:=by omega
  have z3:¬N+1<N:=by omega
  have z4:N+1<m5:=by omega
  simp[hr,hf,a4,hr0,e1,o6,z1,z2,z4,splice,Zak,evOpt,c4,Zap.chk]
  have hpe:(p:Int)*((10^n:Nat):Int)+((numV (cur.take n):Nat):Int)=((p*10^n+numV (cur.take n):Nat):Int):=by simp
  rw[hpe]at hva
  refine⟨m-n,by omega,by simp[Zaa,hW,z3],((hK.trans k1).trans k26).set (by omega),by show N+2≤m6;omega,by simp[e2],cur.drop n,p*10^n+numV (cur.take n),n6,u6,by simp,by rw[Yqu];omega,by omega,Zxn hcd n,by simp,hva.setNU e1 hp.nu rfl,?_⟩
  have h1:=Zy5 (cur.take n) (cur.drop n)
  rw[Yq8,Yqu,hcl]at h1
  rw[hv,h1,Yp0,Yse,←Yqc,show n+(m-n)=m by omega]
  omega
theorem Zyq{s:Str}{h:T O}{N:Nat}(hd:Zb3 (Zan s)=true)(hl:(Zan s).length≤100000):Fn A.C 211 [.str s] h N (fun v h' n'=>In h' n' v (if negS s=true then -(numV (Zan s):Int) else (numV (Zan s):Int))):=by
 intro w
 rw[Zab,A.k211 (by simp)]
 simp[A.b211,Zqo,Zn6,splice]
 refine Zaj [(0,0),(5,7),(13,36)] _ (RdI h N (Zan s)) (Zan s).length ?_ (Zyp hd hl (by simp)) ?_
 ·have kk:=(kset (kset (Keeps.refl (h:=h) (n:=N)) (.cells [.int .i64 0,.nilslice] 112 true)) (.cells [.int .i64 0,.nilslice] 112 true)).set (i:=N+1) (o:=.cells [.int .i64 0,.nilslice] 112 true) (by omega)
  exact⟨by simp[Zaa],kk,Yoy _,by simp,Zan s,0,0,.nilslice,by simp,rfl,Yoy _,hd,by simp,In.small (by omega) (by omega),by simp⟩
 rintro e r ⟨h5,m5,W5⟩ hr ⟨rfl,hW,hK,hle,hrow,cur,p,n1,u1,hr0,hcl,hms,hcd,g1,hp,hv⟩
 simp only at hW hK hle hrow g1 hp
 have:cur=[]:=Yph hcl
 subst this
 have hv:numV (Zan s)=p:=by rw[hv];simp[numV]
 have lp:wl (p:Int)≤100000:=by rw[←hv];exact Yqk (Zfj (Zdz hd)) hl
 obtain⟨_,_,e5,o5⟩:=hp.cells
 simp only[V.agg.injEq,Ypi,V.int.injEq,true_and,and_true]at e5
 obtain⟨rfl,rfl⟩:=e5
 unfold V.one at o5
 have wok:¬N<N:=by omega
 cases hn:negS s with
 |true=>
  simp[hr,hn,g1,Zal,slc]
  refine Zac (Zno hp (by omega)) ?_
  rintro v h6 m6 k6 hv6
  obtain⟨n6,u6,rfl,o6⟩:=hv6.cells
  unfold V.one at o6
  have e0:=(k6.get N (by omega)).trans hrow
  have kle:=k6.le
  simp[hr,e0,o6,Zal,slc,splice,Zak,Ret,hW]
  exact⟨(hK.trans k6).set (Yoy _),by rw[hv];exact hv6.setNU e0 (by simp) rfl⟩
 |false=>
  simp[hr,hn,g1,hrow,o5,Zal,slc,splice,Zak,Ret,hW]
  exact⟨hK.set (Yoy _),by rw[hv];exact hp.setNU hrow (by simp) rfl⟩
def A.lb214_0:Zae:=sr [bi 8 .lss 7 6]
 (.seq (cd 8
 (.skip)
 (.exit 0))
 (.seq (.block 1 (sr [ia 9 1 5 7,ld 10 9,mv 4 10]
 (sr [mv 11 4,ni 12 11 0]
 (cd 12
 (sr [mv 13 4,mv 2 13]
 (.ret))
 (.skip)))))
 (.reg [bc 14 .add 7 1,mv 7 14])))
def A.b214:Zae:=sr [mc 2 0]
 (.seq (sr [mv 5 0,ln 6 5,mc 7 0]
 (.block 0 (.loop A.lb214_0)))
 (sr [mc 2 0]
 (.ret)))
theorem A.c214:A.F 214=some ⟨15,[.tmp 2],A.b214⟩:=by kernel_rfl
def A.k214:=@A.kk 214 _ _ _ A.c214 rfl
theorem Zy8{h:T O}{N:Nat}{v:V}{l:List Int}{w:List Nat}(hs:Sl h N v (dI l))(hl:l.length<1000):A.C.call (.func 214 [] []) [v] ⟨h,N,w⟩=some (.int .i64 (Zau l),⟨h,N,w⟩):=by
 apply Call.eq
 have hlen:=hs.len
 rw[Zar]at hlen
 rw[Zab,A.k214 (by simp)]
 simp[A.b214,hlen]
 refine Zaj [(2,2),(4,4),(7,14)] (fun e r st=>st=⟨h,N,[]⟩∧((e=.exit 0∧Zau l=0)∨(e=.ret∧r.get 2=some (.int .i64 (Zau l))))) (fun m r st=>st=⟨h,N,[]⟩∧∃k,m=l.length-k∧k≤l.length∧r.get 7=some (.int .i64 k)∧Zau l=Zau (l.drop k)) l.length ?_ ?_ ?_
 ·exact⟨rfl,0,by omega,by omega,by simp,by simp⟩
 ·rintro m r _ hr hf ⟨rfl,k,rfl,hk,h7,hz⟩
  rw[Zah]
  by_cases hlt:k<l.length
  ·obtain⟨c,hc⟩:=Zaf hlt
   obtain⟨i,o,cc,e,rw,q1,q2,q3,q4⟩:=hs.at (Zbf hc)
   rw[Zas hc,Zau]at hz
   have hk1:(k:Int)<(l.length:Int):=by omega
   by_cases h0:c=0
   ·rw[Yo4 h0]at hz
    simp(disch:=first|(simp;done)|omega|(simp only[Zad,Zag,Yoz];omega)|rfl) [A.lb214_0,hr,hf,h7,hk1,hlen,q1,q3,q4,h0]
    exact⟨_,by omega,k+1,rfl,by omega,by simp,hz⟩
   ·rw[Yo0 h0]at hz
    simp[A.lb214_0,hr,hf,h7,hk1,hlen,q1,q3,q4,h0,hz]
  ·have:l.drop k=[]:=Yqo (by omega)
   rw[this,Zau]at hz
   have:k=l.length:=by omega
   subst this
   simp[A.lb214_0,hr,hf,h7,hz]
 ·rintro _ r _ hr ⟨rfl,⟨rfl,hz⟩|⟨rfl,h2⟩⟩
  ·simp[hz]
  ·simp[h2]
theorem Zh5{h:T O}{N i:Nat}{w:List Nat}{a0 a1:Int}(hi:i<N):A.C.call (.func 214 [] []) [.slice i 0 2 (some 2) 1] ⟨h.set i (.cells [.int .i64 a0,.int .i64 a1] 27 true),N,w⟩=some (.int .i64 (Zau [a0,a1]),⟨h.set i (.cells [.int .i64 a0,.int .i64 a1] 27 true),N,w⟩):=
 Zy8 (l:=[a0,a1]) (Sl.row (e:=27) (rw:=true) (cp:=some 2) hi (by simp[dI]) rfl (by simp)) (by simp)
variable {s:Str}
set_option maxHeartbeats 1000000
def A.ta151_0:Zae:=.seq (sr [mv 46 8,⟨(some 47),.un .not (.tmp 46),none⟩,⟨(some 48),.call (.const (.func 215 [] [])) [(.tmp 47),(.const (.int .i64 1))],none⟩,mv 49 5,⟨(some 50),.len 0 (.tmp 49),none⟩,bc 51 .gtr 50 600,mv 52 51,mh 53 6 52,⟨(some 54),.len 0 (.tmp 53),(some (52,false))⟩,⟨(some 55),.bin .gtr (.node []) false (.tmp 54) (.const (.int .i64 600)),(some (52,false))⟩,pt 56 52 55,⟨(some 57),.call (.const (.func 215 [] [])) [(.tmp 56),(.const (.int .i64 4))],none⟩,⟨(some 58),.bslice 27 1 2 [(.int .i64 0),(.int .i64 0)] [(0,1,(.tmp 48)),(1,1,(.tmp 57))],none⟩,c1 59 214 58,mv 9 59]
 (sr [mv 60 9,ni 61 60 0]
 (cd 61
 (sr [mv 62 9,mv 2 62]
 (.ret))
 (.skip))))
 (sr [mv 63 7,mv 64 63,mg 65 5 64,⟨(some 66),.call (.const (.func 211 [] [])) [(.tmp 65)],(some (64,true))⟩,mg 67 6 64,⟨(some 68),.call (.const (.func 211 [] [])) [(.tmp 67)],(some (64,true))⟩,⟨(some 69),.call (.const (.func 216 [] [])) [(.tmp 66),(.tmp 68)],(some (64,true))⟩,⟨(some 70),.call (.const (.func 190 [] [])) [(.const (.int .i64 1))],(some (64,true))⟩,⟨(some 71),.call (.const (.func 217 [] [])) [(.tmp 69),(.tmp 70)],(some (64,true))⟩,⟨(some 72),.bin .neq (.prim .int) true (.tmp 71) (.const (.int .i64 0)),(some (64,true))⟩,pf 73 64 72,mv 10 73]
 (sr [mv 74 10,⟨(some 75),.call (.const (.func 215 [] [])) [(.tmp 74),(.const (.int .i64 1))],none⟩,mv 2 75]
 (.ret)))
def A.b151:Zae:=sr [mc 2 0]
 (sr [mv 12 0,⟨(some 13),.call (.const (.func 212 [] [])) [(.tmp 12),(.const (.str [45]))],none⟩,mv 11 13,xt 14 11 0,xt 15 11 1,mv 3 14,mv 4 15]
 (sr [mv 17 3,⟨(some 18),.call (.const (.func 210 [] [])) [(.tmp 17),(.const (.str [47]))],none⟩,mv 16 18,xt 19 16 0,xt 20 16 1,xt 21 16 2,mv 5 19,mv 6 20,mv 7 21]
 (sr [mv 22 5,c1 23 213 22,mv 24 23,mg 25 4 24,⟨(some 26),.un .not (.tmp 25),(some (24,true))⟩,mg 27 26 24,mh 28 5 27,⟨(some 29),.bin .neq (.prim .str) true (.tmp 28) (.const (.str [48])),(some (27,false))⟩,⟨(some 30),.pick (.tmp 27) (.const (.bool true)) (.tmp 29),(some (24,true))⟩,pf 31 24 30,mv 8 31]
 (.seq (sr [mv 32 7]
 (cd 32
 (.reg [mv 33 8,mv 34 33,mg 35 6 34,⟨(some 36),.call (.const (.func 213 [] [])) [(.tmp 35)],(some (34,true))⟩,pf 37 34 36,mv 38 37,mg 39 6 38,⟨(some 40),.bin .neq (.prim .str) true (.tmp 39) (.const (.str [48])),(some (38,true))⟩,pf 41 38 40,mv 42 41,mg 43 6 42,⟨(some 44),.bin .neq (.prim .str) true (.tmp 43) (.const (.str [49])),(some (42,true))⟩,pf 45 42 44,mv 8 45])
 (.skip)))
 A.ta151_0))))
theorem A.c151:A.F 151=some ⟨76,[.tmp 2],A.b151⟩:=by kernel_rfl
def A.k151:=@A.kk 151 _ _ _ A.c151 rfl
theorem Zql{s:Str}(h:Zcm s=true):Zb3 s=true∧1≤s.length:=by
 cases s with
 |nil=>cases h
 |cons c s=>
  unfold Zcm at h
  rw[Ypj]at h
  exact⟨h.1,by simp⟩
def chkT(form br:Bool)(p d:Str):Nat:=if form=false then 1 else if 600<p.length∨600<d.length then 4 else if br=true∧Nat.gcd (numV p) (numV d)≠1 then 1 else 0
theorem Yc6{s:Str}(h:Zb3 s=true):negS s=false∧Zan s=s:=by
 cases s with
 |nil=>exact⟨rfl,rfl⟩
 |cons c s=>
  have hc:Zjr c=true:=by simp[Zb3]at h;exact h.1
  unfold Zjr at hc
  simp only[decide_eq_true_eq]at hc
  have:negS (c::s)=false:=by simp[negS];omega
  refine⟨this,?_⟩
  unfold Zan;rw[this];rfl
theorem Ztl{h:T O}{N:Nat}(hd:Zb3 s=true)(hl:s.length≤100000):Fn A.C 211 [.str s] h N (fun v h' n'=>In h' n' v (numV s:Nat)):=by
 obtain⟨h1,h2⟩:=Yc6 hd
 have:=Zyq (s:=s) (h:=h) (N:=N) (by rw[h2];exact hd) (by rw[h2];exact hl)
 rw[h1,h2]at this
 exact this
theorem Yi5{H:T O}{n:Nat}{r0:T V}{p d:Str}{form br:Bool}(hp:form=true→Zb3 p=true)(hd:form=true→br=true→Zb3 d=true)(lp:p.length≤100000)(ld:d.length≤100000)(a5:r0.get 5=some (.str p))(a6:r0.get 6=some (.str d))(a7:r0.get 7=some (.bool br))(a8:r0.get 8=some (.bool form)):
  Code A.C none A.ta151_0 ⟨r0,76,[]⟩ ⟨H,n,[]⟩ (fun e fr st=>e=.ret∧∃r,fr=⟨r,76,[]⟩∧r.get 2=some (.int .i64 (chkT form br p d:Nat))∧Zaa n st.w=[]∧Keeps H n st.h st.n):=by
 rw[Zah]
 cases form with
 |false=>
  by_cases c1:600<p.length
  ·have c1':(600:Int)<(p.length:Int):=by omega
   simp[A.ta151_0,a5,a8,Zeg,c1',splice,Zh5,Zau,chkT]
   exact kset Keeps.refl _
  ·have c1':¬(600:Int)<(p.length:Int):=by omega
   by_cases c2:600<d.length
   ·have c2':(600:Int)<(d.length:Int):=by omega
    simp[A.ta151_0,a5,a6,a8,Zeg,c1',c2',splice,Zh5,Zau,chkT]
    exact kset Keeps.refl _
   ·have c2':¬(600:Int)<(d.length:Int):=by omega
    simp[A.ta151_0,a5,a6,a8,Zeg,c1',c2',splice,Zh5,Zau,chkT]
    exact kset Keeps.refl _
 |true=>
  by_cases c1:600<p.length
  ·have c1':(600:Int)<(p.length:Int):=by omega
   simp[A.ta151_0,a5,a8,Zeg,c1,c1',splice,Zh5,Zau,chkT]
   exact kset Keeps.refl _
  ·have c1':¬(600:Int)<(p.length:Int):=by omega
   by_cases c2:600<d.length
   ·have c2':(600:Int)<(d.length:Int):=by omega
    simp[A.ta151_0,a5,a6,a8,Zeg,c1,c2,c1',c2',splice,Zh5,Zau,chkT]
    exact kset Keeps.refl _
   ·have c2':¬(600:Int)<(d.length:Int):=by omega
    have c3:¬(600<p.length∨600<d.length):=by omega
    cases br with
    |false=>
     simp[A.ta151_0,a5,a6,a7,a8,Zeg,c1,c2,c1',c2',splice,Zh5,Zau,chkT]
     exact kset Keeps.refl _
    |true=>
     have lwp:wl ((numV p:Nat):Int)≤100000:=Yqk (Zfj (Zdz (hp rfl))) lp
     have lwd:wl ((numV d:Nat):Int)≤100000:=Yqk (Zfj (Zdz (hd rfl rfl))) ld
     simp[A.ta151_0,a5,a6,a7,a8,Zeg,c1',c2',splice,Zh5,Zau]
     have kz:=kset (Keeps.refl (h:=H) (n:=n)) (.cells [.int .i64 0,.int .i64 0] 27 true)
     refine Zac (Ztl (hp rfl) (by omega)) ?_
     rintro v3 h3 n3 k3 hv3
     simp[a6]
     refine Zac (Ztl (hd rfl rfl) (by omega)) ?_
     rintro v4 h4 n4 k4 hv4
     simp[]
     refine Zac (Yfo (hv3.keep k4) hv4 (by omega) (by omega)) ?_
     rintro v5 h5 n5 k5 hv5
     simp[]
     refine Zac Zvt ?_
     rintro _ h6 n6 k6 rfl
     simp[]
     have hg:Int.gcd (numV p:Nat) (numV d:Nat)=Nat.gcd (numV p) (numV d):=rfl
     rw[hg]at hv5
     have lg:wl ((Nat.gcd (numV p) (numV d):Nat):Int)<100000000:=by
      by_cases hz:numV p=0
      ·rw[hz,Nat.gcd_zero_left];omega
      ·have:=Zrf (a:=((Nat.gcd (numV p) (numV d):Nat):Int)) (b:=((numV p:Nat):Int)) (by
        have:=Nat.gcd_le_left (numV d) (show 0<numV p by omega)
        omega)
       omega
     have l1:wl (1:Int)<100000000:=by decide+kernel
     refine Zac (Yk6 (hv5.keep k6) (In.small (z:=1) (by omega) (by omega)) lg l1) ?_
     rintro _ h7 n7 k7 rfl
     have kk:=((((kz.trans k3).trans k4).trans k5).trans k6).trans k7
     generalize hgg:Nat.gcd (numV p) (numV d)=g at*
     by_cases g1:g=1
     ·subst g1
      simp[Zeg,chkT,c1,c2,sg3,hgg]
      exact kk
     ·have g2:¬sg3 ((g:Int)-1)=0:=by unfold sg3;split<;>(try split)<;>omega
      simp[Zeg,chkT,c1,c2,g1,g2,hgg]
      exact kk
theorem Yer(hl:s.length≤100000){h:T O}{N:Nat}:Fn A.C 151 [.str s] h N (fun v _ _=>v=.int .i64 (chkNum s:Nat)):=by
 intro w
 have hb:(Zan s).length≤s.length:=by unfold Zan;split<;>simp
 have hc:=fun st=>Yfv (s:=Zan s) (st:=st) (by omega)
 rw[Zab,A.k151 (by simp)]
 show Run _ _ _ (Ybv (Ret (fun v _ _=>v=.int .i64 (Yjr (negS s) (Zan s):Nat)) h N w))
 unfold Yjr
 have hle:=Zc2 (Zan s)
 have hp1:((Zan s).take (slashAt (Zan s))).length≤100000:=by simp;omega
 have hd1:((Zan s).drop (slashAt (Zan s)+1)).length≤100000:=by simp;omega
 simp[A.b151,Zq1,hc]
 generalize negS s=neg at*
 generalize hbr:decide (slashAt (Zan s)<(Zan s).length)=br at*
 generalize hpe:(Zan s).take (slashAt (Zan s))=p at*
 generalize hde:(Zan s).drop (slashAt (Zan s)+1)=d at*
 clear hbr hpe hde hc
 have chk:Zjs neg p br d=chkT (Zb7 neg p br d) br p d:=rfl
 rw[chk]
 have fin:∀(h1:T O) (n1:Nat) (r:T V) (form:Bool),Keeps h N h1 n1→form=Zb7 neg p br d→r.get 5=some (.str p)→r.get 6=some (.str d)→r.get 7=some (.bool br)→r.get 8=some (.bool form)→Run A.C [.fin [.tmp 2] ⟨h,N,w⟩] (exR (A.C.code none A.ta151_0 ⟨r,76,[]⟩ ⟨h1,n1,[]⟩)) (Ybv (Ret (fun v _ _=>v=.int .i64 (chkT (Zb7 neg p br d) br p d:Nat)) h N w)):=by
  intro h1 n1 r form k1 hform a5 a6 a7 a8
  refine Zbl (Yi5 (form:=form) (br:=br) (p:=p) (d:=d) ?_ ?_ hp1 hd1 a5 a6 a7 a8) ?_
  ·intro hf
   rw[hform]at hf
   unfold Zb7 at hf
   simp only[Ypj]at hf
   exact(Zql hf.1.1).1
  ·intro hf hbt
   rw[hform]at hf
   unfold Zb7 at hf
   rw[hbt]at hf
   simp only[Ypj,Bool.not_true,Bool.false_or]at hf
   exact(Zql hf.2.1.1).1
  ·rintro e fr ⟨h2,n2,W2⟩ ⟨rfl,r2,rfl,hr2,hW,hK⟩
   simp only at hW hK
   have hW2:=Zi4 k1.le hW
   simp[hr2,Ret,hW2,hform]
   exact k1.trans hK
 refine Zac (Zgp (by omega)) ?_
 rintro v h1 n1 k1 rfl
 have z0:Zcm [48]=true:=by decide
 by_cases hA:Zcm p=true
 ·have hB:(neg=true∧p=[48])∨(neg=false)∨(neg=true∧p≠[48]):=by
   cases neg
   ·exact .inr (.inl rfl)
   ·by_cases hq:p=[48]
    ·exact .inl ⟨rfl,hq⟩
    ·exact .inr (.inr ⟨rfl,hq⟩)
  rcases hB with⟨rfl,rfl⟩|rfl|⟨rfl,hpz⟩
  ·cases br
   ·simp[z0]
    exact fin _ _ _ false k1 (by simp[Zb7]) (by simp) (by simp) (by simp) (by simp)
   ·simp[z0]
    exact fin _ _ _ false k1 (by simp[Zb7]) (by simp) (by simp) (by simp) (by simp)
  ·cases br
   ·simp[hA]
    exact fin _ _ _ true k1 (by simp[Zb7,hA]) (by simp) (by simp) (by simp) (by simp)
   ·simp[hA]
    refine Zac (Zgp (by omega)) ?_
    rintro v h2 n2 k2 rfl
    by_cases hD:Zcm d=true
    ·by_cases h48:d=[48]
     ·subst h48
      simp[z0]
      exact fin _ _ _ false (k1.trans k2) (by simp[Zb7]) (by simp) (by simp) (by simp) (by simp)
     ·have e8:(d==[48])=false:=by simp[h48]
      have e9:(d==[49])=decide (d=[49]):=by by_cases h:d=[49]<;>simp[h]
      simp[hD,e8]
      exact fin _ _ _ (!(d==[49])) (k1.trans k2) (by simp[Zb7,hA,hD,h48,e9]) (by simp) (by simp) (by simp) (by simp)
    ·have hD:Zcm d=false:=by simpa using hD
     simp[hD]
     exact fin _ _ _ false (k1.trans k2) (by simp[Zb7,hD]) (by simp) (by simp) (by simp) (by simp)
  ·have e1:(p==[48])=false:=by simp[hpz]
   cases br
   ·simp[hA,e1]
    exact fin _ _ _ true k1 (by simp[Zb7,hA,hpz]) (by simp) (by simp) (by simp) (by simp)
   ·simp[hA,e1]
    refine Zac (Zgp (by omega)) ?_
    rintro v h2 n2 k2 rfl
    by_cases hD:Zcm d=true
    ·by_cases h48:d=[48]
     ·subst h48
      simp[z0]
      exact fin _ _ _ false (k1.trans k2) (by simp[Zb7]) (by simp) (by simp) (by simp) (by simp)
     ·have e8:(d==[48])=false:=by simp[h48]
      have e9:(d==[49])=decide (d=[49]):=by by_cases h:d=[49]<;>simp[h]
      simp[hD,e8]
      exact fin _ _ _ (!(d==[49])) (k1.trans k2) (by simp[Zb7,hA,hD,h48,hpz,e9]) (by simp) (by simp) (by simp) (by simp)
    ·have hD:Zcm d=false:=by simpa using hD
     simp[hD]
     exact fin _ _ _ false (k1.trans k2) (by simp[Zb7,hD]) (by simp) (by simp) (by simp) (by simp)
 ·have hA:Zcm p=false:=by simpa using hA
  cases br
  ·simp[hA]
   exact fin _ _ _ false k1 (by simp[Zb7,hA]) (by simp) (by simp) (by simp) (by simp)
  ·simp[hA]
   exact fin _ _ _ false k1 (by simp[Zb7,hA]) (by simp) (by simp) (by simp) (by simp)
set_option maxHeartbeats 4000000
@[simp] theorem Yna {a b:Nat}:a<b∨b≤a:=Nat.lt_or_ge a b
def Ynn:List Nat:=[1,10,100,1000,10000,100000,1000000,10000000,100000000,1000000000,10000000000,100000000000,1000000000000,10000000000000,100000000000000,1000000000000000,10000000000000000,100000000000000000,1000000000000000000,10000000000000000000]
def P10(h:T O)(N:Nat):Prop:=3<N∧h.get 3=some A.p10
theorem P10.keep{h h':T O}{N N':Nat}(s:P10 h N)(k:Keeps h N h' N'):P10 h' N':=by
 exact⟨Yo8 s.1 k.le,(k.get _ s.1).trans s.2⟩
theorem P10.ex{h:T O}{N:Nat}(s:P10 h N):3<N∧∃e rw,h.get 3=some (.cells (dg Ynn) e rw):=⟨s.1,_,_,s.2.trans rfl⟩
def Yl3(N:Nat)(f:Nat→V):List V:=(List.range N).map f
def Yjm(f:Nat→V)(k:Nat)(v:V):Nat→V:=fun j=>if j=k then v else f j
def vB(c:UInt8):V:=.int .u8 (u8I c)
structure Fmt (Z o L x i u:Nat) (f0 f:Nat→V):Prop where
 le:i≤L
 u:u=x/10^(L-i)
 dig:∀j,i≤j→j<L→f (o+j)=vB (dch (x/10^(L-1-j)))
 out:∀j,j<o∨o+L≤j→f j=f0 j
theorem Fmt.one{Z o L x i u:Nat}{f0 f:Nat→V}(s:Fmt Z o L x (i+1) u f0 f){c:UInt8}(hc:c=dch u):Fmt Z o L x i (u/10) f0 (Yjm f (o+i) (vB c)):=by
 subst hc
 have hle:=s.le
 refine⟨by omega,?_,fun j h1 h2=>?_,fun j hj=>?_⟩
 ·rw[s.u,Yrx,←Ypn]
  congr 2;omega
 ·by_cases hj:j=i
  ·subst hj
   rw[Yjm,Yo4 rfl,s.u]
   congr 4
   omega
  ·rw[Yjm,Yo0 (by omega)]
   exact s.dig j (by omega) h2
 ·rw[Yjm,Yo0 (by omega)]
  exact s.out j hj
theorem Fmt.two{Z o L x i u:Nat}{f0 f:Nat→V}(s:Fmt Z o L x (i+2) u f0 f){c d:UInt8}(hc:c=dch u)(hd:d=dch (u/10)):Fmt Z o L x i (u/100) f0 (Yjm (Yjm f (o+(i+1)) (vB c)) (o+i) (vB d)):=by
 have:=(Fmt.one (i:=i+1) s hc).one hd
 rw[Yrx]at this
 exact this
structure FbJ (h:T O) (N ir n2 Z o L x:Nat) (f0:Nat→V) (e:TypeId) (i u:Nat) (f:Nat→V) (r:T V) (st:St):Prop where
 r4:r.get 4=some (.int .i64 i)
 n:st.n=N
 w:Zaa n2 st.w=[]
 row:st.h.get ir=some (.cells (Yl3 Z f) e true)
 oth:∀t,t≠ir→st.h.get t=h.get t
 fmt:Fmt Z o L x i u f0 f
structure FbE (h:T O) (N ir n2 Z o L x:Nat) (f0:Nat→V) (e:TypeId) (st:St):Prop where
 n:st.n=N
 w:Zaa n2 st.w=[]
 oth:∀t,t≠ir→st.h.get t=h.get t
 ex:∃f,st.h.get ir=some (.cells (Yl3 Z f) e true)∧(∀j,j<L→f (o+j)=vB (dch (x/10^(L-1-j))))∧∀j,j<o∨o+L≤j→f j=f0 j
theorem Code.mono{C:Cx}{ro:Option Nat}{c:Zae}{fr:Fr}{st:St}{P Q:Ex→Fr→St→Prop}(h:Code C ro c fr st P)(k:∀e fr st,P e fr st→Q e fr st):Code C ro c fr st Q:=by
 rw[Zah]
 refine Zbl h ?_
 intro e fr st hp
 simp
 exact k _ _ _ hp
structure FbR (h:T O) (N ir n2 Z o L x:Nat) (f0:Nat→V) (e:TypeId) (w:List Nat) (st:St):Prop where
 n:st.n=N
 w:Zaa n2 st.w=Zaa n2 w
 oth:∀t,t≠ir→st.h.get t=h.get t
 ex:∃f,st.h.get ir=some (.cells (Yl3 Z f) e true)∧(∀j,j<L→f (o+j)=vB (dch (x/10^(L-1-j))))∧∀j,j<o∨o+L≤j→f j=f0 j
set_option maxHeartbeats 1000000
set_option maxHeartbeats 1000000
def Bd(h:T O)(N b:Nat)(s:Str):Prop:=b<N∧∃p v,h.get b=some (.cells [p,v] 241 true)∧(p=.nilptr∨p=.ptr b 0)∧((v=.nilslice∧s=[])∨∃j,v=.slice j 0 s.length none 1∧b<j∧j<N∧s≠[]∧h.get j=some (.cells (s.map vB) 5 true))
set_option maxHeartbeats 4000000
def grp(n:Nat):List Str:=if h:n=0 then [] else (if n/1000000000000000000=0 then Za2 n else Zke (n%1000000000000000000) 18)::grp (n/1000000000000000000)
termination_by n
decreasing_by omega
def Ynm(l:List Str):List (List V):=l.map fun s=>[.str s]
structure StI (hB:T O) (nB M:Nat) (m:Nat) (r:T V) (st:St):Prop where
 w:Zaa nB st.w=[]
 keep:Keeps hB nB st.h st.n
 ex:∃u v gs,r.get 4=some u∧r.get 6=some v∧Zl4 u=some (wds m).length∧(m≠0→Wn st.h st.n u m)∧Own 1 9 nB st.h st.n v (Ynm gs)∧gs++grp m=grp M
structure SbI (hb:T O) (n0 b:Nat) (gs:List Str) (pre:Str) (k:Nat) (r:T V) (st:St):Prop where
 hk:k≤gs.length
 r11:r.get 11=some (.int .i64 ((k:Int)-1))
 w:Zaa n0 st.w=[]
 oth:∀i,i<b→st.h.get i=hb.get i
 bd:Bd st.h st.n b (pre++(gs.drop k).reverse.flatten)
end Go.Mx
