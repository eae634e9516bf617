/-
  reconstruct.Unseen: what its loop does.
-/
import Derived.Test.YtlbophlgohokkaaGreatDoorEcK
import Derived.Test.YtlbophlgohokkaaGreatDoorCoH
import Derived.Test.YtlbophlgohokkaaGreatDoorMxTab
import Derived.Test.YtlbophlgohokkaaGreatDoorMxWord
import Derived.Test.YtlbophlgohokkaaGreatDoorMxLim
set_option linter.all false
namespace Go.Mx
open Go Go.Proofs
variable {N i:Nat} {h:T O} {o:O} {v:V}
set_option maxHeartbeats 2000000
set_option maxRecDepth 1000000
def A.ta44_0:Zae:=sr [mv 6 16]
 (.reg [mv 7 17])
def A.ta44_1:Zae:=.block 1 (sr [mv 18 7,⟨(some 19),.call (.const (.func 126 [] [])) [(.tmp 18),(.const (.func 127 [] []))],none⟩,⟨(some 20),.un .not (.tmp 19),none⟩]
 (cd 20
 (.reg [ld 21 5,mv 22 6,⟨(some 23),.bslice 3 1 1 [(.int .i64 0)] [(0,1,(.tmp 22))],none⟩,⟨(some 24),.append 1 8 3 [(.int .i64 0)] (.tmp 21) (.tmp 23),none⟩,so 5 24])
 (.skip)))
def A.b44:Zae:=sr [mN 2,mc 3 0]
 (.seq (sr [mv 8 0,c1 9 47 8,mv 4 9]
 (sr [mv 10 4,ni 11 10 0]
 (cd 11
 (sr [mv 12 4,mN 2,mv 3 12]
 (.ret))
 (.skip))))
 (sr [⟨(some 5),.alloc [.nilslice] 43,none⟩]
 (.seq (sr [mv 13 0,c1 14 71 13,c1 15 125 14]
 (.block 0 (.rangef (.tmp 15) [16,17] A.ta44_0 A.ta44_1)))
 (sr [ld 25 5,mv 2 25,mc 3 0]
 (.ret)))))
theorem A.c44:A.F 44=some ⟨26,[.tmp 2,.tmp 3],A.b44⟩:=by kernel_rfl
def A.k44:=@A.kk 44 _ _ _ A.c44 rfl
theorem Sl.setL{l:List V}{L:Zo6}(s:Sl h N v l)(g:h.get i=some (.loop L)):Sl (h.set i o) N v l:=s.moved (D:=fun j=>j=i) ⟨Yoy _,fun j _ hj=>by rw[T.get_set,Yo0 hj]⟩ fun j hj hc=>by
 subst hc
 rcases s with⟨_,rfl|rfl⟩|⟨j',o',cp,c,e,rw,rfl,_,h3,_⟩
 ·simp[Zcl]at hj
 ·simp[Zcl]at hj
 ·simp[Zcl]at hj
  subst hj
  rw[g]at h3
  cases h3
theorem Sn.setL{z:Nat}{l:List (List V)}{L:Zo6}(s:Sn z h N v l)(g:h.get i=some (.loop L)):Sn z (h.set i o) N v l:=s.moved (D:=fun j=>j=i) ⟨Yoy _,fun j _ hj=>by rw[T.get_set,Yo0 hj]⟩ fun j hj hc=>by
 subst hc
 rcases s with⟨_,rfl|rfl⟩|⟨j',o',cp,c,e,rw,rfl,_,h3,_⟩
 ·simp[Zcl]at hj
 ·simp[Zcl]at hj
 ·simp[Zcl]at hj
  subst hj
  rw[g]at h3
  cases h3
theorem FcC.setL{c:List V}{q:Rat}{L:Zo6}(s:FcC h N c q)(g:h.get i=some (.loop L)):FcC (h.set i o) N c q:=by
 have hI:∀{x:V} {z:Int},In h N x z→In (h.set i o) N x z:=fun s=>by
  rcases s with s|⟨i,o,l,c,s1,s2,s3⟩
  ·exact .inl s
  ·exact .inr ⟨i,o,l,c,s1,Sl.setL s2 g,s3⟩
 obtain⟨n1,u1,n2,u2,rfl,s1,s2⟩:=s
 exact⟨n1,u1,n2,u2,rfl,hI s1,hI s2⟩
theorem FrS.setL{l:List Rat}{L:Zo6}(s:FrS h N v l)(g:h.get i=some (.loop L)):FrS (h.set i o) N v l:=by
 obtain⟨cs,h1,h2,h3⟩:=s
 refine⟨cs,h1.setL g,h2,fun j q hq=>?_⟩
 obtain⟨c,a,b⟩:=h3 j q hq
 exact⟨c,a,b.setL g⟩
def DU(N B i:Nat):Prop:=i=N+1∨i=B∨N+2≤i
def uR(r:T V)(d:Nat):Zo6:=Ydm r 26 [16,17] A.ta44_0 A.ta44_1 d
theorem Yca{m:List (List Rat)}{k:Nat}{cs:List (List V)}(h:cs.length=(Zxs m k).length):decide (0≤Zb8 (fun j=>decide ((Zxs m k)[j]?.getD 0≠0)) 0 cs.length)=seenQ m k:=by
 rw[h]
 exact Zw2 (P:=fun q=>decide (q≠0))
theorem Yf9{H:T O}{N n B k d:Nat}{r:T V}{v x:V}{m:List (List Rat)}{W:List Nat}(hL:H.get (N+1)=some (.loop (uR r d)))(hB:H.get B=some (.cells [v] 43 true))(hO:OwI (N+2) H n v (Zrc m k))(hn:N+2≤n)(hBN:B<N)(hx:FrT H n x (Zxs m k))(hk:k<1000)(hml:(Zxs m k).length<1000)(h5:r.get 5=some (.ptr B 0))(hW:Zaa B W=[]):Call A.C (.yield (N+1)) [.int .i64 k,x] ⟨H,n,W⟩ (fun y st=>y=.bool true∧Zaa B st.w=[]∧Upd (DU N B) H n st.h st.n∧st.h.get (N+1)=some (.loop (uR r d))∧∃v',st.h.get B=some (.cells [v'] 43 true)∧OwI (N+2) st.h st.n v' (Zrc m (k+1))):=by
 refine Zxi (R:=uR r d) (r0:=(r.set 16 (.int .i64 k)).set 17 x) rfl hL rfl (by simp[uR,Ydm,Zi1]) ?_
 rw[Zah]
 show Run A.C [] (exR (A.C.code (some (N+1)) A.ta44_0 ⟨_,26,[]⟩ ⟨H,n,W⟩)) _
 simp[A.ta44_0]
 refine⟨hL,?_⟩
 rw[Zah]
 show Run A.C [] (exR (A.C.code (some (N+1)) A.ta44_1 ⟨_,26,[]⟩ _)) _
 have hx1:=hx.1.setL (o:=.loop {uR r d with st:=.busy}) hL
 have hBu:(H.set (N+1) (.loop {uR r d with st:=.busy})).get B=some (.cells [v] 43 true):=by rw[T.get_set,Yo0 (by omega)];exact hB
 have hLu:(H.set (N+1) (.loop {uR r d with st:=.busy})).get (N+1)=some (.loop {uR r d with st:=.busy}):=by rw[T.get_set,Yo4 rfl]
 have U1:Upd (DU N B) H n (H.set (N+1) (.loop {uR r d with st:=.busy})) n:=⟨Yoy _,fun i _ hi=>by rw[T.get_set,Yo0 fun hc=>hi (.inl hc)]⟩
 have oU:OwI (N+2) (H.set (N+1) (.loop {uR r d with st:=.busy})) n v (Zrc m k):=hO.movedR hL (fun z hz=>by cases hz) ⟨Yoy _,fun i _ hi=>by rw[T.get_set,Yo0 hi]⟩
 generalize H.set (N+1) (.loop {uR r d with st:=.busy})=G at*
 have hxs:=hx1
 obtain⟨cs,s1,s2,s3⟩:=hxs
 have key:=Yei (f:=.func 127 [] []) cs (fun j=>decide ((Zxs m k)[j]?.getD 0≠0)) s1 (by omega) (fun j x hx h' n' hk'=>by
  obtain⟨q,hqj⟩:=Zaf (l:=Zxs m k) (k:=j) (by have:=Za6 hx;omega)
  obtain⟨c,g1,g2⟩:=s3 j q hqj
  rw[hx]at g1
  obtain rfl:x=c:=by simpa using g1
  simp only[hqj,Yq2]
  exact Yge (g2.keep hk'))
 rw[Yca s2]at key
 simp[A.ta44_1]
 refine Zac key ?_
 rintro _ H2 n2 k2 rfl
 have le2:=k2.le
 have gB2:=(k2.get B (by omega)).trans hBu
 have gL2:=(k2.get (N+1) (by omega)).trans hLu
 have o2:=oU.keep k2
 have lB:B<n2:=by omega
 have hus:=@Zpg m k
 have hLB:¬N+1<B:=by omega
 cases hs:seenQ m k with
 |true=>
  rw[hs,Yo4 rfl,Yrb]at hus
  simp[]
  refine⟨_,gL2,rfl,by simp[hLB,hW],(U1.trans k2.upd).set (.inl (.inl rfl)),rfl,v,by rw[Yo0 (by omega)];exact gB2,?_⟩
  rw[hus]
  exact o2.movedR gL2 (fun z hz=>by cases hz) ⟨Yoy _,fun i _ hi=>by rw[T.get_set,Yo0 hi]⟩
 |false=>
  rw[hs,Yo0 (by decide)]at hus
  have sp1:splice [V.int .i64 0] 0 [V.int .i64 k]=[V.int .i64 k]:=rfl
  simp[h5,gB2,sp1]
  have kD:Keeps H2 n2 (H2.set n2 (.cells [.int .i64 k] 3 true)) (n2+1):=Keeps.refl.new _
  have hul:=@Zn5 m k
  obtain⟨v',h',w',j1,j2,j3,j4,j5,j6⟩:=OwI.push (B:=B) (x:=.slice n2 0 1 (some 1) 1) (k:=k) (w:=(N+1)::W) (o2.keep kD) (by omega) (by omega) (by simp[hLB,hW]) (by simp[Zaw,St.row,slc]) (by omega)
  have gB3:=(j3.get B (by omega) (fun hc=>by have:=j5 B hc;omega)).trans ((kD.get B lB).trans gB2)
  have gL3:=(j3.get (N+1) (by omega) (fun hc=>by have:=j5 _ hc;omega)).trans ((kD.get (N+1) (by omega)).trans gL2)
  have lB3:B<n2+1+1:=by omega
  have ov:V.one v'=true∧V.cells v'=[v']:=by
   have:=j6.sl
   exact⟨Sl.one1 this,Sl.cells1 this⟩
  have U3:Upd (DU N B) H n h' (n2+1+1):=((U1.trans k2.upd).trans kD.upd).trans (j3.mono fun i _ hi=>.inr (.inr (j5 i hi)))
  have g4:(h'.set B (.cells [v'] 43 true)).get (N+1)=some (.loop {uR r d with st:=.busy}):=by rw[T.get_set,Yo0 (by omega)];exact gL3
  have o4:OwI (N+2) (h'.set B (.cells [v'] 43 true)) (n2+1+1) v' (Zrc m k++[(k:Int)]):=j6.movedR gB3 (fun z hz=>by simp at hz) ⟨Yoy _,fun i _ hi=>by rw[T.get_set,Yo0 hi]⟩
  simp[-V.cells, -V.one,j1,h5,gB3,Zak,ov.1,ov.2,splice]
  refine⟨{uR r d with st:=.busy},by rw[Yo0 (by omega)];exact gL3,rfl,by rw[Yo0 hLB];exact j2,(U3.set (.inl (.inr (.inl rfl)))).set (.inl (.inl rfl)),rfl,v',by rw[Yo0 (by omega)],?_⟩
  rw[hus]
  exact o4.movedR g4 (fun z hz=>by cases hz) ⟨Yoy _,fun i _ hi=>by rw[T.get_set,Yo0 hi]⟩
set_option maxHeartbeats 2000000
def A.lb197_0:Zae:=sr [bi 9 .lss 8 7]
 (.seq (cd 9
 (.skip)
 (.exit 0))
 (.seq (.block 1 (sr [mv 10 8,mv 3 10]
 (sr [mv 11 0,mv 12 3,ld 13 1,mv 14 3,c2 15 141 13 14,⟨(some 16),.call (.tmp 11) [(.tmp 12),(.tmp 15)],none⟩,⟨(some 17),.un .not (.tmp 16),none⟩]
 (cd 17
 (.ret)
 (.skip)))))
 (.reg [bc 18 .add 8 1,mv 8 18])))
def A.b197:Zae:=sr [ld 4 1,⟨(some 5),.iaddrSl 1 (.tmp 4) (.const (.int .i64 0)),none⟩,ld 6 5,ln 7 6,mc 8 0]
 (.block 0 (.loop A.lb197_0))
theorem A.c197:A.F 197=some ⟨19,[],A.b197⟩:=by kernel_rfl
def A.k197:=@A.kk 197 _ _ _ A.c197 rfl
theorem Zxh{h:T O}{N B Cb c:Nat}{r:T V}{u:V}{m:List (List Rat)}{e:TypeId}{w:List Nat}(hu:MfS h N u m)(hBh:h.get B=some (.cells [.nilslice] 43 true))(hBN:B<N)(hC:h.get Cb=some (.cells [u] e true))(hCN:Cb<N)(hCB:¬Cb=B)(hm0:0<m.length)(hml:m.length<1000)(hc:RcN m c)(hc0:0<c)(hcl:c<1000)(h5:r.get 5=some (.ptr B 0))(hw:Zaa B w=[]):
  Call A.C (.func 197 [] [.ptr Cb 0]) [.yield (N+1)] ⟨(h.set N (.defs true)).set (N+1) (.loop (uR r N)),N+1+1,w⟩ (fun _ st=>Zaa B st.w=[]∧N+2≤st.n∧(∀i,i<N→¬i=B→st.h.get i=h.get i)∧st.h.get N=some (.defs true)∧∃R v,st.h.get (N+1)=some (.loop R)∧R.st=.ready∧R.pend=none∧st.h.get B=some (.cells [v] 43 true)∧OwI (N+2) st.h st.n v (Zrc m c)):=by
 have gD:((h.set N (.defs true)).set (N+1) (.loop (uR r N))).get N=some (.defs true):=by rw[T.get_set,Yo0 (by omega),T.get_set,Yo4 rfl]
 have gL:((h.set N (.defs true)).set (N+1) (.loop (uR r N))).get (N+1)=some (.loop (uR r N)):=by rw[T.get_set,Yo4 rfl]
 have kG:Keeps h N ((h.set N (.defs true)).set (N+1) (.loop (uR r N))) (N+2):=(Keeps.refl.new _).new _
 generalize (h.set N (.defs true)).set (N+1) (.loop (uR r N))=G at*
 have gC:=(kG.get Cb hCN).trans hC
 have gB:=(kG.get B hBN).trans hBh
 have hu1:=hu.keep kG
 obtain⟨us,a1,a2,a3⟩:=hu1
 obtain⟨l0,hl0⟩:=Zaf hm0
 obtain⟨x0,b1,b2⟩:=a3 0 l0 hl0
 obtain⟨i2,o2,cc2,e2,rw2,p1,p2,p3,p4⟩:=a1.at b1
 rw[Yqd]at p4
 have b3:=b2.1.len
 rw[hc l0 (Yo3 hl0)]at b3
 have lu:=a1.len
 rw[a2]at lu
 have hm0':(0:Int)<(m.length:Int):=by omega
 have lC:Cb<N+1+1:=by omega
 have lp2:i2<N+1+1:=by omega
 rw[Zab,A.k197 (by simp)]
 simp[A.b197,gC,lu,hm0,p1,p3,p4,b3]
 refine Zaj [(3,3),(8,18)] (fun e r' st=>e=.exit 0∧Zaa B st.w=[]∧Upd (DU N B) G (N+2) st.h st.n∧st.h.get (N+1)=some (.loop (uR r N))∧∃v,st.h.get B=some (.cells [v] 43 true)∧OwI (N+2) st.h st.n v (Zrc m c)) (fun i r' st=>Zaa B st.w=[]∧Upd (DU N B) G (N+2) st.h st.n∧st.h.get (N+1)=some (.loop (uR r N))∧∃k v,k≤c∧i=c-k∧r'.get 8=some (.int .i64 k)∧st.h.get B=some (.cells [v] 43 true)∧OwI (N+2) st.h st.n v (Zrc m k)) c ?_ ?_ ?_
 ·exact⟨by simp,Upd.refl,gL,0,_,by omega,by omega,by simp,gB,OwI.nil⟩
 ·rintro i r' ⟨H1,n1,W⟩ hr hf ⟨hW,U1,gL1,k,v,hk,rfl,h8,gB1,hO⟩
  simp only at hW U1 gL1 gB1 hO
  rw[Zah]
  by_cases hlt:k<c
  ·have hlt':(k:Int)<(c:Int):=by omega
   have hn1:=U1.le
   have gC1:=(U1.get Cb (by omega) (by unfold DU;omega)).trans gC
   have lC1:Cb<n1:=by omega
   have UB:Upd (fun i=>i=B) h N H1 n1:=⟨by omega,fun i hi hd=>(U1.get i (by omega) (by unfold DU;omega)).trans (kG.get i hi)⟩
   have hu2:=hu.movedB (v:=u) UB hBh (by decide) hm0 fun l hl=>by rw[hc l hl];exact hc0
   simp[A.lb197_0,hr,h8,hlt',gC1]
   refine Zac (Yem hu2 (by omega) hc hlt) ?_
   rintro x H2 n2 k2 hx
   have le2:=k2.le
   simp
   refine Zkw (Yf9 ((k2.get (N+1) (by omega)).trans gL1) ((k2.get B (by omega)).trans gB1) (hO.keep k2) (by omega) hBN hx (by omega) (by unfold Zxs;rw[Yrc];exact hml) h5 hW) ?_
   rintro _ ⟨H3,n3,W3⟩ ⟨rfl,hW3,U3,gL3,v',gB3,hO3⟩
   simp only at hW3 U3 gL3 gB3 hO3
   simp(disch:=first|(simp;done)|omega|rfl) [hf,h8,hW3,gL3,gB3]
   exact⟨c-(k+1),by omega,(U1.trans k2.upd).trans U3,k+1,by omega,rfl,by simp,hO3⟩
  ·obtain rfl:k=c:=by omega
   simp[A.lb197_0,hr,hf,h8,hW,U1,gL1,gB1]
   exact hO
 ·rintro _ r' ⟨H1,n1,W⟩ hr ⟨rfl,hW,U1,gL1,v,gB1,hO⟩
  simp only at hW U1 gL1 gB1 hO
  simp
  refine⟨Zj0 fun i hi=>?_,U1.le,fun i hi hd=>(U1.get i (by omega) (by unfold DU;omega)).trans (kG.get i hi),(U1.get N (by omega) (by unfold DU;omega)).trans gD,uR r N,gL1,rfl,rfl,v,gB1,hO⟩
  rcases Yp2.1 hi with hi|hi
  ·exact Zp2 hW i (Zh6 hi).1
  ·exact Zp2 hw i hi
def Ylw(m:List (List Str)):List Int:=if Zmh m 64 16=0 then Zrc (Zrw m) (hdL m) else []
theorem Zxy{h:T O}{N:Nat}{u:V}{m:List (List Str)}(hm:MtS h N u m)(sm:Zen 6 6 m=true):Fn A.C 44 [u] h N (fun x h' n'=>∃v,x=.tup [v,.int .i64 (Zmh m 64 16)]∧Sl h' n' v (dI (Ylw m))):=by
 intro w
 obtain⟨m1,m2⟩:=Zjx sm
 rw[Zab,A.k44 (by simp)]
 simp[A.b44]
 refine Zac (Zky hm m1 m2) ?_
 rintro _ H1 n1 k1 rfl
 have le1:=k1.le
 unfold Ylw
 by_cases hE:Zmh m 64 16=0
 ·have hM:=Zo1 hE sm
  obtain⟨l1,l2,l3,l4,l5⟩:=hM.lens
  have n0:=hM.n1
  simp[hE]
  have kB:Keeps H1 n1 (H1.set n1 (.cells [.nilslice] 43 true)) (n1+1):=Keeps.refl.new _
  have gB:(H1.set n1 (.cells [.nilslice] 43 true)).get n1=some (.cells [.nilslice] 43 true):=by rw[T.get_set,Yo4 rfl]
  refine Zac (Ztm (k0:=100) (((hm.keep k1).keep kB).rat fun r hr=>(hM.row r hr).2) (by omega) l5 (by decide)) ?_
  rintro v H2 n2 k2 hv
  have le2:=k2.le
  have ov:V.one v=true∧V.cells v=[v]:=by
   obtain⟨us,s,_⟩:=hv
   exact⟨Sl.one1 s,Sl.cells1 s⟩
  simp[]
  refine Zac (Yek ov.1 ov.2) ?_
  rintro _ H3 n3 k3 ⟨e,rfl,c1,c2⟩
  have le3:=k3.le
  have gB3:=(k3.get n1 (by omega)).trans ((k2.get n1 (by omega)).trans gB)
  simp[]
  refine Zvh (gv:=.func 197 [] [.ptr n2 0]) (by simp) rfl (Zxh (B:=n1) (c:=hdL m) (hv.keep k3) gB3 (by omega) c2 c1 (by omega) l2 l1 hM.qb.1 n0 l3 (by simp) (by simp)) ?_
  rintro _ ⟨H4,n4,W4⟩ ⟨hW4,le4,U4,gD4,R,v',gL4,r1,r2,gB4,hO4⟩
  simp only at hW4 le4 U4 gD4 gL4 gB4 hO4
  refine⟨R,gL4,by rw[r1];simp,?_⟩
  have hn:¬n1=n3+1:=by omega
  have o5:=hO4.movedR (h':=H4.set (n3+1) (.loop {R with st:=.exhausted})) (N':=n4) gL4 (fun z hz=>by cases hz) ⟨Yoy _,fun i _ hi=>by rw[T.get_set,Yo0 hi]⟩
  have gD5:(H4.set (n3+1) (.loop {R with st:=.exhausted})).get n3=some (.defs true):=by rw[T.get_set,Yo0 (by omega)];exact gD4
  have gB5:(H4.set (n3+1) (.loop {R with st:=.exhausted})).get n1=some (.cells [v'] 43 true):=by rw[T.get_set,Yo0 hn];exact gB4
  have k5:∀i,i<N→(H4.set (n3+1) (.loop {R with st:=.exhausted})).get i=h.get i:=fun i hi=>by
   rw[T.get_set,Yo0 (by omega),U4 i (by omega) (by omega),k3.get i (by omega),k2.get i (by omega),kB.get i (by omega),k1.get i hi]
  show Run A.C _ (some (.ex (Zpt R.pend) _ ⟨H4.set (n3+1) (.loop {R with st:=.exhausted}),n4,(n3+1)::W4⟩)) _
  generalize H4.set (n3+1) (.loop {R with st:=.exhausted})=F at*
  rw[r2]
  have lB:n1<n4:=by omega
  simp[gB5,Zpt]
  refine(Yd1 gD5 fun i=>by simp).2 ?_
  simp[Ret]
  exact⟨by rw[Yo0 (by omega),Yo0 (by omega)];exact Yc3 hW4 le1,⟨by omega,fun i hi=>by rw[T.get_set,Yo0 (by omega)];exact k5 i hi⟩,(o5.movedR (h':=F.set n3 (.defs false)) (N':=n4) gD5 (fun z hz=>by cases hz) ⟨Yoy _,fun i _ hi=>by rw[T.get_set,Yo0 hi]⟩).sl⟩
 ·simp[hE,Ret]
  exact⟨k1,.inl ⟨rfl,.inl rfl⟩⟩
set_option maxHeartbeats 1000000
theorem RwT.txm{N0:Nat}{h:T O}{N R d:Nat}{m:List (List Rat)}{v:V}{us:List V}(s:RwT N0 h N R m)(g:h.get R=some (.cells us 23 true))(hv:Sl h N v (us.take d))(hd:d≤m.length):TxM h N v (m.take d):=by
 obtain⟨vs,g1,g2,g3⟩:=s.ex
 rw[g]at g1
 simp only[Yox,O.cells.injEq,and_true]at g1
 subst g1
 refine⟨us.take d,hv,by simp[g2],fun j l hl=>?_⟩
 by_cases hj:j<d
 ·rw[Ypf,Yo4 hj]at hl ⊢
  obtain⟨u,a1,a2⟩:=g3 j l hl
  exact⟨u,a1,a2.1⟩
 ·rw[Ypf,Yo0 hj]at hl
  cases hl
theorem Zvi{h:T O}{N:Nat}{u:V}{m:List (List Rat)}{c K:Nat}(hu:TxM h N u m)(hc:RcN m c)(hml:m.length<1000)(hm0:0<m.length)(hcl:c<1000)(hK1:1≤K)(hK:QbM m K)(hB:∀n,n<m.length→n<c→3*kB K n≤400000):Fn A.C 45 [u] h N (fun x h' n'=>TxM h' n' x (Yl5 m c)):=by
 intro w
 obtain⟨us,h1,h2,h3⟩:=hu
 have h1':=h1
 rcases h1 with⟨hn,_⟩|⟨i,o,cp,c',e,rw',rfl,q2,q3,q4,q5,q6⟩
 ·rw[hn]at h2
  simp at h2
  omega
 have hne:¬i=N:=by omega
 have hne2:us≠[]:=fun hc=>by rw[hc]at h2;simp at h2;omega
 have q3':(h.set N (.cells [] 23 true)).get i=some (.cells c' e rw'):=by rw[T.get_set,Yo0 hne];exact q3
 have ha:∀w,Zb2 ⟨h.set N (.cells [] 23 true),N+1,w⟩ 1 24 23 (.slice N 0 0 (some 0) 1) (.slice i o us.length cp 1)=some (.slice (N+1) 0 us.length none 1,⟨(h.set N (.cells [] 23 true)).set (N+1) (.cells us 23 true),N+1+1,w⟩):=fun w=>by
  have hg:(h.set N (.cells [] 23 true)).get N=some (.cells [] 23 true):=by simp
  simp only[Zb2,Ye9 (cp:=cp) q3' q4 q5,Zeh,St.row,hg,slc,St.alloc]
  simp[hne2]
  omega
 have kB:Keeps h N ((h.set N (.cells [] 23 true)).set (N+1) (.cells us 23 true)) (N+1+1):=(Keeps.refl.new _).new _
 have sR:RwT N ((h.set N (.cells [] 23 true)).set (N+1) (.cells us 23 true)) (N+1+1) (N+1) m:=⟨by omega,by omega,us,by rw[T.get_set,Yo4 rfl],h2,fun j l hl=>by
  obtain⟨x,a1,a2⟩:=h3 j l hl
  exact⟨x,a1,(Tx.old a2).keep kB⟩⟩
 rw[Zab,A.k45 (by simp)]
 simp[A.b45,Zkg,ha]
 generalize (h.set N (.cells [] 23 true)).set (N+1) (.cells us 23 true)=G at*
 refine Zbl (Zvk (h:=h) sR hc hml hm0 hcl hK1 hK hB kB (by simp) (by simp[h2]) (by simp) (by simp)) ?_
 rintro _ _ ⟨H4,n4,W4⟩ ⟨rfl,hw,k4,s4,r4,f4,rfl,x4⟩
 simp only at hw k4 s4
 have hr4:=f4.reg
 obtain⟨vs,g1,g2,_⟩:=id s4.ex
 have hl4:(Zbp m c).1.length=m.length:=Zgs
 have hdl:=(@Zqw m c hc c).2
 have hs:Sl H4 n4 (.slice (N+1) 0 us.length none 1) vs:=Sl.row s4.lt g1 (by omega) fun k hk=>by cases hk
 obtain⟨v',e1,e2⟩:=Zem (w:=W4) hs (lo:=0) (hi:=(Zbp m c).2.1) (by omega) (by omega) none (some (.int .i64 (Zbp m c).2.1)) (.inr ⟨rfl,rfl⟩) (.inl rfl)
 rw[Yri]at e2
 simp[Zbv,hr4,x4,e1,Ret,hw]
 exact⟨k4,s4.txm g1 e2 (by omega)⟩
variable {u:V}
set_option maxHeartbeats 1000000
def A.lb46_0:Zae:=.seq (sr [mv 15 6,mv 16 0,ln 17 16,bi 18 .lss 15 17]
 (cd 18
 (.skip)
 (.exit 2)))
 (.seq (.block 3 (.reg [mv 21 5,mv 22 21,mh 23 0 22,mh 24 6 22,⟨(some 25),.iaddrSl 1 (.tmp 23) (.tmp 24),(some (22,false))⟩,⟨(some 26),.load none (.tmp 25),(some (22,false))⟩,mh 27 4 22,⟨(some 28),.iaddrSl 1 (.tmp 26) (.tmp 27),(some (22,false))⟩,⟨(some 29),.load none (.tmp 28),(some (22,false))⟩,⟨(some 30),.call (.const (.func 121 [] [])) [(.tmp 29)],(some (22,false))⟩,⟨(some 31),.un .not (.tmp 30),(some (22,false))⟩,pt 32 22 31,mv 5 32]))
 (.reg [mv 19 6,bc 20 .add 19 1,mv 6 20]))
def A.lb46_1:Zae:=.seq (sr [mv 7 4,mv 8 0,⟨(some 9),.iaddrSl 1 (.tmp 8) (.const (.int .i64 0)),none⟩,ld 10 9,ln 11 10,bi 12 .lss 7 11]
 (cd 12
 (.skip)
 (.exit 0)))
 (.seq (.block 1 (sr [⟨(some 5),.mov (.const (.bool false)),none⟩]
 (.seq (sr [mc 6 0]
 (.block 2 (.loop A.lb46_0)))
 (sr [mv 33 5,⟨(some 34),.un .not (.tmp 33),none⟩]
 (cd 34
 (.reg [mv 35 3,mv 36 4,⟨(some 37),.bslice 3 1 1 [(.int .i64 0)] [(0,1,(.tmp 36))],none⟩,⟨(some 38),.append 1 8 3 [(.int .i64 0)] (.tmp 35) (.tmp 37),none⟩,mv 3 38])
 (.skip))))))
 (.reg [mv 13 4,bc 14 .add 13 1,mv 4 14]))
def A.b46:Zae:=sr [mN 2]
 (sr [mN 3]
 (.seq (sr [mc 4 0]
 (.block 0 (.loop A.lb46_1)))
 (sr [mv 39 3,mv 2 39]
 (.ret))))
theorem A.c46:A.F 46=some ⟨40,[.tmp 2],A.b46⟩:=by kernel_rfl
def A.k46:=@A.kk 46 _ _ _ A.c46 rfl
def A.lb48_0:Zae:=.seq (sr [mv 11 5,mv 12 0,ln 13 12,bi 14 .lss 11 13]
 (cd 14
 (.skip)
 (.exit 0)))
 (.seq (.block 1 (.seq (.regD [mv 17 0,mv 18 5,ia 19 1 17 18,ld 20 19,mv 21 1,mv 22 5,ia 23 1 21 22,ld 24 23,⟨(some 25),.bin .neq (.prim .int) false (.tmp 20) (.tmp 24),none⟩] [0,0,3,7,0,0,48,112,255])
 (cd 25
 (sr [⟨(some 4),.mov (.const (.bool false)),none⟩]
 (.ret))
 (.skip))))
 (.reg [mv 15 5,bc 16 .add 15 1,mv 5 16]))
def A.b48:Zae:=sr [⟨(some 4),.mov (.const (.bool false)),none⟩]
 (.seq (sr [mv 6 0,ln 7 6,mv 8 1,ln 9 8,⟨(some 10),.bin .neq (.prim .int) false (.tmp 7) (.tmp 9),none⟩]
 (cd 10
 (sr [⟨(some 4),.mov (.const (.bool false)),none⟩]
 (.ret))
 (.skip)))
 (.seq (sr [mc 5 0]
 (.block 0 (.loop A.lb48_0)))
 (sr [⟨(some 4),.mov (.const (.bool true)),none⟩]
 (.ret))))
theorem A.c48:A.F 48=some ⟨26,[.tmp 4],A.b48⟩:=by kernel_rfl
def A.k48:=@A.kk 48 _ _ _ A.c48 rfl
theorem Zlm{h:T O}{N:Nat}{v:V}{a b:List Int}{w:List Nat}(hu:Sl h N u (dI a))(hv:Sl h N v (dI b))(hab:a=b)(hl:a.length<1000000):A.C.call (.func 48 [] []) [u,v] ⟨h,N,w⟩=some (.bool true,⟨h,N,w⟩):=by
 subst hab
 apply Call.eq
 have lu:=hu.len
 have lv:=hv.len
 rw[Zar]at lu lv
 rw[Zab,A.k48 (by simp)]
 simp[A.b48,lu,lv]
 refine Zaj [(4,5),(11,25)] (fun e r st=>st=⟨h,N,[]⟩∧e=.exit 0) (fun m r st=>st=⟨h,N,[]⟩∧∃t,t+m=a.length∧r.get 5=some (.int .i64 t)) a.length ?_ ?_ ?_
 ·exact⟨rfl,0,by omega,by simp⟩
 ·rintro m r _ hr hf ⟨rfl,t,ht,h5⟩
  rw[Zah]
  cases m with
  |zero=>
   have:t=a.length:=by omega
   subst this
   simp[A.lb48_0,hr,hf,h5,lu]
  |succ m=>
   have hlt:t<a.length:=by omega
   have hlt':(t:Int)<(a.length:Int):=by omega
   obtain⟨n,hn⟩:=Zaf hlt
   obtain⟨b1,b2,b3,b4,b5,z1,z2,z3,z4⟩:=hu.at (Zbf hn)
   obtain⟨c1,c2,c3,c4,c5,y1,y2,y3,y4⟩:=hv.at (Zbf hn)
   simp(disch:=first|(simp;done)|omega|rfl) [A.lb48_0,hr,hf,h5,lu,lv,hlt',z1,z2,z3,z4,y1,y2,y3,y4]
   exact⟨m,by omega,t+1,by omega,by simp⟩
 ·rintro e r _ hr ⟨rfl,rfl⟩
  simp
theorem Zyj{H:T O}{n k c:Nat}{W0:List Nat}{r0:T V}{m:List (List Rat)}(s:TxM H n u m)(hc:RcN m c)(hk:k<c)(hml:m.length<1000)(a0:r0.get 0=some u)(a4:r0.get 4=some (.int .i64 k))(a5:r0.get 5=some (.bool false))(a6:r0.get 6=some (.int .i64 0)):
  Code A.C none (.loop A.lb46_0) ⟨r0,40,[]⟩ ⟨H,n,W0⟩ (fun e fr st=>e=.exit 2∧st=⟨H,n,W0⟩∧∃r,Fx [(5,6),(15,32)] r0 40 ⟨r,40,[]⟩∧fr=⟨r,40,[]⟩∧r.get 5=some (.bool (seenQ m k))):=by
 have lu:=s.len
 rw[Zah]
 refine Zaj [(5,6),(15,32)] (fun e r st=>e=.exit 2∧st=⟨H,n,W0⟩∧r.get 5=some (.bool (seenQ m k))) (fun i r st=>st=⟨H,n,W0⟩∧∃t,t≤m.length∧i=m.length-t∧r.get 6=some (.int .i64 t)∧r.get 5=some (.bool (seenQ (m.take t) k))) m.length ?_ ?_ ?_
 ·exact⟨rfl,0,by omega,by omega,a6,by rw[a5];rfl⟩
 ·rintro i r _ hr hf ⟨rfl,t,ht,rfl,h6,h5⟩
  rw[Zah]
  by_cases hlt:t<m.length
  ·have hlt':(t:Int)<(m.length:Int):=by omega
   obtain⟨row,hrow⟩:=Zaf hlt
   have hrl:=hc row (Yo3 hrow)
   obtain⟨q,hq⟩:=Zaf (l:=row) (k:=k) (by omega)
   have hst:seenQ (m.take (t+1)) k=(seenQ (m.take t) k||decide (q≠0)):=by
    unfold seenQ
    rw[Yel hrow hq]
    simp
   cases hb:seenQ (m.take t) k with
   |true=>
    rw[hb]at h5 hst
    simp(disch:=first|(simp;done)|omega|rfl) [A.lb46_0,hr,hf,a0,h5,h6,hlt',lu]
    exact⟨m.length-(t+1),by omega,t+1,by omega,rfl,by simp,by rw[hst];simp⟩
   |false=>
    rw[hb]at h5 hst
    obtain⟨i1,o1,c1,e1,w1,x,g1,g2,g3,g4,g5⟩:=s.at hrow
    obtain⟨i2,o2,c2,e2,w2,q1,q2,q3,q4⟩:=Sl.at g5 (Zit hq)
    have hlx:=Sl.len g5
    have hk1:(k:Int)<(row.length:Int):=by omega
    have hk2:k<row.length:=by omega
    have hz:=fun st=>Zqk (q:=q) (st:=st)
    simp(disch:=first|(simp;done)|omega|rfl) [A.lb46_0,hr,hf,a0,a4,h5,h6,hlt',lu,g1,g3,g4,q1,q3,q4,Zm4,hlx,hz]
    exact⟨m.length-(t+1),by omega,t+1,by omega,rfl,by simp,by rw[hst];simp⟩
  ·obtain rfl:t=m.length:=by omega
   rw[Yo7 (Yoy _)]at h5
   simp[A.lb46_0,hr,hf,a0,h5,h6,lu]
 ·rintro _ r _ hr ⟨rfl,rfl,h5⟩
  simp[]
  exact⟨r,⟨hr,rfl,rfl⟩,rfl,h5⟩
theorem Zvg{h:T O}{N c:Nat}{m:List (List Rat)}(s:TxM h N u m)(hc:RcN m c)(hm0:0<m.length)(hml:m.length<1000)(hcl:c<1000):Fn A.C 46 [u] h N (fun x h' n'=>Sl h' n' x (dI (Zrc m c))):=by
 intro w
 have lu:=s.len
 obtain⟨l0,hl0⟩:=Zaf hm0
 have hm0':(0:Int)<(m.length:Int):=by omega
 rw[Zab,A.k46 (by simp)]
 simp[A.b46]
 refine Zaj [(3,38)] (fun e r st=>e=.exit 0∧Zaa N st.w=[]∧Keeps h N st.h st.n∧∃v,r.get 3=some v∧OwI N st.h st.n v (Zrc m c)) (fun i r st=>Zaa N st.w=[]∧Keeps h N st.h st.n∧∃k v,k≤c∧i=c-k∧r.get 4=some (.int .i64 k)∧r.get 3=some v∧OwI N st.h st.n v (Zrc m k)) c ?_ ?_ ?_
 ·exact⟨by simp,Keeps.refl,0,_,by omega,by omega,by simp,by simp,OwI.nil⟩
 ·rintro i r ⟨H,n,W⟩ hr hf ⟨hW,hK,k,v,hk,rfl,h4,h3,hO⟩
  simp only at hW hK hO
  rw[Zah]
  have s1:=s.keep hK
  have ln:=hK.le
  obtain⟨i1,o1,c1,e1,w1,x,g1,g2,g3,g4,g5⟩:=s1.at hl0
  rw[Yqd]at g4
  have hlx:=Sl.len g5
  rw[Zm4,hc l0 (Yo3 hl0)]at hlx
  by_cases hlt:k<c
  ·have hlt':(k:Int)<(c:Int):=by omega
   simp[A.lb46_1,hr,h4,hlt',lu,hm0,g1,g3,g4,hlx]
   refine Zbl (Zyj s1 hc hlt hml (by simp[hr]) (by simp[h4]) (by simp) (by simp)) ?_
   rintro _ _ _ ⟨rfl,rfl,r2,f2,rfl,h5⟩
   have hr2:=f2.reg
   have hf2:=hf.inner (D':=[(5,6),(15,32)]) (by decide) (fun hx=>by simpa[Fx.set]using hx) hr2
   have hus:=@Zpg m k
   have hul:=@Zn5 m k
   cases hs:seenQ m k with
   |true=>
    rw[hs,Yo4 rfl,Yrb]at hus
    rw[hs]at h5
    simp(disch:=first|(simp;done)|omega|rfl) [hr2,hf2,h3,h4,h5,hW,hK]
    exact⟨c-(k+1),by omega,k+1,by omega,rfl,by simp,by rw[hus];exact hO⟩
   |false=>
    rw[hs,Yo0 (by decide)]at hus
    rw[hs]at h5
    have sp1:splice [V.int .i64 0] 0 [V.int .i64 k]=[V.int .i64 k]:=rfl
    simp[hr2,h3,h4,h5,sp1]
    have kD:Keeps H n (H.set n (.cells [.int .i64 k] 3 true)) (n+1):=Keeps.refl.new _
    obtain⟨v',h',w',j1,j2,j3,j4,j5,j6⟩:=OwI.push (B:=N) (x:=.slice n 0 1 (some 1) 1) (k:=k) (w:=W) (hO.keep kD) (Yoy _) (by omega) hW (by simp[Zaw,St.row,slc]) (by omega)
    have kF:Keeps h N h' (n+1+1):=(hK.trans kD).then (j3.keeps (by omega) j5)
    simp(disch:=first|(simp;done)|omega|rfl) [j1,hr2,hf2,h4,j2,kF]
    exact⟨c-(k+1),by omega,k+1,by omega,rfl,by simp,by rw[hus];exact j6⟩
  ·obtain rfl:k=c:=by omega
   simp[A.lb46_1,hr,hf,h3,h4,lu,hm0,g1,g3,g4,hlx,hW,hK]
   exact hO
 ·rintro _ r ⟨H,n,W⟩ hr ⟨rfl,hW,hK,v,h3,hO⟩
  simp only at hW hK hO
  simp[h3,Ret,hW,hK]
  exact hO.sl
set_option maxHeartbeats 2000000
def A.b6:Zae:=sr [⟨(some 2),.mov (.const (.bool false)),none⟩]
 (.seq (sr [mv 10 0,⟨(some 11),.call (.const (.func 8 [] [])) [(.tmp 10),(.const (.int .i64 6)),(.const (.int .i64 6))],none⟩,⟨(some 12),.un .not (.tmp 11),none⟩]
 (cd 12
 (sr [⟨(some 13),.call (.const (.func 10 [] [])) [],none⟩,mv 2 13]
 (.ret))
 (.skip)))
 (sr [mv 15 0,c1 16 43 15,mv 14 16,xt 17 14 0,xt 18 14 1,mv 3 17,mv 4 18]
 (sr [mv 20 0,c1 21 44 20,mv 19 21,xt 22 19 0,xt 23 19 1,mv 5 22,mv 6 23]
 (sr [mv 24 0,c1 25 27 24,mv 7 25]
 (sr [mc 8 0]
 (sr [mN 9]
 (.seq (sr [mv 26 7,ei 27 26 0]
 (cd 27
 (.reg [mv 28 0,c1 29 45 28,ln 30 29,mv 31 0,c1 32 46 31,mv 8 30,mv 9 32])
 (.skip)))
 (sr [mv 33 0,c1 34 47 33,mv 35 7,⟨(some 36),.bin .eql (.prim .int) false (.tmp 34) (.tmp 35),none⟩,mv 37 36,mg 38 4 37,mg 39 7 37,⟨(some 40),.bin .eql (.prim .int) false (.tmp 38) (.tmp 39),(some (37,true))⟩,pf 41 37 40,mv 42 41,mg 43 3 42,mg 44 8 42,⟨(some 45),.bin .eql (.prim .int) false (.tmp 43) (.tmp 44),(some (42,true))⟩,pf 46 42 45,mv 47 46,mg 48 6 47,mg 49 7 47,⟨(some 50),.bin .eql (.prim .int) false (.tmp 48) (.tmp 49),(some (47,true))⟩,pf 51 47 50,mv 52 51,mg 53 5 52,mg 54 9 52,⟨(some 55),.call (.const (.func 48 [] [])) [(.tmp 53),(.tmp 54)],(some (52,true))⟩,pf 56 52 55,mv 57 56,⟨(some 58),.call (.const (.func 10 [] [])) [],(some (57,true))⟩,pf 59 57 58,mv 2 59]
 (.ret)))))))))
theorem A.c6:A.F 6=some ⟨60,[.tmp 2],A.b6⟩:=by kernel_rfl
def A.k6:=@A.kk 6 _ _ _ A.c6 rfl
theorem Ycp{h:T O}{N:Nat}{u:V}{m:List (List Str)}(hm:MtS h N u m)(hP:P10 h N)(b1:m.length<9223372036854775808)(b2:∀x∈m,x.length<9223372036854775808):Fn A.C 6 [u] h N (fun z _ _=>z=.bool true):=by
 intro w
 have hAw:=fun w=>Zo4 (w:=w) hP
 have hA:∀w,A.C.call (.func 8 [] []) [u,.int .i64 6,.int .i64 6] ⟨h,N,w⟩=some (.bool (Zen 6 6 m),⟨h,N,w⟩):=fun w=>Yb7 (w:=w) (n:=6) (p:=6) hm b1 b2 (by decide) (by decide)
 rw[Zab,A.k6 (by simp)]
 cases sm:Zen 6 6 m with
 |false=>
  rw[sm]at hA
  simp[A.b6,hA,hAw,Ret]
  exact Keeps.refl
 |true=>
  rw[sm]at hA
  obtain⟨m1,m2⟩:=Zjx sm
  simp[A.b6,hA]
  refine Zac (Yg1 hm sm) ?_
  rintro _ H1 n1 k1 rfl
  simp[]
  refine Zac (Zxy (hm.keep k1) sm) ?_
  rintro _ H2 n2 k2 ⟨v,rfl,hv⟩
  have j2:=k1.trans k2
  simp[]
  refine Zac (Ycn (hm.keep j2) m1 m2) ?_
  rintro _ H3 n3 k3 rfl
  have j3:=j2.trans k3
  have hv3:=hv.keep k3
  unfold Yl4 Ylw at*
  by_cases hE:Zmh m 64 16=0
  ·have hM:=Zo1 hE sm
   obtain⟨l1,l2,l3,l4,l5⟩:=hM.lens
   have hx:=fun (k:Keeps h N H3 n3)=>(hm.keep k).rat fun r hr=>(hM.row r hr).2
   simp[hE]
   refine Zac (Zvi (hx j3) hM.qb.1 l1 l2 l3 (by decide) hM.qb.2 l4) ?_
   rintro x H4 n4 k4 t4
   have j4:=j3.trans k4
   have lx:=t4.len
   simp[lx]
   refine Zac (Zvg ((hx j3).keep k4) hM.qb.1 l2 l1 l3) ?_
   rintro y H5 n5 k5 t5
   have j5:=j4.trans k5
   simp[]
   refine Zac (Zky (hm.keep j5) m1 m2) ?_
   rintro _ H6 n6 k6 rfl
   have j6:=j5.trans k6
   have hAw6:=fun w=>Zo4 (w:=w) (hP.keep j6)
   simp only[hE,if_true]at hv3
   have hS:=fun w=>Zlm (w:=w) (((hv3.keep k4).keep k5).keep k6) (t5.keep k6) rfl (by have:=@Zn5 (Zrw m) (hdL m);omega)
   simp[hE,hS,hAw6,Ret]
   exact j6
  ·simp[hE]
   refine Zac (Zky (hm.keep j3) m1 m2) ?_
   rintro _ H6 n6 k6 rfl
   have j6:=j3.trans k6
   have hAw6:=fun w=>Zo4 (w:=w) (hP.keep j6)
   simp only[hE,if_false]at hv3
   have hS:=fun w=>Zlm (w:=w) (b:=[]) (v:=.nilslice) (hv3.keep k6) (.inl ⟨rfl,.inl rfl⟩) rfl (by decide)
   simp[hS,hAw6,Ret]
   exact j6
open Go
inductive Zki where
 |nil
 |emp (b:Addr)
 |sl (b:Addr) (l c:Nat) (f:Nat→ByteArray)
def Zki.val:Zki→Value
 |.nil=>.slice none 0 0
 |.emp b=>.slice (some b) 0 0
 |.sl b l c f=>.slice (some b) l c
def Zki.ok(W:World):Zki→Prop
 |.sl b l c f=>l≤c∧0<c∧∀i,i<c→W.cell? (b.add i)=some (.string (f i))
 |_=>True
def Zki.strs:Zki→List Str
 |.sl b l c f=>(List.range l).map fun i=>(f i).data.toList
 |_=>[]
def eOf(W:World)(a:Addr):TypeId:=match W.heap[a.block]? with
 |some (.cells _ e _)=>e
 |_=>0
def Zki.mv(i:Nat):Zki→V
 |.nil=>.nilslice
 |.emp b=>.empty
 |.sl b l c f=>.slice i 0 l (some c) 1
theorem Zuv{W:World}{a:Addr}{n:Nat}{f:Nat→Value}(hn:0<n)(hc:∀i,i<n→W.cell? (a.add i)=some (f i)):
  ∃c' lo hi,W.heap[a.block]?=some (.cells c' (eOf W a) (lo,hi))∧a.spot=none∧(∀i,i<n→c'[a.off+i]?=some (f i))∧a.off+n≤c'.size∧a.block<W.heap.size:=by
 have h0:=hc 0 hn
 have ha0:a.add 0=a:=by simp[Addr.add]
 rw[ha0]at h0
 obtain⟨c',e,fr,hb⟩:∃c' e fr,W.heap[a.block]?=some (.cells c' e fr):=by
  unfold World.cell? at h0
  split at h0
  ·rename_i c' e fr hb;exact⟨c',e,fr,hb⟩
  ·cases h0
 have hs:a.spot=none:=by
  unfold World.cell? at h0
  rw[hb]at h0
  simp only at h0
  split at h0
  ·cases h0
  ·rename_i h;simpa using h
 have hcell:∀i,i<n→c'[a.off+i]?=some (f i):=fun i hi=>by
  have:=hc i hi
  unfold World.cell? at this
  have e1:(a.add i).block=a.block:=by unfold Addr.add;split<;>rfl
  have e2:(a.add i).off=a.off+i:=by unfold Addr.add;split<;>simp_all
  have e3:(a.add i).spot=none:=by unfold Addr.add;split<;>simp_all
  rw[e1,hb]at this
  simp only[e2,e3,Option.isSome_none,Ypa,if_false]at this
  exact this
 have hlt:a.block<W.heap.size:=by
  rcases Nat.lt_or_ge a.block W.heap.size with h|h
  ·exact h
  ·rw[Array.getElem?_eq_none h]at hb;cases hb
 have hend:a.off+n≤c'.size:=by
  have:=hcell (n-1) (by omega)
  have h2:=(Array.getElem?_eq_some_iff.1 this).1
  omega
 obtain⟨lo,hi⟩:=fr
 exact⟨c',lo,hi,by rw[hb];simp[eOf,hb],hs,hcell,hend,hlt⟩
structure Ylu where
 a:Addr
 n:Nat
 f:Nat→Value
 g:Nat→V
def Ylu.ok(W:World)(r:Ylu):Prop:=0<r.n∧(∀i,i<r.n→W.cell? (r.a.add i)=some (r.f i))∧∀i,i<r.n→(r.f i).oneCell'=true
theorem Zpq{P:Program}{tbl:Nat→Option Zd8}{G:Nat}(hP:Zkh P tbl G){x:Zay}(hx:Zbn P x){F d:Nat}{f:FuncId}{mf:Zd8}(hf:Zko P f=some mf){args:List V}{xs:List Value}{v:V}{y:Value}{S:St}{μ:Mu}{W:World}
  (h:Ylk (Zf1 mf (Zbe (Zf8 x tbl F d) F) args S) v) (hh:Za8 P μ W S) (hS:S.w=[]) (hargs:VRs μ args xs) (hv:∀μ z,VR μ v z→z=y):
  Calls P f ⟨xs⟩ W fun e W'=>e=.returned y∧RowKit.Below W.heap.size W W':=by
 obtain⟨s,hrun,hw⟩:=h.ex
 obtain⟨fn,hfn,_⟩:=Zux hf
 have ih:=Zja hP.m hP.e hP.t hx F d
 have:=Yae (Ya4 ih hP.e (Yan hP.m hP.e ih) (Yfb ih hP.e) (Zto ih) F) hfn hf hh hargs hrun
 refine callsIn_wide.1 (CallsIn.mono (F:=Fence.wide) this fun e W' he=>?_)
 cases e with
 |returned z=>
  obtain⟨μ',ws,h1,h2⟩:=he
  have hws:ws=[]:=by have:=h2.wl;rw[hw,hS]at this;simpa using this.symm
  subst hws
  exact⟨by rw[hv _ _ h1],h2.chg.os,h2.chg.tape,h2.chg.output,h2.chg.size,fun k hk=>h2.chg.block k hk fun i hi=>by cases hi⟩
 |panicked _=>exact he.elim
 |outgrown=>exact he.elim
theorem Cx.calls{P:Program}{C:Cx}{G:Nat}(hP:Zkh P C.tbl G)(hx:Zbn P C.x){f:Nat}{mf:Zd8}(hf:Zko P f=some mf)(ht:C.tbl f=some mf){args:List V}{xs:List Value}{v:V}{y:Value}{S:St}{μ:Mu}{W:World}
  (hn:∀st,C.x (.func f [] []) args st=none) (h:Fn C f args S.h S.n (fun u _ _=>u=v)) (hh:Za8 P μ W S) (hS:S.w=[]) (hargs:VRs μ args xs) (hv:∀μ z,VR μ v z→z=y):
  Calls P f ⟨xs⟩ W fun e W'=>e=.returned y∧RowKit.Below W.heap.size W W':=by
 obtain⟨u,st',hc,hw,hk,hu⟩:=(h []).ex
 subst hu
 have hS':(⟨S.h,S.n,[]⟩:St)=S:=by obtain⟨a,b,c⟩:=S;simp only at hS;subst hS;rfl
 rw[hS']at hc
 rw[Cx.call_eq]at hc
 unfold Zdm at hc
 rw[hn]at hc
 simp only at hc
 obtain⟨n,hn'⟩:=Zjm (q:=fun n=>Zbe (C.at n) n) (fun n m hnm=>Zbt (Cx.at_mono hnm) n m hnm) (fun _ _ _ _ _ e=>Cx.code_need e) hc
 unfold Zcg at hn'
 simp only[ht,List.nil_append,Yrb]at hn'
 exact Zpq (F:=n) (d:=n) hP hx hf ⟨_,hn',hw⟩ hh hS hargs hv
end Go.Mx
