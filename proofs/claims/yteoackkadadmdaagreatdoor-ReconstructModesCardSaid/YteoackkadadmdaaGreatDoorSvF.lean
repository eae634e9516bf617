/-reconstruct-/
import Derived.Test.YteoackkadadmdaaGreatDoorPkD
set_option linter.all false
namespace Go.Mx
open Go Go.Proofs
set_option maxHeartbeats 2000000
set_option maxRecDepth 1000000
def Yot{h:T O}{N B P Cb c j0 k0:Nat}{r:T V}{u wv:V}{m:List (List Rat)}{ry:List Rat}{e e2:TypeId}{w:List Nat}{HN:Bool}(hu:gp h N u m)(YF:h.get B=some (.cells [.aa] 72 true))(YD:B<N)(hP:h.get P=some (.cells [wv] e2 HN))(YE:P<N)(hPB:¬P=B)(hC:h.get Cb=some (.cells [u] e true))(hCN:Cb<N)(hCB:¬Cb=B)(fV:0<m.length)(jQ:m.length<1000)(hc:cD m c)(fP:0<c)(cO:c<1000)(hw:dZ h N wv ry)(DZ:ry.length=m.length)(qa:cX m j0)(qb:∀q∈ry,Qb k0 q)(xR:1<=j0)(hj:j0<=400000000)(jW:k0<=400000000)(h5:r.get 5=some (.ptr B 0))(h3:r.get 3=some (.ptr P 0))(hww:ax B w=[]):
  Call A.C (.func 165 [] [.ptr Cb 0]) [.yield (N+1)] ⟨(h.set N (.defs true)).set (N+1) (.loop (wR r N)),N+1+1,w⟩ (fun _ st=>ax B st.w=[]/\N+2<=st.n/\(∀i,i<N->¬i=B->st.h.get i=h.get i)/\st.h.get N=some (.defs true)/\∃R v,st.h.get (N+1)=some (.loop R)/\R.st=.ready/\R.eQ=none/\st.h.get B=some (.cells [v] 72 true)/\iC (N+2) st.h st.n v (yN m ry c)):=by
 have gD:((h.set N (.defs true)).set (N+1) (.loop (wR r N))).get N=some (.defs true):=by rw[T.ag,ar (by omega),T.ag,aF rfl]
 have gL:((h.set N (.defs true)).set (N+1) (.loop (wR r N))).get (N+1)=some (.loop (wR r N)):=by rw[T.ag,aF rfl]
 have kG:ab h N ((h.set N (.defs true)).set (N+1) (.loop (wR r N))) (N+2):=(ab.refl.new _).new _
 generalize (h.set N (.defs true)).set (N+1) (.loop (wR r N))=G at*
 have gC:=(kG.get Cb hCN).trans hC
 have gB:=(kG.get B YD).trans YF
 have xO:=hu.ae kG
 obtain⟨us,a1,a2,a3⟩:=xO
 obtain⟨l0,fj⟩:=bp fV
 obtain⟨x0,b1,b2⟩:=a3 0 l0 fj
 obtain⟨i2,o2,Zi,e3,rw3,p1,p2,p3,p4⟩:=a1.at b1
 rw[ka]at p4
 have b3:=b2.1.len
 rw[hc l0 (cm fj)]at b3
 have lu:=a1.len
 rw[a2]at lu
 have Fl:(0:Int)<(m.length:Int):=by omega
 have lC:Cb<N+1+1:=by omega
 have lp2:i2<N+1+1:=by omega
 rw[aO,A.k165 (by simp)]
 simp[A.b165,gC,lu,fV,p1,p3,p4,b3]
 refine bP [(3,3),(8,18)] (fun e r' st=>e=.exit 0/\ax B st.w=[]/\dP (DU N B) G (N+2) st.h st.n/\st.h.get (N+1)=some (.loop (wR r N))/\∃v,st.h.get B=some (.cells [v] 72 true)/\iC (N+2) st.h st.n v (yN m ry c)) (fun i r' st=>ax B st.w=[]/\dP (DU N B) G (N+2) st.h st.n/\st.h.get (N+1)=some (.loop (wR r N))/\∃k v,k<=c/\i=c-k/\r'.get 8=some (.int .i64 k)/\st.h.get B=some (.cells [v] 72 true)/\iC (N+2) st.h st.n v (yN m ry k)) c ?_ ?_ ?_
 ·exact⟨by simp,dP.refl,gL,0,_,by omega,by omega,by simp,gB,iC.nil⟩
 ·rintro i r' ⟨H1,n1,W⟩ hr hf ⟨hW,U1,JB,k,v,hk,rfl,h8,Al,hO⟩
  simp only at hW U1 JB Al hO
  rw[bq]
  by_cases ay:k<c
  ·have bn:(k:Int)<(c:Int):=by omega
   have wZ:=U1.le
   have Yg:=(U1.get Cb (by omega) (by unfold DU;omega)).trans gC
   have gP1:=(U1.get P (by omega) (by unfold DU;omega)).trans ((kG.get P YE).trans hP)
   have lC1:Cb<n1:=by omega
   have UB:dP (fun i=>i=B) h N H1 n1:=⟨by omega,fun i hi hd=>(U1.get i (by omega) (by unfold DU;omega)).trans (kG.get i hi)⟩
   have fu:=hu.ux (v:=u) UB YF (by decide) fV fun l hl=>by rw[hc l hl];exact fP
   have A3:=hw.ux UB YF (by decide)
   simp[A.rz,hr,h8,bn,Yg]
   refine aA (Zxn fu (by omega) hc ay) ?_
   rintro x H2 n2 k2 hx
   have kI:=k2.le
   have lcl:(iQ m k).length=m.length:=by simp[iQ]
   simp
   refine zy (Yld ((k2.get (N+1) (by omega)).trans JB) ((k2.get B (by omega)).trans Al) ((k2.get P (by omega)).trans gP1) (hO.ae k2) (by omega) YD YE hx (A3.ae k2) (by omega) (by rw[lcl,DZ]) (by omega) (fun q hq=>(EN qa xR _ (by unfold fg;exact List.mem_map_of_mem (yb.2 ay))).2 q hq) qb hj jW h5 h3 hW) ?_
   rintro _ ⟨H3,n3,W3⟩ ⟨rfl,Bg,U3,Ny,v',Am,Ew⟩
   simp only at Bg U3 Ny Am Ew
   simp(disch:=first|(simp;done)|omega|rfl) [hf,h8,Bg,Ny,Am]
   exact⟨c-(k+1),by omega,(U1.trans k2.upd).trans U3,k+1,by omega,rfl,by simp,Ew⟩
  ·obtain rfl:k=c:=by omega
   simp[A.rz,hr,hf,h8,hW,U1,JB,Al]
   exact hO
 ·rintro _ r' ⟨H1,n1,W⟩ hr ⟨rfl,hW,U1,JB,v,Al,hO⟩
  simp only at hW U1 JB Al hO
  simp
  refine⟨xy fun i hi=>?_,U1.le,fun i hi hd=>(U1.get i (by omega) (by unfold DU;omega)).trans (kG.get i hi),(U1.get N (by omega) (by unfold DU;omega)).trans gD,wR r N,JB,rfl,rfl,v,Al,hO⟩
  rcases kb.1 hi with hi|hi
  ·exact ye hW i (yC hi).1
  ·exact ye hww i hi
def Zt2{h:T O}{N c j0 k0:Nat}{u v:V}{m:List (List Rat)}{ry:List Rat}(hu:gp h N u m)(hv:dZ h N v ry)(fV:0<m.length)(jQ:m.length<1000)(hc:cD m c)(fP:0<c)(cO:c<1000)(DZ:ry.length=m.length)(qa:cX m j0)(qb:∀q∈ry,Qb k0 q)(xR:1<=j0)(hj:j0<=400000000)(jW:k0<=400000000):Fn A.C 78 [u,v] h N (fun x h' n'=>gp h' n' x ((fg m c).map fun r=>yO r ry)):=by
 intro w
 obtain⟨f1,f2,f3⟩:=hv.1.form
 rw[aO,A.k78 (by simp)]
 simp[-V.cells, -V.one,A.b78,f1,f2]
 have kP:ab h N (h.set N (.cells [v] 76 true)) (N+1):=ab.refl.new _
 have gP:(h.set N (.cells [v] 76 true)).get N=some (.cells [v] 76 true):=by rw[T.ag,aF rfl]
 have kB:ab (h.set N (.cells [v] 76 true)) (N+1) ((h.set N (.cells [v] 76 true)).set (N+1) (.cells [.aa] 72 true)) (N+1+1):=ab.refl.new _
 have gB:((h.set N (.cells [v] 76 true)).set (N+1) (.cells [.aa] 72 true)).get (N+1)=some (.cells [.aa] 72 true):=by rw[T.ag,aF rfl]
 have Oe:=(kB.get N (by omega)).trans gP
 have kk:=kP.trans kB
 generalize (h.set N (.cells [v] 76 true)).set (N+1) (.cells [.aa] 72 true)=G at*
 have ov:V.one u=true/\V.cells u=[u]:=by
  obtain⟨us,s,_⟩:=hu
  exact⟨Sl.qc s,Sl.fG s⟩
 refine aA (Yje ov.1 ov.2) ?_
 rintro _ H3 n3 k3 ⟨e,rfl,c1,c2⟩
 have yV:=k3.le
 have Am:=(k3.get (N+1) (by omega)).trans gB
 have gP3:=(k3.get N (by omega)).trans Oe
 simp[]
 refine Zyl (gv:=.func 165 [] [.ptr (N+1+1) 0]) (by simp) rfl (Yot (B:=N+1) (P:=N) (c:=c) ((hu.ae kk).ae k3) Am (by omega) gP3 (by omega) (by omega) c2 c1 (by omega) fV jQ hc fP cO ((hv.ae kk).ae k3) DZ qa qb xR hj jW (by simp) (by simp) (by simp)) ?_
 rintro _ ⟨H4,n4,W4⟩ ⟨Bh,HV,U4,QI,R,v',YG,r1,r2,EK,hO4⟩
 simp only at Bh HV U4 QI YG EK hO4
 refine⟨R,YG,by rw[r1];simp,?_⟩
 have nc:Fs (.loop R):=fun c e w h=>by cases h
 have o5:=hO4.o8 (o:=.loop {R with st:=.exhausted}) YG nc
 have gD5:(H4.set (n3+1) (.loop {R with st:=.exhausted})).get n3=some (.defs true):=by rw[T.ag,ar (by omega)];exact QI
 have gB5:(H4.set (n3+1) (.loop {R with st:=.exhausted})).get (N+1)=some (.cells [v'] 72 true):=by rw[T.ag,ar (by omega)];exact EK
 have k5:∀i,i<N->(H4.set (n3+1) (.loop {R with st:=.exhausted})).get i=h.get i:=fun i hi=>by
  rw[T.ag,ar (by omega),U4 i (by omega) (by omega),k3.get i (by omega),kk.get i hi]
 show bH A.C _ (some (.ex (JX R.eQ) _ ⟨H4.set (n3+1) (.loop {R with st:=.exhausted}),n4,(n3+1)::W4⟩)) _
 generalize H4.set (n3+1) (.loop {R with st:=.exhausted})=F at*
 rw[r2]
 have lB:N+1<n4:=by omega
 have nd:Fs (.defs true):=fun c e w h=>by cases h
 simp[gB5,JX]
 refine(Yit gD5 fun i=>by simp).2 ?_
 simp[az]
 rw[<-Ypx DZ]
 exact⟨by rw[ar (by omega),ar (by omega)];exact Zn Bh (by omega),⟨by omega,fun i hi=>by rw[T.ag,ar (by omega)];exact k5 i hi⟩,(o5.o8 gD5 nd).HW⟩
variable {G X:List (List Rat)} {N n:Nat} {h:T O}
set_option maxHeartbeats 4000000
def A.vN:av:=sr [bi 15 .lss 14 13]
 (.seq (cd 15
 (.skip)
 (.exit 0))
 (.seq (.block 1 (sr [mv 16 14,mv 8 16]
 (.aX [mv 17 7,mv 18 0,mv 19 8,ia 20 1 18 19,ld 21 20,c1 22 136 21,mv 23 1,mv 24 8,ia 25 1 23 24,ld 26 25,ge 27 (.append 4 64 103 [.int .i64 0,.aa,.int .i64 0,.aa] (tq 22) (tq 26)),ge 28 (.aV 76 1 1 [.aa] [(0,1,(tq 27))]),ge 29 (.append 1 24 76 [.aa] (tq 17) (tq 28)),mv 7 29] [0,0,0,6,14,30,0,0,192,448,1022,2046,4095,8191])))
 (.aR [bc 30 .add 14 1,mv 14 30])))
def A.b62:av:=sr [mN 4,ge 5 (.ba (.const (.bool false)))]
 (sr [mv 11 0,ln 12 11,ge 6 (.alloc [.int .i64 0] 3),so 6 12]
 (sr [mN 7]
 (.seq (sr [ld 13 6,mc 14 0]
 (.block 0 (.loop A.vN)))
 (sr [mv 32 7,c1 33 56 32,mv 31 33,xt 34 31 0,xt 35 31 1,mv 9 34,mv 10 35]
 (.seq (.seq (.aX [mv 36 10,ln 37 36,ld 38 6,bi 39 .lss 37 38,mv 40 39,mh 41 10 40,gz 42 40 (.load none (tq 6)),gz 43 40 (.bin .sub (.node []) false (tq 42) (kq 1)),gz 44 40 (.aU 1 (tq 41) (tq 43)),gz 45 40 (.load none (tq 44)),gz 46 40 (.load none (tq 6)),gz 47 40 (.bin .sub (.node []) false (tq 46) (kq 1)),gz 48 40 (.bin .neq (.aM .int) false (tq 45) (tq 47)),pt 49 40 48] [0,1,0,7,15,31,31,95,255,511,31,1055,4095,8191])
 (cd 49
 (sr [mN 4,ge 5 (.ba (.const (.bool false)))]
 (.ret))
 (.skip)))
 (sr [mv 50 9,ge 51 (.cP 138 [] [tq 6]),c2 52 137 50 51,mv 4 52,ge 5 (.ba (.const (.bool true)))]
 (.ret)))))))
def A.c62:A.F 62=some ⟨53,[.tmp 4,.tmp 5],A.b62⟩:=by kernel_rfl
def A.k62:=@A.kk 62 _ _ _ A.c62 rfl
def Zpi{st aB:St}{z:Nat}{i o:Nat}{cp:Option Nat}{s:Nat}{v':V}{x y:Option V}(e:mB st z (some (.slice i o n cp s)) (some x) (some y) (some none)=some (v',aB)):∀j∈cR v',j=i:=by
 unfold mB pC at e
 simp only[El,Src.ev]at e
 cases cp<;>simp only at e<;>repeat' split at e
 all_goals first
  |cases e;done
  |(simp only[al,bF]at e
    obtain⟨rfl,_⟩:=e
    simp[cR])
def dZ.drop{v:V}{l:List Rat}{w:List Nat}(hu:dZ h N v l)(hn:n<=l.length)(h0:0<l.length):∃v',mB ⟨h,N,w⟩ 4 (some v) (some (some (.int .i64 n))) (some none) (some none)=some (v',⟨h,N,w⟩)/\dZ h N v' (l.drop n):=by
 obtain⟨⟨cs,h1,h2,h3⟩,h4⟩:=hu
 obtain⟨v',e1,e2⟩:=Z0 (w:=w) (by decide) h1 (lo:=n) (hi:=cs.length) (by omega) (aW _) (some (.int .i64 n)) none (.inl rfl) (.inr ⟨rfl,rfl⟩)
 rw[eZ (aW _)]at e2
 refine⟨v',e1,⟨cs.drop n,e2,by simp[h2],fun j q hq=>?_⟩,fun i hi=>?_⟩
 ·rw[fh]at hq ⊢
  exact h3 _ q hq
 ·rcases h1 with⟨hc,_⟩|⟨i',o,cp,c,e,oC,rfl,_⟩
  ·rw[hc]at h2
   simp at h2
   omega
  ·have:=Zpi e1 i hi
   exact h4 i (by simp[cR,this])
def Yp7{P:Nat}{u:V}{l:List Rat}{e:TypeId}{rw:Bool}(hp:h.get P=some (.cells [.int .i64 n] e rw))(hP:P<N)(hu:dZ h N u l)(hn:n<=l.length)(h0:0<l.length):jR A.C (.func 138 [] [.ptr P 0]) [u] h N (fun x h' n'=>dZ h' n' x (l.drop n)):=by
 intro w
 obtain⟨v',e1,e2⟩:=dZ.drop (w:=[]) hu hn h0
 rw[aO,A.k138 (by simp)]
 simp[A.b138,hp,AG,e1,az]
 exact⟨ab.refl,e2⟩
def Ya3{k:Nat}(h:k<G.length):(de G X)[k]?=some (G[k]?.getD []++X[k]?.getD []):=by simp[de,h]
def Ya2{K:Nat}(hG:cX G K)(hX:cX X K):cX (de G X) K:=fun r hr q hq=>by
 obtain⟨i,hi,rfl⟩:=eM.1 hr
 rcases kb.1 hq with h|h
 ·exact hG.at q h
 ·exact hX.at q h
def Ybk{c:Nat}{B:Nat->Nat}{u v:V}(hu:gp h N u G)(hv:gp h N v X)(hG:cD G n)(hX:cD X c)(hl:G.length=n)(hx:X.length=n)(h0:0<n)(hn:n<100)(fP:0<c)(hc:c<100)(xB:∀i,1<=B i)(Yn:∀k,cX (bf (de G X) k).1 (B (bf (de G X) k).2.1))(hB:∀i,i<n->3*B i<=400000000):Fn A.C 62 [u,v] h N (fun x h' n'=>(xZ G X n c=none/\x=.bg [.aa,.bool false])\/∃H y,xZ G X n c=some H/\x=.bg [y,.bool true]/\gp h' n' y H):=by
 intro w
 have lu:=hu.len
 have YH:ab h N ((h.set N (.cells [.int .i64 0] 3 true)).set N (.cells [.int .i64 n] 3 true)) (N+1):=(ab.refl.new _).set (aW _)
 have gB0:((h.set N (.cells [.int .i64 0] 3 true)).set N (.cells [.int .i64 n] 3 true)).get N=some (.cells [.int .i64 n] 3 true):=by rw[T.ag,aF rfl]
 rw[aO,A.k62 (by simp)]
 simp[A.b62,lu,hl,bO,ad]
 generalize (h.set N (.cells [.int .i64 0] 3 true)).set N (.cells [.int .i64 n] 3 true)=G0 at*
 have kV:=hu.ae YH
 have l7:=hv.ae YH
 have lW:∀t,t<=n->((de G X).take t).length=t:=fun t ht=>by rw[gm,vL];omega
 refine bP [(7,8),(14,30)] (fun e r st=>e=.exit 0/\ax N st.w=[]/\ab G0 (N+1) st.h st.n/\∃v,r.get 7=some v/\iC (N+1) st.h st.n v (de G X)) (fun i r st=>ax N st.w=[]/\ab G0 (N+1) st.h st.n/\∃k v,k+i=n/\r.get 14=some (.int .i64 (k:Nat))/\r.get 7=some v/\iC (N+1) st.h st.n v ((de G X).take k)) n ?_ ?_ ?_
 ·exact⟨by simp,ab.refl,0,_,by omega,by simp,by simp,iC.nil⟩
 ·rintro i r ⟨H,m,W⟩ hr hf ⟨hW,hK,k,y,hk,nZ,h7,hO⟩
  simp only at hW hK hO
  rw[bq]
  have lm:=hK.le
  cases i with
  |zero=>
   obtain rfl:k=n:=by omega
   rw[eZ (by rw[vL];omega)]at hO
   simp[A.vN,hr,hf,nZ,h7,hW,hK]
   exact hO
  |succ i=>
   have ay:k<n:=by omega
   have bn:(k:Int)<(n:Int):=by omega
   obtain⟨ga,HE⟩:=bp (l:=G) (k:=k) (by omega)
   obtain⟨xa,YI⟩:=bp (l:=X) (k:=k) (by omega)
   have QL:=hG ga (cm HE)
   have lxa:=hX xa (cm YI)
   obtain⟨i1,o1,c1,e1,w1,a,q1,q2,q3,q4,q5⟩:=J8 (kV.ae hK) HE
   have lv:=hv.len
   rw[hx]at lv
   simp[A.vN,hr,nZ,h7,bn,lu,hl,q1,q2,q3,q4]
   refine aA (Yfd q5.1 (by omega) (by omega)) ?_
   rintro z H2 n2 k2 hz
   have kI:=k2.le
   obtain⟨i3,o3,c3,e3,w3,b,p1,p2,p3,p4,p5⟩:=J8 ((l7.ae hK).ae k2) YI
   obtain⟨v1,h1,w1',j1,j2,j3,j4⟩:=Ft.many (w:=[]) hz p5.1 (by omega) (by omega) (by omega)
   simp[-V.cells, -V.one,hr,lv,p1,p2,p3,p4,yl,j1,bn]
   have ft:=j4.frt
   obtain⟨f1,f2,f3⟩:=ft.1.form
   have k3:ab H m h1 (n2+1):=k2.then j3
   have kD:ab h1 (n2+1) (h1.set (n2+1) (.cells [v1] 76 true)) (n2+1+1):=ab.refl.new _
   have pq:ad [V.aa] 0 [v1]=[v1]:=rfl
   obtain⟨v',h',w',s1,s2,s3,s4⟩:=iC.push (N0:=N+1) (x:=.slice (n2+1) 0 1 (some 1) 1) (w:=[]) ((hO.ae k3).ae kD) (ft.ae kD) (by omega) (by simp[eD,St.row,aE]) (by rw[lW k (by omega)];omega)
   simp(disch:=first|(simp;done)|omega|rfl) [-V.cells, -V.one,hf,nZ,f1,f2,pq,yl,s1]
   refine⟨i,by omega,xy fun j hj=>?_,((hK.trans k3).trans kD).then s3,k+1,by omega,by simp,?_⟩
   ·rcases kb.1 hj with hj|hj
    ·have:=ye (s2.trans rfl) j (yC hj).1
     omega
    ·rcases kb.1 hj with hj|hj
     ·have:=ye (j2.trans rfl) j (yC hj).1
      omega
     ·exact ye hW j hj
   ·rw[tE,Ya3 (by omega),HE,YI]
    exact s4
 ·rintro _ r ⟨H,m,W⟩ hr ⟨rfl,hW,hK,y,h7,hO⟩
  simp only at hW hK hO
  have lm:=hK.le
  have I:=Fu (Bo hG hX (by omega)) (n:=n+c)
  have iz:=(tG (Bo hG hX (by omega)) (n:=n+c)).2
  rw[vL,hl]at iz
  simp[h7]
  refine aA (Yae hO.HW (Bo hG hX (by omega)) (by rw[vL];omega) (by rw[vL];omega) (by omega) xB Yn fun i hi _=>hB i (by rw[vL]at hi;omega)) ?_
  rintro _ H2 n2 k2 ⟨rv,pv,rfl,CH,su⟩
  have kI:=k2.le
  have tI:=su.sl
  have kK:=tI.len
  rw[gk]at kK
  have Nz:(za (bf (de G X) (n+c)).2.2).length=(bf (de G X) (n+c)).2.1:=by simp[za,I.len]
  rw[Nz]at kK
  have gN:=(k2.get N (by omega)).trans ((hK.get N (by omega)).trans gB0)
  have YJ:N<n2:=by omega
  have kk:=(YH.trans (hK.trans k2))
  by_cases c1:(bf (de G X) (n+c)).2.1<n
  ·have c1':((bf (de G X) (n+c)).2.1:Int)<(n:Int):=by omega
   have hs:xZ G X n c=none:=by unfold xZ;rw[aF (.inl c1)]
   simp[hr,kK,gN,YJ,c1',az,hW,cA.cB]
   exact⟨kk,hs⟩
  ·have hd:(bf (de G X) (n+c)).2.1=n:=by omega
   rw[hd]at kK Nz
   obtain⟨p,hp⟩:=bp (l:=(bf (de G X) (n+c)).2.2) (k:=n-1) (by have:=I.len;omega)
   obtain⟨i3,o3,c3,e3,w3,p1,p2,p3,p4⟩:=tI.at (j:=n-1) (x:=.int .i64 p) (by simp[dI,za,hp])
   have wZ:(n:Int)-1=((n-1:Nat):Int):=by omega
   have ff:((n-1:Nat):Int)<(n:Int):=by omega
   have LX:n-1<n:=by omega
   have cnn:¬(n:Int)<(n:Int):=by omega
   by_cases c2:p=n-1
   ·subst c2
    have hs:xZ G X n c=some ((qd (de G X) (n+c)).map (List.drop n)):=by
     unfold xZ
     rw[ar]
     rw[hd,hp]
     simp
    have rl:∀r∈qd (de G X) (n+c),r.length=n+c:=Oj (Bo hG hX (by omega))
    simp(disch:=first|(simp;done)|omega|rfl) [hr,kK,gN,YJ,cnn,wZ,p1,p2,p3,p4]
    refine aA (Ydf (List.drop n) CH (by rw[JU (Bo hG hX (by omega)),hd];omega) fun l jS u' h' n' k' mE=>Yp7 ((k'.get N (by omega)).trans gN) (by have:=k'.le;omega) mE (by rw[rl l jS];omega) (by rw[rl l jS];omega)) ?_
    rintro z H3 n3 k3 hz
    simp[az,hW]
    exact⟨kk.trans k3,_,hs,hz⟩
   ·have c2':¬(p:Int)=((n-1:Nat):Int):=by omega
    have hs:xZ G X n c=none:=by
     unfold xZ
     rw[aF (.inr (by rw[hp];exact c2))]
    simp(disch:=first|(simp;done)|omega|rfl) [hr,kK,gN,YJ,cnn,wZ,p1,p2,p3,p4,c2',az,hW]
    exact⟨kk,hs⟩
variable {D M:List (List Rat)} {w:List Rat}
set_option maxHeartbeats 2000000
def A.b42:av:=sr [mN 6,ge 7 (.ba (.const (.bool false)))]
 (sr [mv 10 0,mv 11 2,mv 12 0,ge 13 (.aU 1 (tq 12) (kq 0)),ld 14 13,ln 15 14,c2 16 64 11 15,c2 17 63 10 16,mv 8 17]
 (sr [mv 18 8,mv 19 1,c2 20 78 18 19,mv 9 20]
 (sr [mv 21 9,mv 22 8,c2 23 63 21 22,mv 24 9,c2 25 62 23 24,xt 26 25 0,xt 27 25 1,mv 6 26,mv 7 27]
 (.ret))))
def A.c42:A.F 42=some ⟨28,[.tmp 6,.tmp 7],A.b42⟩:=by kernel_rfl
def A.k42:=@A.kk 42 _ _ _ A.c42 rfl
def pU(D M:List (List Rat))(w:List Rat):List (List Rat):=(fg (k_ D M) M.length).map fun r=>yO r w
def tu(D M:List (List Rat))(w:List Rat):List (List Rat):=k_ (pU D M w) (fg (k_ D M) M.length)
def EM(D M:List (List Rat))(w:List Rat):Option (List (List Rat)):=xZ (tu D M w) (pU D M w) M.length D.length
def Bq:(pU D M w).length=M.length:=by
 unfold pU
 rw[jP,sh]
def Yu:cD (pU D M w) w.length:=fun r hr=>by
 obtain⟨x,_,rfl⟩:=eM.1 hr
 simp[yO]
def Nu:cD (tu D M w) M.length:=by
 have:=@QN (pU D M w) (fg (k_ D M) M.length)
 rw[sh]at this
 exact this
def Jx:(tu D M w).length=M.length:=by
 unfold tu
 rw[Nt,Bq]
def Ys{n J K:Nat}(hM:cD M n)(qD:cX D K)(qM:cX M J)(hJ:1<=J)(hK:1<=K):cX (k_ D M) (n*(J+K+1)+1):=Yj0 qD (fun r hr=>⟨hM r hr,qM r hr⟩) hJ hK
def QO{B L:Nat}(q:cX (k_ D M) B)(qw:∀x∈w,Qb L x)(hB:1<=B)(hL:1<=L):cX (pU D M w) (B+L):=fun r hr=>by
 obtain⟨x,hx,rfl⟩:=eM.1 hr
 exact Ypt (EN q hB x hx).2 qw hB hL
def Yq7{B L:Nat}(q:cX (k_ D M) B)(qw:∀x∈w,Qb L x)(hB:1<=B)(hL:1<=L):cX (tu D M w) (D.length*(B+(B+L)+1)+1):=
 Yj0 (QO q qw hB hL) (fun r hr=>by
  have:=EN (c:=M.length) q hB r hr
  rw[Nt]at this
  exact this) hB (by omega)
def Yh1{h:T O}{N n J K L:Nat}{u v y:V}(hu:gp h N u D)(hv:dZ h N v w)(hy:gp h N y M)(hD:cD D n)(hM:cD M n)(hw:w.length=D.length)(oK:0<n)(hn:n<50)(lZ:0<D.length)(hs:D.length<50)(jW:0<M.length)(hk:M.length<50)(qD:cX D K)(qM:cX M J)(qw:∀x∈w,Qb L x)(hJ:1<=J)(hK:1<=K)(hL:1<=L)(hS:D.length*(n*(J+K+1)+1+(n*(J+K+1)+1+L)+1)+1+2*(n*(J+K+1)+1+L+1)<=400000000){B:Nat->Nat}(Yq:∀i,1<=B i)(Bp:∀k,cX (bf (de (tu D M w) (pU D M w)) k).1 (B (bf (de (tu D M w) (pU D M w)) k).2.1))(Yr:∀i,i<M.length->3*B i<=400000000):Fn A.C 42 [u,v,y] h N (fun x h' n'=>(EM D M w=none/\x=.bg [.aa,.bool false])\/∃H z,EM D M w=some H/\x=.bg [z,.bool true]/\gp h' n' z H):=by
 intro W
 have qS:=Ys hM qD qM hJ hK
 have lS:(k_ D M).length=D.length:=Nt
 have tt:=Yt hM
 obtain⟨b1,ED⟩:∃b1,b1=n*(J+K+1)+1:=⟨_,rfl⟩
 have hb:n*(J+K+1)+1<=b1:=by omega
 have pe:J+K+1<=n*(J+K+1):=Nat.le_mul_of_pos_left _ oK
 rw[<-ED]at hS
 obtain⟨l0,fj⟩:=bp lZ
 obtain⟨i2,o2,c2,e2,w2,a,q1,q2,q3,q4,q5⟩:=J8 hu fj
 rw[ka]at q4
 have la:=q5.1.len
 rw[hD l0 (cm fj)]at la
 have lu:=hu.len
 have YK:(0:Int)<(D.length:Int):=by omega
 have QT:=qS
 rw[<-ED]at QT
 rw[aO,A.k42 (by simp)]
 simp[A.b42,lu,lZ,q1,q3,q4,la]
 refine aA (Zwk hy (by omega) hM (by omega)) ?_
 rintro x1 H1 n1 k1 sW
 simp[]
 refine aA (Yce (n:=n) (c:=M.length) (j:=J) (k:=K) (hu.ae k1) sW.HW hD QQ (by rw[sh];omega) (by rw[sh];exact oK) (by omega) (by rw[sh];omega) (by omega) qD (fun r hr=>(EN qM hJ r hr).2) hJ hK (by rw[sh];omega)) ?_
 rw[tt]
 rintro x2 H2 n2 k2 u_
 have k02:=k1.trans k2
 simp[]
 refine aA (Zt2 (c:=M.length) (j0:=b1) (k0:=L) u_ (hv.ae k02) (by omega) (by omega) QN jW (by omega) (by rw[lS];exact hw) QT qw (by omega) (by omega) (by omega)) ?_
 rintro x3 H3 n3 k3 Jy
 have k03:=k02.trans k3
 have NA:gp H3 n3 x3 (pU D M w):=Jy
 have rR:cD (pU D M w) D.length:=by rw[<-hw];exact Yu
 simp[]
 refine aA (Yce (n:=D.length) (c:=M.length) (j:=b1) (k:=b1+L) NA (u_.ae k3) rR QN (by rw[lS];exact aW _) (by rw[lS];exact lZ) (by rw[Bq];omega) (by rw[lS];omega) (by omega) (QO QT qw (by omega) hL) QT (by omega) (by omega) (by rw[lS];omega)) ?_
 rintro x4 H4 n4 k4 Fq
 have C2:gp H4 n4 x4 (tu D M w):=Fq
 simp[]
 refine aA (Ybk (n:=M.length) (c:=D.length) (B:=B) C2 (NA.ae k4) Nu rR Jx Bq jW (by omega) lZ (by omega) Yq Bp Yr) ?_
 rintro x5 H5 n5 k5 Nv
 have k05:=(k03.trans k4).trans k5
 rcases Nv with⟨a1,rfl⟩|⟨H,z,a1,rfl,a2⟩
 ·simp[az]
  exact⟨k05,a1⟩
 ·simp[az]
  exact⟨k05,H,a1,a2⟩
variable {N:Nat} {h:T O} {v:V}
def A.b41:av:=sr [mc 4 0]
 (.seq (sr [mv 6 0,ln 7 6,ei 8 7 0,ge 9 (.call (fq 91) [tq 8,.const (.int .i64 12)]),mv 10 0,ln 11 10,bc 12 .gtr 11 16,ge 13 (.call (fq 91) [tq 12,.const (.int .i64 5)]),ge 14 (.aV 28 1 2 [.int .i64 0,.int .i64 0] [(0,1,(tq 9)),(1,1,(tq 13))]),c1 15 70 14,mv 5 15]
 (sr [mv 16 5,ni 17 16 0]
 (cd 17
 (sr [mv 18 5,mv 4 18]
 (.ret))
 (.skip))))
 (sr [mv 19 0,mv 20 1,c2 21 103 19 20,mv 4 21]
 (.ret)))
def A.c41:A.F 41=some ⟨22,[.tmp 4],A.b41⟩:=by kernel_rfl
def A.k41:=@A.kk 41 _ _ _ A.c41 rfl
def A.b38:av:=sr [mc 2 0]
 (sr [ld 3 0,ld 4 1,c2 5 39 3 4,mv 2 5]
 (.ret))
def A.c38:A.F 38=some ⟨6,[.tmp 2],A.b38⟩:=by kernel_rfl
def A.k38:=@A.kk 38 _ _ _ A.c38 rfl
def A.b40:av:=sr [mc 2 0]
 (.seq (.aX [ld 3 0,ld 4 1,ge 5 (.aU 1 (tq 4) (kq 0)),ld 6 5,ln 7 6,c2 8 41 3 7,mv 2 8] [0,0,2,6,14,31,63])
 (.ret))
def A.c40:A.F 40=some ⟨9,[.tmp 2],A.b40⟩:=by kernel_rfl
def A.k40:=@A.kk 40 _ _ _ A.c40 rfl
def Ymq{l:List (List aQ)}{n:Nat}(hs:eP h N v l)(hl:l.length<100000)(hx:∀x∈l,x.length<100000/\∀s∈x,s.length<=100000):Fn A.C 41 [v,.int .i64 n] h N (fun u _ _=>u=.int .i64 (tv l n)):=by
 intro w
 have ml:=hs.len
 have e1:((l.length:Int)=0)=(l.length=0):=by apply propext;omega
 have e2:(16<(l.length:Int))=(16<l.length):=by apply propext;omega
 rw[aO,A.k41 (by simp)]
 unfold tv
 have kN:∀o,ab h N (h.set N o) (N+1):=fun o=>ab.refl.new o
 by_cases c0:l.length=0
 ·simp[A.b41,ml,Mm,ad,Xs,c0,bK,az]
  exact kN _
 ·by_cases c1:16<l.length
  ·simp[A.b41,ml,Mm,ad,Xs,e2,c0,c1,bK,az]
   exact kN _
  ·simp[A.b41,ml,Mm,ad,Xs,e2,c0,c1,bK]
   refine aA (Yhb (hs.ae (kN _)) hl hx) ?_
   rintro _ H2 n2 k2 rfl
   simp[az]
   exact(kN _).trans k2
def Yne{q p:Nat}{u:V}{m:List (List aQ)}{l:List aQ}{eq ep:TypeId}{wq wp:Bool}(Fe:h.get q=some (.cells [u] eq wq))(NT:q<N)(lD:h.get p=some (.cells [v] ep wp))(Tf:p<N)(hs:eP h N u m)(jQ:m.length<100000)(dh:∀x∈m,x.length<100000/\∀s∈x,s.length<=100000)(ht:Sl h N v (strs l))(xx:l.length<100000)(JL:∀s∈l,s.length<=100000):jR A.C (.func 38 [] [.ptr q 0,.ptr p 0]) [] h N (fun z _ _=>z=.int .i64 (C8 m l)):=by
 intro w
 rw[aO,A.k38 (by simp)]
 simp[A.b38,Fe,lD]
 refine aA (Yrq hs ht jQ dh xx JL) ?_
 rintro _ H2 n2 k2 rfl
 simp[az]
 exact k2
def Ynd{p q:Nat}{u:V}{m:List (List aQ)}{l:List aQ}{ep eq:TypeId}{wp wq:Bool}(lD:h.get p=some (.cells [v] ep wp))(Tf:p<N)(Fe:h.get q=some (.cells [u] eq wq))(NT:q<N)(hs:eP h N u m)(jQ:m.length<100000)(dh:∀x∈m,x.length<100000/\∀s∈x,s.length<=100000){b:List (List aQ)}(hb:eP h N v b)(CI:b.length<100000)(XL:∀x∈b,x.length<100000/\∀s∈x,s.length<=100000)(m0:0<m.length):jR A.C (.func 40 [] [.ptr p 0,.ptr q 0]) [] h N (fun z _ _=>z=.int .i64 (tv b (iS m))):=by
 intro w
 have ml:=hs.len
 have fU:0<(m.length:Int):=by omega
 obtain⟨l0,fj⟩:=bp m0
 obtain⟨i0,o0,YL,e0,Ev,u0,z1,z2,z3,z4,z5⟩:=hs.at fj
 have z6:=z5.len
 rw[tD]at z6
 rw[ka]at z4
 obtain⟨n,hn⟩:∃n,n=l0.length:=⟨_,rfl⟩
 have en:iS m=n:=by simp[iS,fj,hn]
 rw[en]
 rw[<-hn]at z6
 rw[aO,A.k40 (by simp)]
 simp[A.b40,Fe,lD,ml,m0,z1,z2,z3,z4,z6]
 refine aA (Ymq hb CI XL) ?_
 rintro _ H2 n2 k2 rfl
 have vt:=k2.le
 simp[]
 refine(D9 (by simp[-ax,NT,Tf])).2 ?_
 simp[az]
 exact k2
set_option maxHeartbeats 1000000
def A.vO:av:=sr [bi 12 .lss 11 10]
 (.seq (cd 12
 (.skip)
 (.exit 0))
 (.seq (.block 1 (sr [ia 13 1 9 11,ld 14 13,mv 6 14]
 (sr [mv 16 6,c1 17 67 16,mv 15 17,xt 18 15 0,xt 19 15 1,mv 7 18,mv 8 19]
 (.seq (sr [mv 20 8,ni 21 20 0]
 (cd 21
 (sr [mv 22 8,mN 2,mv 3 22]
 (.ret))
 (.skip)))
 (.aR [mv 23 4,mv 24 7,ge 25 (.aV 23 1 1 [.aa] [(0,1,(tq 24))]),ge 26 (.append 1 24 23 [.aa] (tq 23) (tq 25)),mv 4 26])))))
 (.aR [bc 27 .add 11 1,mv 11 27])))
def A.b45:av:=sr [mN 2,mc 3 0]
 (sr [mN 4]
 (.seq (sr [mv 9 0,ln 10 9,mc 11 0]
 (.block 0 (.loop A.vO)))
 (sr [mv 28 4,mv 2 28,mc 3 0]
 (.ret))))
def A.c45:A.F 45=some ⟨29,[.tmp 2,.tmp 3],A.b45⟩:=by kernel_rfl
def A.k45:=@A.kk 45 _ _ _ A.c45 rfl
def Yg7{h:T O}{N k:Nat}{u:V}{m:List (List Rat)}(hu:gp h N u m)(hP:kJ h N)(hl:m.length<10000)(hr:∀r∈m,r.length<1000000000)(hq:cX m k)(hk:k<=400000000):Fn A.C 45 [u] h N (fun x h' n'=>(lF m=true/\x=.bg [.aa,.int .i64 4])\/(lF m=false/\∃v,x=.bg [v,.int .i64 0]/\gh h' n' v m)):=by
 intro w
 have l1:=hu.len
 rw[aO,A.k45 (by simp)]
 simp[A.b45,l1]
 refine bP [(2,4),(6,8),(11,27)] (fun e r st=>ax N st.w=[]/\ab h N st.h st.n/\((e=.exit 0/\lF m=false/\∃v,r.get 4=some v/\jf N st.h st.n v m)\/(e=.ret/\lF m=true/\r.get 2=some .aa/\r.get 3=some (.int .i64 4)))) (fun i r st=>ax N st.w=[]/\ab h N st.h st.n/\∃t v,t+i=m.length/\r.get 11=some (.int .i64 t)/\lF m=lF (m.drop t)/\r.get 4=some v/\jf N st.h st.n v (m.take t)) m.length ?_ ?_ ?_
 ·exact⟨by simp,ab.refl,0,_,by omega,by simp,by simp,by simp,jf.nil⟩
 ·rintro i r ⟨H,n,W⟩ eC hf ⟨hW,hK,t,v,ht,jY,hz,h4,hO⟩
  simp only at hW hK hO
  rw[bq]
  have le:=hK.le
  cases i with
  |zero=>
   obtain rfl:t=m.length:=by omega
   rw[mm]at hz
   rw[eZ (aW _)]at hO
   have uj:lF m=false:=by rw[hz];rfl
   simp[A.vO,eC,hf,jY,h4,uj,hW,hK]
   exact hO
  |succ i=>
   have ay:t<m.length:=by omega
   have bn:(t:Int)<(m.length:Int):=by omega
   obtain⟨row,ak⟩:=bp ay
   have hm:=cm ak
   obtain⟨i1,o1,x1,e1,w1,c,p1,p2,p3,p4,p5⟩:=J8 (hu.ae hK) ak
   rw[jq ak]at hz
   simp[A.vO,eC,jY,bn,l1,p1,p3,p4]
   refine aA (Yge p5.1 (hP.ae hK) (hr row hm) (hq row hm) hk) ?_
   rintro _ H3 n3 k3 (⟨hb,rfl⟩|⟨hb,x,rfl,tx⟩)
   ·have uj:lF m=true:=by rw[hz];simp[lF,hb]
    simp[hf,hW,uj]
    exact hK.trans k3
   ·have uj:lF m=lF (m.drop (t+1)):=by rw[hz];simp[lF,hb]
    have ox:V.one x=true/\V.cells x=[x]:=⟨Sl.qc tx.1,Sl.fG tx.1⟩
    have yV:=k3.le
    have kD:ab H3 n3 (H3.set n3 (.cells [x] 23 true)) (n3+1):=ab.refl.new _
    have pq:ad [V.aa] 0 [x]=[x]:=rfl
    obtain⟨v',h',w',j1,j2,j3,j4⟩:=jf.push (N0:=N) (x:=.slice n3 0 1 (some 1) 1) (w:=W) ((hO.ae k3).ae kD) (sF.ae tx kD) (by omega) (by simp[eD,St.row,aE]) (by rw[gm];omega)
    have kF:ab h N h' (n3+1+1):=((hK.trans k3).trans kD).then j3
    simp(disch:=first|(simp;done)|omega|rfl) [-V.cells, -V.one,hf,jY,h4,uj,ox.1,ox.2,pq,yl,j1]
    exact⟨i,by omega,by rw[j2];exact hW,kF,t+1,by omega,by simp,rfl,by rw[tE,ak];exact j4⟩
 ·rintro e r ⟨H,n,W⟩ eC ⟨hW,hK,⟨rfl,hz,v,h4,hO⟩|⟨rfl,hz,h2,h3⟩⟩
  ·simp only at hW hK hO
   simp[h4,az,hW,hK,hz]
   exact hO.uf
  ·simp only at hW hK
   simp[h2,h3,az,hW,hK,hz]
variable {D M:List (List Rat)} {a n:Nat} {b m:List (List aQ)} {l:List aQ} {w:List Rat}
set_option maxHeartbeats 2000000
def A.b8:av:=sr [bx 3 22 0,bx 4 23 1,bx 5 22 2,mN 6,mc 7 0]
 (sr [ge 11 (.cP 38 [] [tq 3,tq 4]),ge 12 (.cP 40 [] [tq 5,tq 3]),ge 13 (.aV 70 1 2 [.bs,.bs] [(0,1,(tq 11)),(1,1,(tq 12))]),c1 14 37 13,mv 8 14]
 (.seq (sr [mv 15 8,ni 16 15 0]
 (cd 16
 (sr [mv 17 8,mN 6,mv 7 17]
 (.ret))
 (.skip)))
 (.seq (.aX [ld 19 3,c1 20 43 19,ld 21 4,c1 22 44 21,ld 23 5,c1 24 43 23,ge 25 (.call (fq 42) [tq 20,tq 22,tq 24]),mv 18 25,xt 26 18 0,xt 27 18 1,mv 9 26,mv 10 27] [0,1,0,7,0,31,63,127,255,255,511,2047])
 (.seq (sr [mv 28 10,ge 29 (.un .not (tq 28))]
 (cd 29
 (sr [mN 6,mc 7 14]
 (.ret))
 (.skip)))
 (sr [mv 30 9,c1 31 45 30,xt 32 31 0,xt 33 31 1,mv 6 32,mv 7 33]
 (.ret))))))
def A.c8:A.F 8=some ⟨34,[.tmp 6,.tmp 7],A.b8⟩:=by kernel_rfl
def A.k8:=@A.kk 8 _ _ _ A.c8 rfl
def Zp0{k b:Nat}(h:og k a=true)(h_:a<=b):og k b=true:=by
 unfold og at*
 have:=of_decide_eq_true h
 exact decide_eq_true (by omega)
def Znh{b:Nat}(h:eY a l=true)(h_:a<=b):eY b l=true:=by
 unfold eY at*
 rw[ib]at*
 exact⟨Zp0 h.1 h_,h.2⟩
def Zug{b c d:Nat}(h:mi a b m=true)(hac:a<=c)(EC:b<=d):mi c d m=true:=by
 unfold mi at*
 rw[ib]at*
 exact⟨Zp0 h.1 hac,lA.2 fun x hx=>Znh (lA.1 h.2 x hx) EC⟩
structure QU (b:List (List aQ)) (n:Nat):Prop where
 pos:0<b.length
 le:b.length<=4
 row:∀r∈b,r.length=n/\uc r
def Yhz(h:tv b n=0)(hs:∀r∈b,eY 6 r=true)(h4:b.length<=4\/16<b.length):QU b n:=by
 unfold tv at h
 split at h
 ·exact absurd h (by decide)
 split at h
 ·exact absurd h (by decide)
 refine⟨by omega,by omega,fun r hr=>Za (Bv h _ (eM.2 ⟨r,hr,rfl⟩)) (hs r hr)⟩
def QU.rat(h:QU b n):cD (jj b) n/\cX (jj b) 100:=⟨fun r hr=>by
 obtain⟨x,hx,rfl⟩:=eM.1 hr
 simp[vP,(h.row x hx).1],fun r hr=>by
 obtain⟨x,hx,rfl⟩:=eM.1 hr
 exact(h.row x hx).2.qb⟩
def yM(m:List (List aQ))(l:List aQ)(b:List (List aQ)):Int:=bK [C8 m l,tv b (iS m)]
def vQ(m:List (List aQ))(l:List aQ)(b:List (List aQ)):Int:=if yM m l b=0 then (if EM (jj m) (jj b) (vP l)=none then 14 else 0) else yM m l b
def NB(m:List (List aQ))(l:List aQ)(b:List (List aQ)):List (List Rat):=(EM (jj m) (jj b) (vP l)).getD []
def Yki(h:yM m l b=0)(sm:mi 6 6 m=true)(sl:eY 6 l=true)(sb:∀r∈b,eY 6 r=true)(h4:b.length<=4\/16<b.length):Fb m (iS m)/\l.length=m.length/\uc l/\QU b (iS m):=by
 have z1:=Bv h (C8 m l) (by simp)
 have z2:=Bv h (tv b (iS m)) (by simp)
 obtain⟨a1,a2,a3⟩:=Zf z1 sm sl
 exact⟨a1,a2,a3,Yhz z2 sb h4⟩
def Yp5{G X H:List (List Rat)}{c Z:Nat}{B:Nat->Nat}(hG:cD G n)(hX:cD X c)(hl:G.length<=X.length)(Bp:∀k,cX (bf (de G X) k).1 (B (bf (de G X) k).2.1))(hZ:∀i,i<=n->B i<=Z)(hn:G.length<=n)(hs:xZ G X n c=some H):cX H Z/\H.length<=n/\cD H c:=by
 have hW:=Bo hG hX hl
 unfold xZ at hs
 split at hs
 ·cases hs
 ·obtain rfl:=pk hs
  have hd:=(tG hW (n:=n+c)).2
  rw[vL]at hd
  refine⟨fun r km q hq=>?_,by rw[jP,JU hW];omega,fun r km=>?_⟩
  ·obtain⟨z,hz,rfl⟩:=eM.1 km
   exact(Bp (n+c) z (ym hz) q (Im hq)).mono (hZ _ (by omega))
  ·obtain⟨z,hz,rfl⟩:=eM.1 km
   rw[xE,Oj hW z hz]
   omega
def Yda{H:List (List Rat)}{Z:Nat}{B:Nat->Nat}(hw:w.length=D.length)(Bp:∀k,cX (bf (de (tu D M w) (pU D M w)) k).1 (B (bf (de (tu D M w) (pU D M w)) k).2.1))(hZ:∀i,i<=M.length->B i<=Z)(hs:EM D M w=some H):cX H Z/\H.length<=M.length/\cD H D.length:=
 Yp5 Nu (by rw[<-hw];exact Yu) (by rw[Jx,Bq];exact aW _) Bp hZ (by rw[Jx];exact aW _) hs
def YM{s:Nat}(hn:n<=6)(hs:s<=6):s*(n*(100+100+1)+1+(n*(100+100+1)+1+100)+1)+1<=15103:=by
 have:=uI hs (show n*(100+100+1)+1+(n*(100+100+1)+1+100)+1<=2517 by omega)
 omega
def NC{i:Nat}(h:i<=4):kB 15103 i<=4000000:=sJ (Zt h) (by decide)
def Ykj(hM:cD M n)(qD:cX D 100)(qM:cX M 100)(qw:∀x∈w,Qb 100 x)(hn:n<=6)(lZ:0<D.length)(hs:D.length<=6):cX (tu D M w) 15103/\cX (pU D M w) 15103:=by
 have qS:=Ys hM qD qM (by decide) (by decide)
 have h0:=YM hn hs
 have h1:=Nat.le_mul_of_pos_left (n*(100+100+1)+1+(n*(100+100+1)+1+100)+1) lZ
 exact⟨(Yq7 qS qw (by omega) (by decide)).mono h0,(QO qS qw (by omega) (by decide)).mono (by omega)⟩
def Ykk(hM:cD M n)(qD:cX D 100)(qM:cX M 100)(qw:∀x∈w,Qb 100 x)(hn:n<=6)(lZ:0<D.length)(hs:D.length<=6):∀k,cX (bf (de (tu D M w) (pU D M w)) k).1 (kB 15103 (bf (de (tu D M w) (pU D M w)) k).2.1):=fun k=>by
 obtain⟨a,b⟩:=Ykj hM qD qM qw hn lZ hs
 exact Tn (Ya2 a b) (by decide)
def Yjv{h:T O}{N:Nat}{u v y:V}(hm:eP h N u m)(hl:Sl h N v (strs l))(hb:eP h N y b)(hP:kJ h N)(sm:mi 6 6 m=true)(sl:eY 6 l=true)(sb:∀r∈b,eY 6 r=true)(CI:b.length<100000)(h4:b.length<=4\/16<b.length):Fn A.C 8 [u,v,y] h N (fun x h' n'=>∃z c,x=.bg [z,.int .i64 c]/\Bx (vQ m l b) (NB m l b) z c h' n'):=by
 intro W
 obtain⟨m1,m2⟩:=YN sm
 obtain⟨l1,l2⟩:=HF sl
 have o2:=hl.form.one
 have o3:=hl.form.cells
 obtain⟨o4,o5⟩:=hm.one
 obtain⟨o6,o7⟩:=hb.one
 rw[aO,A.k8 (by simp)]
 unfold V.one at o2 o4 o6
 unfold V.cells at o3 o5 o7
 simp[A.b8,o2,o3,o4,o5,o6,o7,ad]
 generalize hH:(((h.set N (.cells [u] 22 true)).set (N+1) (.cells [v] 23 true)).set (N+1+1) (.cells [y] 22 true)).set (N+1+1+1) (.cells [.func 38 [] [.ptr N 0,.ptr (N+1) 0],.func 40 [] [.ptr (N+1+1) 0,.ptr N 0]] 70 true)=H
 have kB:ab h N H (N+1+1+1+1):=by rw[<-hH];exact(((ab.refl.new _).new _).new _).new _
 have g0:H.get N=some (.cells [u] 22 true):=by rw[<-hH];simp
 have g1:H.get (N+1)=some (.cells [v] 23 true):=by rw[<-hH];simp
 have g2:H.get (N+1+1)=some (.cells [y] 22 true):=by rw[<-hH];simp
 have g3:H.get (N+1+1+1)=some (.cells [.func 38 [] [.ptr N 0,.ptr (N+1) 0],.func 40 [] [.ptr (N+1+1) 0,.ptr N 0]] 70 true):=by rw[<-hH];simp
 clear hH
 have hs:Sl H (N+1+1+1+1) (.slice (N+1+1+1) 0 2 (some 2) 1) [.func 38 [] [.ptr N 0,.ptr (N+1) 0],.func 40 [] [.ptr (N+1+1) 0,.ptr N 0]]:=Sl.row (by omega) g3 rfl (fun k hk=>by simp at hk;omega)
 have b2:∀x∈b,x.length<100000/\∀s∈x,s.length<=100000:=fun x hx=>HF (sb x hx)
 have key:=Zd (l:=[C8 m l,tv b (iS m)]) hs rfl (by simp) (Ze (P:=fun f e _=>∀h' n',ab H (N+1+1+1+1) h' n'->jR A.C f [] h' n' (fun u _ _=>u=.int .i64 e)) (fun h' n' hk=>Yne ((hk.get N (by omega)).trans g0) (by have:=hk.le;omega) ((hk.get (N+1) (by omega)).trans g1) (by have:=hk.le;omega) ((hm.ae kB).ae hk) m1 m2 ((hl.ae kB).ae hk) l1 l2) (fun hz h' n' hk=>Ynd (l:=l) ((hk.get (N+1+1) (by omega)).trans g2) (by have:=hk.le;omega) ((hk.get N (by omega)).trans g0) (by have:=hk.le;omega) ((hm.ae kB).ae hk) m1 m2 ((hb.ae kB).ae hk) CI b2 (Zf hz sm sl).1.pos))
 change Fn A.C 37 _ H _ (fun u _ _=>u=.int .i64 (yM m l b))at key
 refine aA key ?_
 rintro _ H2 n2 k2 rfl
 have kI:=k2.le
 by_cases hE:yM m l b=0
 ·obtain⟨hM,zl,hL,hB⟩:=Yki hE sm sl sb h4
  have c0:=(k2.get N (by omega)).trans g0
  have kC:=kB.trans k2
  have d1:N<n2:=by omega
  have n6:=hM.n6
  have mle:=hM.le
  obtain⟨rB,qB⟩:=hB.rat
  have YO:cD (jj m) (iS m):=hM.qb.1
  have qM:cX (jj m) 100:=fun r hr=>(hM.rat r hr).2
  simp[hE,c0,d1]
  refine aA (Zwg (k0:=100) ((hm.ae kC).rat fun r hr=>(hM.row r hr).2) (by simp[jj];omega) (fun r hr=>by obtain⟨a1,a2⟩:=hM.rat r hr;exact⟨by omega,a2⟩) (by decide)) ?_
  rintro x3 H3 n3 k3 Jy
  have yV:=k3.le
  have c1:=(k3.get (N+1) (by omega)).trans ((k2.get (N+1) (by omega)).trans g1)
  have d2:N+1<n3:=by omega
  simp[c1,d2]
  refine aA (Zp4 (l:=vP l) (k0:=100) (uc.sl ((hl.ae kC).ae k3) hL) (by simp[vP];omega) hL.qb (by decide)) ?_
  rintro x4 H4 n4 k4 Fq
  have HV:=k4.le
  have c2:=(k4.get (N+1+1) (by omega)).trans ((k3.get (N+1+1) (by omega)).trans ((k2.get (N+1+1) (by omega)).trans g2))
  have d3:N+1+1<n4:=by omega
  have kD:=(kC.trans k3).trans k4
  simp[c2,d3]
  refine aA (Zwg (k0:=100) ((hb.ae kD).rat fun r hr=>(hB.row r hr).2) (by simp[jj];omega) (fun r hr=>⟨by rw[rB r hr];omega,qB r hr⟩) (by decide)) ?_
  rintro x5 H5 n5 k5 Nv
  have le5:=k5.le
  have lM:(jj m).length=m.length:=N6
  have lB:(jj b).length=b.length:=N6
  have lL:(vP l).length=(jj m).length:=by simp[vP,jj,zl]
  have Hj:=@YM (iS m) (jj m).length n6 (by omega)
  have QV:=Ykk rB qM qB hL.qb n6 (by have:=hM.pos;omega) (by omega)
  simp[]
  refine aA (Yh1 (B:=Go.Mx.kB 15103) (n:=iS m) (J:=100) (K:=100) (L:=100) ((Jy.ae k4).ae k5) (Fq.ae k5) Nv YO rB lL hM.n1 (by omega) (by have:=hM.pos;omega) (by omega) (by have:=hB.pos;omega) (by have:=hB.le;omega) qM qB hL.qb (by decide) (by decide) (by decide) (by omega) (fun _=>Tl (by decide)) QV (fun i hi=>by have:=@NC i (by have:=hB.le;omega);omega)) ?_
  rintro x6 H6 n6' k6 Hd
  have kE:=(kD.trans k5).trans k6
  rcases Hd with⟨a1,rfl⟩|⟨H,z,a1,rfl,a2⟩
  ·have hC:vQ m l b=14:=by unfold vQ;rw[aF hE,aF a1]
   simp[az,cA.cB]
   exact⟨kE,.aa,14,⟨rfl,rfl⟩,by rw[hC];exact .inl ⟨by decide,rfl,rfl⟩⟩
  ·have hC:vQ m l b=0:=by unfold vQ;rw[aF hE,a1];rfl
   have hQ:NB m l b=H:=by unfold NB;rw[a1];rfl
   obtain⟨s1,s2,s3⟩:=Yda lL QV (fun i hi=>NC (by have:=hB.le;omega)) a1
   simp[cA.cB]
   refine aA (Yg7 (k:=4000000) a2 (hP.ae kE) (by have:=hB.le;omega) (fun r hr=>by rw[s3 r hr];omega) s1 (by decide)) ?_
   rintro x7 H7 n7 k7 Yx
   have kF:=kE.trans k7
   rcases Yx with⟨t1,rfl⟩|⟨t1,v2,rfl,t2⟩
   ·simp[az]
    exact⟨kF,.aa,4,⟨rfl,rfl⟩,by rw[hC,hQ];exact .inr ⟨rfl,.inl ⟨t1,rfl,rfl⟩⟩⟩
   ·simp[az]
    exact⟨kF,v2,0,⟨rfl,rfl⟩,by rw[hC,hQ];exact .inr ⟨rfl,.inr ⟨t1,rfl,t2⟩⟩⟩
 ·have hC:vQ m l b=yM m l b:=by unfold vQ;rw[ar hE]
  simp[hE,az]
  exact⟨kB.trans k2,.aa,_,⟨rfl,rfl⟩,by rw[hC];exact .inl ⟨hE,rfl,rfl⟩⟩
set_option maxHeartbeats 1000000
def A.vR:av:=.seq (sr [mv 10 7,mv 11 0,ln 12 11,bi 13 .lss 10 12]
 (cd 13
 (.skip)
 (.exit 0)))
 (.seq (.block 1 (.aR [mv 16 5,mv 17 6,mv 18 0,mv 19 7,ia 20 1 18 19,ld 21 20,c2 22 121 17 21,ge 23 (.aV 23 1 1 [.aa] [(0,1,(tq 22))]),ge 24 (.append 1 24 23 [.aa] (tq 16) (tq 23)),mv 5 24]))
 (.aR [mv 14 7,bc 15 .add 14 1,mv 7 15]))
def A.b51:av:=sr [mN 4]
 (sr [mN 5]
 (sr [mv 8 1,c1 9 50 8,mv 6 9]
 (.seq (sr [mc 7 0]
 (.block 0 (.loop A.vR)))
 (sr [mv 25 5,mv 4 25]
 (.ret)))))
def A.c51:A.F 51=some ⟨26,[.tmp 4],A.b51⟩:=by kernel_rfl
def A.k51:=@A.kk 51 _ _ _ A.c51 rfl
def Ygh{A C:List (List Rat)}{t:Nat}{r:List Rat}(h:A[t]?=some r):k_ (A.take (t+1)) C=k_ (A.take t) C++[C.map fun c=>l_ c r]:=by
 unfold k_
 rw[tE,h]
 simp
def Yv{h:T O}{N c j k:Nat}{u v:V}{A' B:List (List Rat)}(hu:gh h N u A')(hv:gh h N v B)(hA:∀r∈A',B.length<=r.length)(hB:cD B c)(kW:0<B.length)(hAl:A'.length<1000)(Yd:B.length<1000)(hc:c<1000)(qA:cX A' k)(qB:cX B j)(hj:1<=j)(hk:1<=k)(hl:B.length*(j+k+1)+j+k+1<=400000000):Fn A.C 51 [u,v] h N (fun x h' n'=>gh h' n' x (k_ A' (fg B c))):=by
 intro w
 have lu:=hu.len
 rw[aO,A.k51 (by simp)]
 simp[A.b51]
 refine aA (QP hv hB Yd hc kW) ?_
 rintro y H1 n1 k1 hy
 have yi:=k1.le
 have hy:=hy.uf
 simp[]
 refine bP [(5,5),(7,7),(10,24)] (fun e r st=>e=.exit 0/\ax n1 st.w=[]/\ab H1 n1 st.h st.n/\∃x,r.get 5=some x/\jf n1 st.h st.n x (k_ A' (fg B c))) (fun i r st=>ax n1 st.w=[]/\ab H1 n1 st.h st.n/\∃t x,t+i=A'.length/\r.get 7=some (.int .i64 t)/\r.get 5=some x/\jf n1 st.h st.n x (k_ (A'.take t) (fg B c))) A'.length ?_ ?_ ?_
 ·exact⟨by simp,ab.refl,0,.aa,by omega,by simp,by simp,jf.nil⟩
 ·rintro i r ⟨H,m,W⟩ hr hf ⟨hW,hK,t,x,ht,h7,h5,hO⟩
  simp only at hW hK hO
  rw[bq]
  have le:=hK.le
  cases i with
  |zero=>
   obtain rfl:t=A'.length:=by omega
   rw[eZ (aW _)]at hO
   simp[A.vR,hr,hf,h7,h5,lu,hW,hK]
   exact hO
  |succ i=>
   have ay:t<A'.length:=by omega
   have bn:(t:Int)<(A'.length:Int):=by omega
   obtain⟨row,ak⟩:=bp ay
   have uZ:=cm ak
   obtain⟨i',o,cc,e,rw,ru,q1,q2,q3,q4,q5⟩:=(hu.ae (k1.trans hK)).at ak
   simp[A.vR,hr,h7,h5,lu,bn,q1,q3,q4]
   refine aA (Yca (n:=B.length) (hy.ae hK) q5 (EN qB hj) (hA row uZ) (qA row uZ) hj hk hl (by rw[sh];omega)) ?_
   rintro z H2 n2 k2 hz
   have fr:=Fk hz
   have kI:=k2.le
   obtain⟨f1,f2⟩:V.one z=true/\V.cells z=[z]:=⟨Sl.qc fr.1,Sl.fG fr.1⟩
   have pq:ad [V.aa] 0 [z]=[z]:=rfl
   have kD:ab H2 n2 (H2.set n2 (.cells [z] 23 true)) (n2+1):=ab.refl.new _
   obtain⟨v',h',w',j1,j2,j3,j4⟩:=jf.push (N0:=n1) (x:=.slice n2 0 1 (some 1) 1) (w:=W) ((hO.ae k2).ae kD) (fr.ae kD) (by omega) (by simp[eD,St.row,aE]) (by rw[Nt,gm];omega)
   simp(disch:=first|(simp;done)|omega|rfl) [-V.cells, -V.one,hf,h7,pq,f1,f2,yl,j1,j2,hW]
   exact⟨i,by omega,((hK.trans k2).trans kD).then j3,t+1,by omega,by simp,by rw[Ygh ak];exact j4⟩
 ·rintro _ r ⟨H,m,W⟩ hr ⟨rfl,hW,hK,x,h5,hO⟩
  simp only at hW hK hO
  simp[h5,az]
  exact⟨Zn hW yi,k1.trans hK,hO.uf⟩
set_option maxHeartbeats 1000000
def po.uf{N0:Nat}{h:T O}{N R d:Nat}{m:List (List Rat)}{v:V}{us:List V}(s:po N0 h N R m)(g:h.get R=some (.cells us 23 true))(hv:Sl h N v (us.take d))(hd:d<=m.length):gh h N v (m.take d):=by
 obtain⟨vs,g1,g2,g3⟩:=s.ex
 rw[g]at g1
 simp only[al,O.cells.injEq,and_true]at g1
 subst g1
 refine⟨us.take d,hv,by simp[g2],fun j l hl=>?_⟩
 by_cases hj:j<d
 ·rw[iy,aF hj]at hl ⊢
  obtain⟨u,a1,a2⟩:=g3 j l hl
  exact⟨u,a1,a2.1⟩
 ·rw[iy,ar hj]at hl
  cases hl
def Zyn{h:T O}{N:Nat}{u:V}{m:List (List Rat)}{c:Nat}{B:Nat->Nat}(hu:gh h N u m)(hc:cD m c)(jQ:m.length<1000)(fV:0<m.length)(cO:c<1000)(xB:∀n,1<=B n)(hK:∀k,cX (bf m k).1 (B (bf m k).2.1))(hB:∀n,n<m.length->n<c->3*B n<=400000000):Fn A.C 124 [u] h N (fun x h' n'=>gh h' n' x (qd m c)):=by
 intro w
 obtain⟨us,h1,h2,h3⟩:=hu
 have fH:=h1
 rcases h1 with⟨hn,_⟩|⟨i,o,cp,c',e,oC,rfl,q2,q3,q4,q5,q6⟩
 ·rw[hn]at h2
  simp at h2
  omega
 have bB:¬i=N:=by omega
 have nY:us≠[]:=fun hc=>by rw[hc]at h2;simp at h2;omega
 have Dk:(h.set N (.cells [] 23 true)).get i=some (.cells c' e oC):=by rw[T.ag,ar bB];exact q3
 have ha:∀w,gj ⟨h.set N (.cells [] 23 true),N+1,w⟩ 1 24 23 (.slice N 0 0 (some 0) 1) (.slice i o us.length cp 1)=some (.slice (N+1) 0 us.length none 1,⟨(h.set N (.cells [] 23 true)).set (N+1) (.cells us 23 true),N+1+1,w⟩):=fun w=>by
  have hg:(h.set N (.cells [] 23 true)).get N=some (.cells [] 23 true):=by simp
  simp only[gj,Zg (cp:=cp) Dk q4 q5,tJ,St.row,hg,aE,St.alloc]
  simp[nY]
  omega
 have kB:ab h N ((h.set N (.cells [] 23 true)).set (N+1) (.cells us 23 true)) (N+1+1):=(ab.refl.new _).new _
 have sR:po N ((h.set N (.cells [] 23 true)).set (N+1) (.cells us 23 true)) (N+1+1) (N+1) m:=⟨by omega,by omega,us,by rw[T.ag,aF rfl],h2,fun j l hl=>by
  obtain⟨x,a1,a2⟩:=h3 j l hl
  exact⟨x,a1,(Tx.old a2).ae kB⟩⟩
 rw[aO,A.k124 (by simp)]
 simp[A.b124,yl,ha]
 generalize (h.set N (.cells [] 23 true)).set (N+1) (.cells us 23 true)=G at*
 refine jZ (Zyp (h:=h) sR hc jQ fV cO xB hK hB kB (by simp) (by simp[h2]) (by simp) (by simp)) ?_
 rintro _ _ ⟨H4,n4,W4⟩ ⟨rfl,hw,k4,s4,r4,f4,rfl,x4⟩
 simp only at hw k4 s4
 have oX:=f4.aR
 obtain⟨vs,g1,g2,_⟩:=id s4.ex
 have hl4:(bf m c).1.length=m.length:=AD
 have iz:=(@tG m c hc c).2
 have hs:Sl H4 n4 (.slice (N+1) 0 us.length none 1) vs:=Sl.row s4.lt g1 (by omega) fun k hk=>by cases hk
 obtain⟨v',e1,e2⟩:=Dj (w:=W4) hs (lo:=0) (hi:=(bf m c).2.1) (by omega) (by omega) none (some (.int .i64 (bf m c).2.1)) (.inr ⟨rfl,rfl⟩) (.inl rfl)
 rw[yk]at e2
 simp[AG,oX,x4,e1,az,hw]
 exact⟨k4,s4.uf g1 e2 (by omega)⟩
end Go.Mx
