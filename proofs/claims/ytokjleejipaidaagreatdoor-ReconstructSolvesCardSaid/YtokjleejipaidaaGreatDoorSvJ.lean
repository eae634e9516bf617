/-reconstruct-/
import Derived.Test.YtokjleejipaidaaGreatDoorSvO2
set_option linter.all false
namespace Go.Mx
noncomputable section
open Go Go.Proofs
variable {D:List (List Rat)} {K n s:Nat} {w:List Rat}
set_option maxHeartbeats 4000000
set_option maxRecDepth 1000000
def A.w39:=A.q Tryz.f39
def A.wY:=A.ql A.w39 0 []
def A.b39:=(fun x0=>A.qb A.w39 [x0]) A.wY
def A.k39:=@A.kk 39 46 [.tmp 4] A.b39 (by kernel_rfl) rfl
def I8(n s k J K L:Nat):Nat:=(k+s)*(s*(n*(J+K+1)+1+(n*(J+K+1)+1+L)+1)+1)+1
def Ypj{M:List (List Rat)}{J L:Nat}(hM:bp M n)(hw:w.length=D.length)(qD:bZ D K)(qM:bZ M J)(qw:∀x∈w,Qb L x)(fh:0<D.length)(hJ:1<=J)(hK:1<=K)(hL:1<=L):KY (cj (pE D M w) (pD D M w)) (M.length+D.length) (I8 n D.length M.length J K L):=by
 have qS:=QL hM qD qM hJ hK
 have hmul:n*(J+K+1)+1+L<=D.length*(n*(J+K+1)+1+(n*(J+K+1)+1+L)+1)+1:=by
  have:=Nat.le_mul_of_pos_left (n*(J+K+1)+1+(n*(J+K+1)+1+L)+1) fh
  omega
 refine PS (Ycf (Ymi qS qw (by omega) hL) ((QM qS qw (by omega) hL).mono hmul)) (uU yM (by rw[<-hw];exact ED) (by rw[xI,vL];exact aO _))
def zY(n s:Nat):List (List Rat):=(List.range n).map fun _=>(List.range s).map fun _=>0
def mF(D:List (List Rat))(w:List Rat)(n:Nat):List (List Rat):=if (bY D n).length=0 then zY n D.length else gk (dq (bY D n) n) (dq ((xH D (bY D n) w).getD []) D.length)
def Zst:zY (n+1) s=zY n s++[(List.range s).map fun _=>0]:=by
 unfold zY
 rw[List.range_succ,List.map_append]
 rfl
def Zq6:(zY n s).length=n:=by simp[zY]
def Zrm(hD:bp D n)(hw:w.length=D.length)(hp:∀q∈w,0<q)(h0:0<(bY D n).length):∃J,uT (pE D (bY D n) w) (bY D n).length=some J/\xH D (bY D n) w=some (gk J (dq (pD D (bY D n) w) D.length)):=by
 have hl:=xz (n:=n) hD
 obtain⟨J,hJ⟩:=Yj4 (yM (D:=D) (M:=bY D n) (w:=w)) xI fun v hv j hj=>by
  unfold pE pD at hv
  rw[hl]at hv hj
  exact Yna hD hw hp hv j hj
 refine⟨J,hJ,?_⟩
 unfold xH
 rw[Ylu yM xI h0 (by rw[<-hw];exact ED) vL,hJ]
 rfl
def Ydo{d:Nat}(hD:bp D n)(qD:bZ D K)(hd:D.length<=d):bZ (bY D n) (nX (n*K+1) d):=fun r hr q hq=>((PT (PS qD hD) hD (by omega) n) r (yJ hr) q hq).mono (KZ (p9 (lF hD).2 hd))
def PU{n d:Nat}(hn:n<=6)(hd:d<=6):nX (n*100+1) d<=4864:=by
 have h1:n*100<=600:=by omega
 unfold nX
 exact p9 (oL (show d+2<=8 by omega) (show _<=608 by omega)) (by decide)
def Ydq{n s k:Nat}(hn:n<=6)(hs:s<=6)(hk:k<=6):nX (I8 n s k 4864 100 100) k<=34400000:=by
 unfold nX I8
 obtain⟨A,hA⟩:∃A,A=n*(4864+100+1)+1+(n*(4864+100+1)+1+100)+1:=⟨_,rfl⟩
 have Bm:A<=59684:=by omega
 rw[<-hA]
 obtain⟨B,hB⟩:∃B,B=s*A:=⟨_,rfl⟩
 have I9:B<=6*59684:=by rw[hB];exact oL hs Bm
 rw[<-hB]
 obtain⟨C,hC⟩:∃C,C=(k+s)*(B+1):=⟨_,rfl⟩
 have hC2:C<=12*358105:=by rw[hC];exact oL (by omega) (by omega)
 rw[<-hC]
 obtain⟨E,hE⟩:∃E,E=C+1+k+1:=⟨_,rfl⟩
 have hE2:E<=4297268:=by omega
 rw[<-hE]
 have:=oL (show k+2<=8 by omega) hE2
 omega
def Ydr{M:List (List Rat)}{J L:Nat}(hM:bp M n)(hw:w.length=D.length)(qD:bZ D K)(qM:bZ M J)(qw:∀x∈w,Qb L x)(fh:0<D.length)(hJ:1<=J)(hK:1<=K)(hL:1<=L)(k:Nat):bZ (aK (cj (pE D M w) (pD D M w)) k).1 (nX (I8 n D.length M.length J K L) (aK (cj (pE D M w) (pD D M w)) k).2.1):=
 PT (Ypj hM hw qD qM qw fh hJ hK hL) (uU yM (by rw[<-hw];exact ED) (by rw[xI,vL];exact aO _)) (by unfold I8;omega) k
def Yl2{n s:Nat}(hn:n<=6)(hs:s<=6):s*(n*(4864+100+1)+1+(n*(4864+100+1)+1+100)+1)+1+2*(n*(4864+100+1)+1+100+1)<=400000000:=by
 obtain⟨A,hA⟩:∃A,A=n*(4864+100+1)+1+(n*(4864+100+1)+1+100)+1:=⟨_,rfl⟩
 have Bm:A<=59684:=by omega
 rw[<-hA]
 obtain⟨C,hC⟩:∃C,C=s*A:=⟨_,rfl⟩
 have hC2:C<=6*59684:=by rw[hC];exact oL hs Bm
 rw[<-hC]
 omega
def Zn6(hD:bp D n)(hw:w.length=D.length)(jE:0<n)(hn:n<=6)(fh:0<D.length)(hs:D.length<=6)(qD:bZ D 100)(qw:∀x∈w,Qb 100 x)(hp:∀q∈w,0<q):bZ (mF D w n) 300000000/\(mF D w n).length=n/\bp (mF D w n) D.length:=by
 have hle:=(lF hD (n:=n)).2
 have hr:=xz (n:=n) hD
 by_cases h0:(bY D n).length=0
 ·unfold mF
  rw[ax h0]
  refine⟨fun r hr q hq=>?_,Zq6,fun r hr=>?_⟩
  ·obtain⟨_,_,rfl⟩:=eC.1 hr
   obtain⟨_,_,rfl⟩:=eC.1 hq
   exact Qb.zero.mono (by decide)
  ·obtain⟨_,_,rfl⟩:=eC.1 hr
   simp
 ·have fZ:0<(bY D n).length:=by omega
  obtain⟨J,hJ,hm⟩:=Zrm hD hw hp fZ
  obtain⟨Hc,yu⟩:∃Hc,xH D (bY D n) w=some Hc:=⟨_,hm⟩
  have rB:=CJ (n:=n) hD
  have qB:bZ (bY D n) 4864:=(Ydo hD qD (aO _)).mono (PU hn hs)
  have K0:(bY D n).length<=6:=by omega
  have kY:=@Ydq n D.length (bY D n).length hn hs K0
  have K3:=Ydr (J:=4864) (K:=100) (L:=100) rB hw qD qB qw fh (by decide) (by decide) (by decide)
  obtain⟨s1,s2,s3⟩:=Zwj hw K3 (fun i hi=>p9 (KZ hi) kY) yu
  have qT:bZ (dq (bY D n) n) 4864:=fun r hr=>(zy qB (by decide) r hr).2
  obtain⟨j0,yY⟩:∃j0:Nat,j0=34400000:=⟨_,rfl⟩
  rw[<-yY]at s1
  have qk:1<=j0:=by omega
  have hmul:Hc.length*(j0+4864+1)<=6*(j0+4864+1):=ki _ (by omega)
  unfold mF
  rw[ak h0,yu]
  refine⟨?_,by rw[Ew,lO],by have:=@LJ (dq (bY D n) n) (dq Hc D.length);rw[lO]at this;exact this⟩
  exact(Wv (n:=Hc.length) (j:=j0) (k:=4864) qT (fun r hr=>zy s1 qk r hr) qk (by decide)).mono (by omega)
def Zxs{h:T O}{N:Nat}{u v:V}(hu:fK h N u D)(hv:dT h N v w)(hD:bp D n)(hw:w.length=D.length)(jE:0<n)(hn:n<=6)(fh:0<D.length)(hs:D.length<=6)(qD:bZ D 100)(qw:∀x∈w,Qb 100 x)(hp:∀q∈w,0<q):Fn A.C 39 [u,v] h N (fun x h' n'=>fK h' n' x (mF D w n)/\bZ (mF D w n) 300000000/\(mF D w n).length=n/\bp (mF D w n) D.length):=by
 intro W
 obtain⟨l0,eG⟩:=a_ fh
 have lu:=hu.len
 have vM:(0:Int)<(D.length:Int):=by omega
 have hle:=(lF hD (n:=n)).2
 have hr:=xz (n:=n) hD
 rw[aM,A.k39 (by simp)]
 simp(disch:=first|(simp;done)|omega|rfl) [-getElem?_pos,A.b39]
 refine ay (Zqv (B:=nX (n*100+1)) hu hD (by omega) fh (by omega) (fun _=>PV) (fun k=>PT (PS qD hD) hD (by omega) k) (fun i h1 h2=>by have:=@PU n i hn (by omega);omega)) ?_
 rintro _ H1 n1 k1 ⟨rv,pv,rfl,tR,_⟩
 have tL:=k1.le
 obtain⟨i2,o2,c2,e2,w2,a,q1,q2,q3,q4,q5⟩:=CL (hu.ad k1) eG
 rw[iX]at q4
 have la:=q5.1.len
 rw[hD l0 (bM eG)]at la
 have PW:=tR.len
 by_cases h0:(bY D n).length=0
 ·have hQ:mF D w n=zY n D.length:=by unfold mF;rw[ax h0]
  simp(disch:=first|(simp;done)|omega|rfl) [-getElem?_pos,lu,fh,vM,q1,q2,q3,q4,la,PW,h0,aJ]
  refine bA [(8,8),(24,32)] (fun e r st=>e=.exit 0/\ar n1 st.w=[]/\ab H1 n1 st.h st.n/\∃v,r.get 8=some v/\gh n1 st.h st.n v (zY n D.length)) (fun i r st=>ar n1 st.w=[]/\ab H1 n1 st.h st.n/\∃k v,k+i=n/\r.get 24=some (.int .i64 (k:Nat))/\r.get 8=some v/\gh n1 st.h st.n v (zY k D.length)) n ?_ ?_ ?_
  ·exact⟨by simp[uK],ab.refl,0,_,by omega,by simp,by simp,gh.nil⟩
  ·rintro i r ⟨H,m,W⟩ hr hf ⟨hW,hK,k,v,hk,h24,h8,hO⟩
   simp only at hW hK hO
   rw[bb]
   have ln:=hK.le
   cases i with
   |zero=>
    obtain rfl:k=n:=by omega
    simp(disch:=first|(simp;done)|omega|rfl) [-getElem?_pos,A.wY,hr,hf,h24,h8,hW,hK]
    exact hO
   |succ i=>
    have au:k<n:=by omega
    have aS:(k:Int)<(n:Int):=by omega
    simp(disch:=first|(simp;done)|omega|rfl) [-getElem?_pos,A.wY,hr,hf,h24,h8,au,aS,lu]
    refine ay (Yhk (by omega)) ?_
    rintro _ H2 n2 k2 ⟨rfl,s2⟩
    have jA:=k2.le
    have fr:=s2.V9
    rw[gY,List.length_range]at fr
    have oz:ae [V.aa] 0 [.slice m 0 D.length (some D.length) 4]=[.slice m 0 D.length (some D.length) 4]:=rfl
    have kD:ab H2 n2 (H2.set n2 (.cells [.slice m 0 D.length (some D.length) 4] 72 true)) (n2+1):=ab.refl.new _
    obtain⟨v',h',w',j1,j2,j3,j4⟩:=gh.push (N0:=n1) (x:=.slice n2 0 1 (some 1) 1) (w:=W) ((hO.ad k2).ad kD) (fr.ad kD) (by omega) (by simp[ef,St.row,aC]) (by rw[Zq6];omega)
    simp(disch:=first|(simp;done)|omega|rfl) [-getElem?_pos,hr,hf,h24,h8,oz,vE,j1,j2,hW]
    exact⟨i,by omega,(((hK.trans k2).trans kD).then j3),k+1,by omega,by simp,by rw[Zst];exact j4⟩
  ·rintro _ r ⟨H,m,W⟩ hr ⟨rfl,hW,hK,v,h8,hO⟩
   simp only at hW hK hO
   simp(disch:=first|(simp;done)|omega|rfl) [-getElem?_pos,hr,h8,az]
   refine⟨Qk hW tL,k1.trans hK,?_⟩
   refine⟨?_,Zn6 hD hw jE hn fh hs qD qw hp⟩
   rw[hQ]
   exact hO.Et
 ·have fZ:0<(bY D n).length:=by omega
  obtain⟨J,hJ,hm⟩:=Zrm hD hw hp fZ
  have hQ:mF D w n=gk (dq (bY D n) n) (dq ((xH D (bY D n) w).getD []) D.length):=by unfold mF;rw[ak h0]
  obtain⟨Hc,yu⟩:∃Hc,xH D (bY D n) w=some Hc:=⟨_,hm⟩
  have rB:=CJ (n:=n) hD
  have qL:=@PU n D.length hn hs
  have qB:bZ (bY D n) 4864:=(Ydo hD qD (aO _)).mono qL
  have K0:(bY D n).length<=6:=by omega
  have kY:=@Ydq n D.length (bY D n).length hn hs K0
  have K3:=Ydr (J:=4864) (K:=100) (L:=100) rB hw qD qB qw fh (by decide) (by decide) (by decide)
  obtain⟨s1,s2,s3⟩:=Zwj hw K3 (fun i hi=>p9 (KZ hi) kY) yu
  have nS:=@Yl2 n D.length hn hs
  have hlen:Hc.length=(bY D n).length:=(Yc0 yM xI (by rw[<-hw];exact ED) vL fZ yu).1
  simp(disch:=first|(simp;done)|omega|rfl) [-getElem?_pos,lu,fh,vM,q1,q2,q3,q4,la,PW,h0,aJ]
  refine ay (Yjn (B:=nX (I8 n D.length (bY D n).length 4864 100 100)) (n:=n) (J:=4864) (K:=100) (L:=100) (hu.ad k1) (hv.ad k1) tR hD rB hw jE (by omega) fh (by omega) fZ (by omega) qD qB qw (by decide) (by decide) (by decide) nS (fun _=>PV) K3 (fun i hi=>by have:=@KZ (I8 n D.length (bY D n).length 4864 100 100) i (bY D n).length (by omega);omega)) ?_
  rintro x2 H2 n2 k2 pZ
  rcases pZ with⟨a1,_⟩|⟨Hc',z,a1,rfl,a2⟩
  ·rw[yu]at a1;cases a1
  ·rw[yu]at a1
   obtain rfl:=mJ a1
   simp(disch:=first|(simp;done)|omega|rfl) [-getElem?_pos,]
   refine ay (Wy (tR.ad k2) (by omega) rB (by omega)) ?_
   rintro x3 H3 n3 k3 BN
   simp(disch:=first|(simp;done)|omega|rfl) [-getElem?_pos,]
   have qT:bZ (dq (bY D n) n) 4864:=fun r hr=>(zy qB (by decide) r hr).2
   obtain⟨j0,yY⟩:∃j0:Nat,j0=34400000:=⟨_,rfl⟩
   rw[<-yY]at s1
   have qk:1<=j0:=by omega
   have hmul:Hc.length*(j0+4864+1)<=6*(j0+4864+1):=ki _ (by omega)
   refine ay (Wz (n:=(bY D n).length) (c:=D.length) (j:=j0) (k:=4864) BN.Et (a2.ad k3) GL s3 (by omega) (by omega) (by rw[lO];omega) (by omega) (by omega) qT s1 qk (by decide) (by omega)) ?_
   rintro x4 H4 n4 k4 Ai
   simp(disch:=first|(simp;done)|omega|rfl) [-getElem?_pos,az]
   refine⟨((k1.trans k2).trans k3).trans k4,?_,Zn6 hD hw jE hn fh hs qD qw hp⟩
   rw[hQ,yu]
   exact Ai
variable {D:List (List Rat)} {n:Nat} {w:List Rat}
set_option maxHeartbeats 4000000
def A.w12:=A.q Tryz.f12
def A.wZ:=A.ql A.w12 0 []
def A.b12:=(fun x0=>A.qb A.w12 [x0]) A.wZ
def A.k12:=@A.kk 12 41 [.tmp 4] A.b12 (by kernel_rfl) rfl
def Bn(n s k J K L:Nat):Nat:=(k+k)*(s*(n*(J+K+1)+1+(n*(J+K+1)+1+L)+1)+1)+1
def Yp2{M:List (List Rat)}{J K L:Nat}(hM:bp M n)(qD:bZ D K)(qM:bZ M J)(qw:∀x∈w,Qb L x)(hJ:1<=J)(hK:1<=K)(hL:1<=L):KY (cj (pE D M w) (fE M.length)) (M.length+M.length) (Bn n D.length M.length J K L):=by
 have qS:=QL hM qD qM hJ hK
 exact PS (Ycf (Ymi qS qw (by omega) hL) (Yv1.mono (by omega))) (uU yM Jz (by rw[xI,JA];exact aO _))
def Yog{M:List (List Rat)}{J K L:Nat}(hM:bp M n)(qD:bZ D K)(qM:bZ M J)(qw:∀x∈w,Qb L x)(hJ:1<=J)(hK:1<=K)(hL:1<=L)(k:Nat):bZ (aK (cj (pE D M w) (fE M.length)) k).1 (nX (Bn n D.length M.length J K L) (aK (cj (pE D M w) (fE M.length)) k).2.1):=
 PT (Yp2 hM qD qM qw hJ hK hL) (uU yM Jz (by rw[xI,JA];exact aO _)) (by unfold Bn;omega) k
def Yso{n s k:Nat}(hn:n<=6)(hs:s<=6)(hk:k<=6):nX (Bn n s k 4864 100 100) k<=34400000/\(k+1)*(nX (Bn n s k 4864 100 100) k+(n*(4864+100+1)+1+100)+1)<=400000000:=by
 have key:nX (Bn n s k 4864 100 100) k<=34400000:=by
  unfold nX Bn
  obtain⟨A,hA⟩:∃A,A=n*(4864+100+1)+1+(n*(4864+100+1)+1+100)+1:=⟨_,rfl⟩
  have Bm:A<=59684:=by omega
  rw[<-hA]
  obtain⟨B,hB⟩:∃B,B=s*A:=⟨_,rfl⟩
  have I9:B<=6*59684:=by rw[hB];exact oL hs Bm
  rw[<-hB]
  obtain⟨C,hC⟩:∃C,C=(k+k)*(B+1):=⟨_,rfl⟩
  have hC2:C<=12*358105:=by rw[hC];exact oL (by omega) (by omega)
  rw[<-hC]
  obtain⟨E,hE⟩:∃E,E=C+1+k+1:=⟨_,rfl⟩
  have hE2:E<=4297268:=by omega
  rw[<-hE]
  have:=oL (show k+2<=8 by omega) hE2
  omega
 refine⟨key,?_⟩
 obtain⟨F,hF⟩:∃F,F=nX (Bn n s k 4864 100 100) k+(n*(4864+100+1)+1+100)+1:=⟨_,rfl⟩
 have hF2:F<=34500000:=by omega
 rw[<-hF]
 have:=oL (show k+1<=7 by omega) hF2
 omega
def Ydf{h:T O}{N:Nat}{u v:V}(hu:fA h N u D)(hv:Tx h N v w)(hD:bp D n)(hw:w.length=D.length)(jE:0<n)(hn:n<=6)(fh:0<D.length)(hs:D.length<=6)(qD:bZ D 100)(qw:∀x∈w,Qb 100 x)(hp:∀q∈w,0<q):Fn A.C 12 [u,v] h N (fun x h' n'=>fA h' n' x (mF D w n)):=by
 intro W
 obtain⟨l0,eG⟩:=a_ fh
 have lu:=hu.len
 have vM:(0:Int)<(D.length:Int):=by omega
 have hle:=(lF hD (n:=n)).2
 have yF:=xz (n:=n) hD
 rw[aM,A.k12 (by simp)]
 simp(disch:=first|(simp;done)|omega|rfl) [-getElem?_pos,A.b12]
 refine ay (Zqe (B:=nX (n*100+1)) hu hD (by omega) fh (by omega) (fun _=>PV) (fun k=>PT (PS qD hD) hD (by omega) k) (fun i h1 h2=>by have:=@PU n i hn (by omega);omega)) ?_
 rintro rv H1 n1 k1 tR
 have tL:=k1.le
 have PW:=tR.len
 by_cases h0:(bY D n).length=0
 ·have hQ:mF D w n=zY n D.length:=by unfold mF;rw[ax h0]
  simp(disch:=first|(simp;done)|omega|rfl) [-getElem?_pos,PW,h0,aJ]
  refine bA [(6,7),(15,28)] (fun e r st=>e=.exit 0/\ar n1 st.w=[]/\ab H1 n1 st.h st.n/\∃v,r.get 6=some v/\gV n1 st.h st.n v (zY n D.length)) (fun i r st=>ar n1 st.w=[]/\ab H1 n1 st.h st.n/\∃k v,k+i=n/\r.get 7=some (.int .i64 (k:Nat))/\r.get 6=some v/\gV n1 st.h st.n v (zY k D.length)) n ?_ ?_ ?_
  ·exact⟨by simp[uK],ab.refl,0,_,by omega,by simp,by simp,gV.nil⟩
  ·rintro i r ⟨H,m,W⟩ hr hf ⟨hW,hK,k,v,hk,h7,h6,hO⟩
   simp only at hW hK hO
   rw[bb]
   have ln:=hK.le
   obtain⟨i2,o2,c2,e2,w2,a,q1,q2,q3,q4,q5⟩:=((hu.ad k1).ad hK).at eG
   rw[iX]at q4
   have la:=q5.len
   rw[hD l0 (bM eG)]at la
   cases i with
   |zero=>
    obtain rfl:k=n:=by omega
    simp(disch:=first|(simp;done)|omega|rfl) [-getElem?_pos,A.wZ,hr,hf,h7,h6,lu,fh,vM,q1,q2,q3,q4,la,hW,hK]
    exact hO
   |succ i=>
    have au:k<n:=by omega
    have aS:(k:Int)<(n:Int):=by omega
    simp(disch:=first|(simp;done)|omega|rfl) [-getElem?_pos,A.wZ,hr,hf,h7,h6,au,aS,lu,fh,vM,q1,q2,q3,q4,la]
    refine ay (Zs9 fh (by omega)) ?_
    rintro _ H2 n2 k2 ⟨R,rfl,hR,s2⟩
    have jA:=k2.le
    have fr:=s2.Cv
    rw[gY,List.length_range]at fr
    have oz:ae [V.aa] 0 [.slice R 0 D.length none 1]=[.slice R 0 D.length none 1]:=rfl
    have kD:ab H2 n2 (H2.set n2 (.cells [.slice R 0 D.length none 1] 23 true)) (n2+1):=ab.refl.new _
    obtain⟨v',h',w',j1,j2,j3,j4⟩:=gV.push (N0:=n1) (x:=.slice n2 0 1 (some 1) 1) (w:=W) ((hO.ad k2).ad kD) (fr.ad kD) (by omega) (by simp[ef,St.row,aC]) (by rw[Zq6];omega)
    simp(disch:=first|(simp;done)|omega|rfl) [-getElem?_pos,hr,hf,h7,h6,oz,vE,j1,j2,hW]
    exact⟨i,by omega,(((hK.trans k2).trans kD).then j3),k+1,by omega,by simp,by rw[Zst];exact j4⟩
  ·rintro _ r ⟨H,m,W⟩ hr ⟨rfl,hW,hK,v,h6,hO⟩
   simp only at hW hK hO
   simp(disch:=first|(simp;done)|omega|rfl) [-getElem?_pos,hr,h6,az]
   rw[hQ]
   exact⟨Qk hW tL,k1.trans hK,hO.tI⟩
 ·have fZ:0<(bY D n).length:=by omega
  obtain⟨J,hJ,hm⟩:=Zrm hD hw hp fZ
  have hQ:mF D w n=gk (dq (bY D n) n) (dq ((xH D (bY D n) w).getD []) D.length):=by unfold mF;rw[ak h0]
  obtain⟨Hc,yu⟩:∃Hc,xH D (bY D n) w=some Hc:=⟨_,hm⟩
  have rB:=CJ (n:=n) hD
  have qL:=@PU n D.length hn hs
  have qB:bZ (bY D n) 4864:=(Ydo hD qD (aO _)).mono qL
  have K0:(bY D n).length<=6:=by omega
  have kY:=@Ydq n D.length (bY D n).length hn hs K0
  have ZT:=@Yso n D.length (bY D n).length hn hs K0
  have K3:=Ydr (J:=4864) (K:=100) (L:=100) rB hw qD qB qw fh (by decide) (by decide) (by decide)
  obtain⟨s1,s2,s3⟩:=Zwj hw K3 (fun i hi=>p9 (KZ hi) kY) yu
  have nS:=@Yl2 n D.length hn hs
  have zan:=Yog (n:=n) (J:=4864) (K:=100) (L:=100) (w:=w) rB qD qB qw (by decide) (by decide) (by decide)
  have hlen:Hc.length=(bY D n).length:=(Yc0 yM xI (by rw[<-hw];exact ED) vL fZ yu).1
  simp(disch:=first|(simp;done)|omega|rfl) [-getElem?_pos,PW,h0,aJ]
  refine ay (Ydi (B:=nX (Bn n D.length (bY D n).length 4864 100 100)) (Z:=nX (Bn n D.length (bY D n).length 4864 100 100) (bY D n).length) (n:=n) (J:=4864) (K:=100) (L:=100) (hu.ad k1) (hv.ad k1) tR hD rB hw jE (by omega) fh (by omega) fZ (by omega) qD qB qw (by decide) (by decide) (by decide) nS (fun _=>PV) zan (fun i hi=>by have:=@KZ (Bn n D.length (bY D n).length 4864 100 100) i (bY D n).length (by omega);omega) (aO _) PV ZT.2) ?_
  rintro x2 H2 n2 k2 pZ
  rcases pZ with⟨a1,_⟩|⟨Hc',z,a1,rfl,a2⟩
  ·rw[yu]at a1;cases a1
  ·rw[yu]at a1
   obtain rfl:=mJ a1
   simp(disch:=first|(simp;done)|omega|rfl) [-getElem?_pos,]
   refine ay (PN (tR.ad k2) rB (by omega) (by omega) fZ) ?_
   rintro x3 H3 n3 k3 BN
   simp(disch:=first|(simp;done)|omega|rfl) [-getElem?_pos,]
   have qT:bZ (dq (bY D n) n) 4864:=fun r hr=>(zy qB (by decide) r hr).2
   obtain⟨j0,yY⟩:∃j0:Nat,j0=34400000:=⟨_,rfl⟩
   rw[<-yY]at s1
   have qk:1<=j0:=by omega
   have hmul:Hc.length*(j0+4864+1)<=6*(j0+4864+1):=ki _ (by omega)
   refine ay (Td (c:=D.length) (j:=j0) (k:=4864) BN.tI (a2.ad k3) (fun r hr=>by rw[GL r hr];omega) s3 (by omega) (by rw[lO];omega) (by omega) (by omega) qT s1 qk (by decide) (by omega)) ?_
   rintro x4 H4 n4 k4 Ai
   simp(disch:=first|(simp;done)|omega|rfl) [-getElem?_pos,az]
   rw[hQ,yu]
   exact⟨((k1.trans k2).trans k3).trans k4,Ai⟩
set_option maxHeartbeats 1000000
def A.b14:=A.q Tryz.f14
def A.k14:=@A.kk 14 7 [.tmp 4] A.b14 (by kernel_rfl) rfl
def Zye{b:Bool}{e:Int}{st:St}:A.C.call (.func 14 [] []) [.bool b,.int .i64 e] st=some (.int .i64 (if b=true then e else 0),st):=by
 obtain⟨h,N,w⟩:=st
 apply Call.eq
 rw[aM,A.k14 (by simp)]
 cases b with
 |true=>simp[A.b14]
 |false=>simp[A.b14]
def Yh7{h:T O}{N:Nat}{u v:V}{a b:List aQ}{w:List Nat}(hu:Sl h N u (strs a))(hv:Sl h N v (strs b))(hl:a.length<100000)(gj:b.length<100000):A.C.call (.func 25 [] []) [u,v] ⟨h,N,w⟩=some (.bool (decide (a=b)),⟨h,N,w⟩):=by
 apply Call.eq
 have l1:=hu.len
 have l2:=hv.len
 rw[tn]at l1 l2
 rw[aM,A.k25 (by simp)]
 by_cases e:a.length=b.length
 ·simp[A.b25,l1,l2,e]
  refine bA [(4,5),(11,25)] (fun x r st=>st=⟨h,N,[]⟩/\((x=.exit 0/\a=b)\/(x=.ret/\a≠b/\r.get 4=some (.bool false)))) (fun m r st=>st=⟨h,N,[]⟩/\∃t,t+m=b.length/\r.get 5=some (.int .i64 t)/\(a=b↔a.drop t=b.drop t)) b.length ?_ ?_ ?_
  ·exact⟨rfl,0,by omega,by simp,by simp⟩
  ·rintro m r _ hr hf ⟨rfl,t,ht,h5,hz⟩
   rw[bb]
   cases m with
   |zero=>
    obtain rfl:t=b.length:=by omega
    have ec:a=b:=hz.2 (by rw[qh (by omega),qh (by omega)])
    simp[A.k_,hr,hf,h5,l1,e]
    exact ec
   |succ m=>
    have au:t<b.length:=by omega
    have aS:(t:Int)<(b.length:Int):=by omega
    have yh:t<a.length:=by omega
    obtain⟨p,hp⟩:=a_ yh
    obtain⟨q,hq⟩:=a_ au
    obtain⟨i,o,c,e1,rw,q1,q2,q3,q4⟩:=hu.at (B8 hp)
    obtain⟨i',o',c',e',mP,p1,p2,p3,p4⟩:=hv.at (B8 hq)
    rw[f_ hp,f_ hq,gU]at hz
    by_cases pj:p=q
    ·subst pj
     simp(disch:=first|(simp;done)|omega|rfl) [A.k_,hr,hf,h5,l1,l2,e,aS,q1,q2,q3,q4,p1,p2,p3,p4,gE]
     exact⟨m,by omega,t+1,by omega,by simp,by simpa using hz⟩
    ·have zao:(p==q)=false:=by simpa using pj
     simp[A.k_,hr,hf,h5,l1,l2,e,aS,q1,q2,q3,q4,p1,p2,p3,p4,gE,cn.cr,zao]
     exact fun hc=>pj (hz.1 hc).1
  ·rintro x r _ hr ⟨rfl,⟨rfl,hz⟩|⟨rfl,hz,h4⟩⟩
   ·simp[hz]
   ·simp[h4,hz]
 ·have e':¬(a.length:Int)=(b.length:Int):=by omega
  have ec:a≠b:=fun hc=>e (by rw[hc])
  simp[A.b25,l1,l2,e',ec]
def Yif{h:T O}{N:Nat}{u v:V}{a:List (List aQ)}{b:List (List Rat)}{w:List Nat}(hu:fC h N u a)(hv:fA h N v b)(hl:a.length<100000)(gj:b.length<100000)(hx:∀r∈a,r.length<100000)(hy:∀r∈b,r.length<100000):A.C.call (.func 16 [] []) [u,v] ⟨h,N,w⟩=some (.bool (decide (a=b.map fun r=>r.map aP)),⟨h,N,w⟩):=by
 apply Call.eq
 have l1:=hu.len
 have l2:=hv.len
 rw[aM,A.k16 (by simp)]
 obtain⟨b',pC⟩:∃b':List (List aQ),b'=b.map fun r=>r.map aP:=⟨_,rfl⟩
 have lb:b'.length=b.length:=by rw[pC];simp
 rw[<-pC]
 by_cases e:a.length=b.length
 ·simp[A.b16,l1,l2,e,aJ]
  refine bA [(4,5),(11,26)] (fun x r st=>st=⟨h,N,[]⟩/\((x=.exit 0/\a=b')\/(x=.ret/\a≠b'/\r.get 4=some (.bool false)))) (fun m r st=>st=⟨h,N,[]⟩/\∃t,t+m=b.length/\r.get 5=some (.int .i64 t)/\(a=b'↔a.drop t=b'.drop t)) b.length ?_ ?_ ?_
  ·exact⟨rfl,0,by omega,by simp,by simp⟩
  ·rintro m r _ hr hf ⟨rfl,t,ht,h5,hz⟩
   rw[bb]
   cases m with
   |zero=>
    obtain rfl:t=b.length:=by omega
    have ec:a=b':=hz.2 (by rw[qh (by omega),qh (by omega)])
    simp[A.kv,hr,hf,h5,l1,e]
    exact ec
   |succ m=>
    have au:t<b.length:=by omega
    have aS:(t:Int)<(b.length:Int):=by omega
    have yh:t<a.length:=by omega
    obtain⟨p,hp⟩:=a_ yh
    obtain⟨q,hq⟩:=a_ au
    have pT:b'[t]?=some (q.map aP):=by rw[pC];simp[hq]
    obtain⟨i,o,c,e1,rw,x,q1,q2,q3,q4,q5⟩:=hu.at hp
    obtain⟨i',o',c',e',mP,y,p1,p2,p3,p4,p5⟩:=hv.at hq
    have hs:=fun w=>Yh7 (w:=w) (b:=q.map aP) q5 p5 (hx p (bM hp)) (by simpa using hy q (bM hq))
    rw[f_ hp,f_ pT,gU]at hz
    by_cases pj:p=q.map aP
    ·simp only[decide_eq_true pj]at hs
     simp(disch:=first|(simp;done)|omega|rfl) [A.kv,hr,hf,h5,l1,l2,e,au,aS,yh,q1,q2,q3,q4,p1,p2,p3,p4,hs,cn.cr]
     exact⟨m,by omega,t+1,by omega,by simp,by simpa[pj]using hz⟩
    ·simp only[decide_eq_false pj]at hs
     simp[A.kv,hr,hf,h5,l1,l2,e,au,aS,yh,q1,q2,q3,q4,p1,p2,p3,p4,hs,cn.cr]
     exact fun hc=>pj (hz.1 hc).1
  ·rintro x r _ hr ⟨rfl,⟨rfl,hz⟩|⟨rfl,hz,h4⟩⟩
   ·simp[hr,hz]
   ·simp[hr,h4,hz]
 ·have e':¬(a.length:Int)=(b.length:Int):=by omega
  have ec:a≠b':=fun hc=>e (by rw[hc,lb])
  simp[A.b16,l1,l2,e,e',aJ,ec]
set_option maxHeartbeats 1000000
def A.b8:=A.q Tryz.f8
def A.k8:=@A.kk 8 21 [.tmp 4,.tmp 5] A.b8 (by kernel_rfl) rfl
def A.b9:bN:=sr [mc 6 0]
 (.seq (sr [mv 11 0,mv 12 1,c2 13 37 11 12,mv 7 13]
 (sr [mv 14 7,ni 15 14 0]
 (cd 15
 (sr [mv 16 7,mv 6 16]
 (.ret))
 (.skip))))
 (.seq (sr [mv 17 2,ln 18 17,mv 19 0,ge 20 (.dh 1 (tq 19) (kq 0)),ld 21 20,ln 22 21,ge 23 (.bin .neq (.bI .int) false (tq 18) (tq 22)),ge 24 (.call (fq 43) [tq 23,.const (.int .i64 2)]),mv 25 2,mv 26 0,ln 27 26,c2 28 44 25 27,ge 29 (.eh 28 1 2 [.int .i64 0,.int .i64 0] [(0,1,(tq 24)),(1,1,(tq 28))]),c1 30 42 29,mv 8 30]
 (sr [mv 31 8,ni 32 31 0]
 (cd 32
 (sr [mv 33 8,mv 6 33]
 (.ret))
 (.skip))))
 (sr [mv 34 0,c1 35 40 34,mv 36 1,c1 37 41 36,c2 38 39 35 37,mv 9 38]
 (.seq (.dc [mv 39 9,ln 40 39,mv 41 9,ge 42 (.dh 1 (tq 41) (kq 0)),ld 43 42,ln 44 43,ge 45 (.build [.int .i64 0,.int .i64 0] [(0,1,(tq 40)),(1,1,(tq 44))]),mv 46 2,ln 47 46,mv 48 2,ge 49 (.dh 1 (tq 48) (kq 0)),ld 50 49,ln 51 50,ge 52 (.build [.int .i64 0,.int .i64 0] [(0,1,(tq 47)),(1,1,(tq 51))]),ge 53 (.bin .eql (.node [(0,none,(.bI .int)),(1,none,(.bI .int))]) false (tq 45) (tq 52)),mv 54 53,mg 55 9 54,mg 56 2 54,gy 57 54 (.call (fq 40) [tq 56]),gy 58 54 (.call (fq 45) [tq 55,tq 57]),pf 59 54 58,mv 10 59] [0,1,0,4,12,28,63,0,128,0,512,1536,3584,8064,16383,32767,65535,65535,196607,524287,1048575,2097151])
 (sr [mv 60 10,ge 61 (.un .not (tq 60)),ge 62 (.call (fq 43) [tq 61,.const (.int .i64 21)]),mv 6 62]
 (.ret))))))
def A.k9:=@A.kk 9 63 [.tmp 6] A.b9 (by kernel_rfl) rfl
def A.w15:=A.q Tryz.f15
def A.w_:=A.ql A.w15 0 []
def A.b15:=(fun x0=>A.qb A.w15 [x0]) A.w_
def A.k15:=@A.kk 15 21 [.tmp 4] A.b15 (by kernel_rfl) rfl
def Gc(m:List (List aQ))(l:List aQ):List (List Rat):=mF (fN m) (mG l) (fw m)
def Zsk{l:List aQ}{n:Nat}(h:rf l n 1=0):∀q∈mG l,0<q:=fun q hq=>by
 obtain⟨s,hs,rfl⟩:=eC.1 hq
 unfold rf at h
 split at h
 ·have h1:=xD h _ (eC.2 ⟨s,hs,rfl⟩)
  unfold qm at h1
  split at h1
  ·split at h1
   ·cases h1
   ·rename_i hc
    have hn:0<(kI s).num:=by
     unfold dL at hc
     by_cases c1:(kI s).num<0
     ·rw[ax c1]at hc
      omega
     ·by_cases c2:(kI s).num=0
      ·rw[ak c1,ax c2]at hc
       omega
      ·omega
    rw[Rat.lt_iff]
    show (0:Int)*_<(kI s).num*1
    omega
  ·rename_i hc
   omega
 ·cases h
def Ylo{h:T O}{N:Nat}{u v:V}{m:List (List aQ)}{l:List aQ}(hm:fC h N u m)(hl:Sl h N v (strs l))(hP:lE h N)(sm:mQ 6 6 m=true)(sl:fe 6 l=true):Fn A.C 8 [u,v] h N (fun x h' n'=>∃z c,x=.aV [z,.int .i64 c]/\Eg (tN m l) (Gc m l) z c h' n'):=by
 intro W
 obtain⟨m1,m2⟩:=Tf sm
 obtain⟨l1,l2⟩:=Ja sl
 rw[aM,A.k8 (by simp)]
 simp(disch:=first|(simp;done)|omega|rfl) [-getElem?_pos,A.b8]
 refine ay (Ymu hm hl m1 m2 l1 l2) ?_
 rintro _ H2 n2 k2 rfl
 by_cases hE:tN m l=0
 ·obtain⟨hM,zl,hL⟩:=VU hE sm sl
  have iK:=Zsk (xD hE (rf l m.length 1) (by simp))
  have n6:=hM.n6
  have mle:=hM.le
  have qM:bZ (fN m) 100:=fun r hr=>(hM.rat r hr).2
  have lM:(fN m).length=m.length:=Ll
  have lL:(mG l).length=(fN m).length:=by simp[mG,fN,zl]
  simp(disch:=first|(simp;done)|omega|rfl) [-getElem?_pos,hE,aJ]
  refine ay (Zrn (k0:=100) ((hm.ad k2).rat fun r hr=>(hM.row r hr).2) (by omega) (fun r hr=>by obtain⟨a1,a2⟩:=hM.rat r hr;exact⟨by omega,a2⟩) (by decide)) ?_
  rintro x3 H3 n3 k3 BN
  simp(disch:=first|(simp;done)|omega|rfl) [-getElem?_pos,]
  refine ay (Z4 (l:=mG l) (k0:=100) (tO.sl (hl.ad (k2.trans k3)) hL) (by omega) hL.qb (by decide)) ?_
  rintro x4 H4 n4 k4 Ai
  simp(disch:=first|(simp;done)|omega|rfl) [-getElem?_pos,]
  refine ay (Zxs (BN.ad k4) Ai hM.qb.1 lL hM.n1 n6 (by have:=hM.pos;omega) (by omega) qM hL.qb iK) ?_
  rintro x5 H5 n5 k5 ⟨BO,g1,g2,g3⟩
  have kE:=((k2.trans k3).trans k4).trans k5
  simp(disch:=first|(simp;done)|omega|rfl) [-getElem?_pos,]
  refine ay (Yiu (k:=300000000) BO (hP.ad kE) (by rw[g2];omega) (fun r hr=>by rw[g3 r hr];omega) g1 (by decide)) ?_
  rintro x7 H7 n7 k7 Jb
  have kF:=kE.trans k7
  rcases Jb with⟨t1,rfl⟩|⟨t1,v2,rfl,t2⟩
  ·simp(disch:=first|(simp;done)|omega|rfl) [-getElem?_pos,az]
   exact⟨kF,.aa,4,⟨rfl,rfl⟩,.inr ⟨rfl,.inl ⟨t1,rfl,rfl⟩⟩⟩
  ·simp(disch:=first|(simp;done)|omega|rfl) [-getElem?_pos,az]
   exact⟨kF,v2,0,⟨rfl,rfl⟩,.inr ⟨rfl,.inr ⟨t1,rfl,t2⟩⟩⟩
 ·simp(disch:=first|(simp;done)|omega|rfl) [-getElem?_pos,hE,aJ,az]
  exact⟨k2,.aa,_,⟨rfl,rfl⟩,.inl ⟨hE,rfl,rfl⟩⟩
def Jc(m b:List (List aQ)):Int:=bn [if b.length=fw m then 0 else 2,bn (b.map fun x=>eR x m.length)]
def Eb(m:List (List aQ))(l:List aQ)(b:List (List aQ)):Int:=if tN m l=0 then (if Jc m b=0 then (if Gc m l=fN b then 0 else 21) else Jc m b) else tN m l
def Ylx{m b:List (List aQ)}(h:Jc m b=0)(sb:∀r∈b,fe 6 r=true):b.length=fw m/\∀r∈b,r.length=m.length/\tO r:=by
 have h1:=xD h (if b.length=fw m then 0 else 2) (by simp)
 have h2:=xD h (bn (b.map fun x=>eR x m.length)) (by simp)
 refine⟨?_,fun r hr=>Zy3 (xD h2 _ (eC.2 ⟨r,hr,rfl⟩)) (sb r hr)⟩
 split at h1
 ·assumption
 ·cases h1
set_option maxHeartbeats 4000000
def Yoa{h:T O}{N n:Nat}{v:V}{l:List (List aQ)}(hs:fC h N v l)(hl:l.length<100000)(hx:∀x∈l,x.length<100000/\∀s∈x,s.length<=100000):Fn A.C 15 [v,.int .i64 n] h N (fun u _ _=>u=.int .i64 (bn (l.map fun x=>eR x n))):=by
 intro w
 have lg:=hs.len
 rw[aM,A.k15 (by simp)]
 simp(disch:=first|(simp;done)|omega|rfl) [-getElem?_pos,A.b15,lg]
 refine bA [(4,4),(6,7),(10,20)] (fun e r st=>ar N st.w=[]/\ab h N st.h st.n/\((e=.exit 0/\bn (l.map fun x=>eR x n)=0)\/(e=.ret/\r.get 4=some (.int .i64 (bn (l.map fun x=>eR x n)))))) (fun m r st=>ar N st.w=[]/\ab h N st.h st.n/\∃k,k+m=l.length/\r.get 10=some (.int .i64 k)/\bn (l.map fun x=>eR x n)=bn ((l.drop k).map fun x=>eR x n)) l.length ?_ ?_ ?_
 ·exact⟨by simp,ab.refl,0,by omega,by simp,by simp⟩
 ·rintro m r ⟨H,n1,W⟩ hr cG ⟨hW,hK,k,hk,h5,hz⟩
  simp only at hW hK
  rw[bb]
  cases m with
  |zero=>
   obtain rfl:k=l.length:=by omega
   rw[mK,vR,bn]at hz
   simp(disch:=first|(simp;done)|omega|rfl) [-getElem?_pos,A.w_,hr,cG,h5,lg,hz,hW,hK]
  |succ m=>
   have au:k<l.length:=by omega
   obtain⟨s,hc⟩:=a_ au
   obtain⟨i,o,cc,e,rw,u,q1,q2,q3,q4,q5⟩:=(hs.ad hK).at hc
   obtain⟨x1,x2⟩:=hx s (bM hc)
   rw[f_ hc,mU,bn]at hz
   have bG:(k:Int)<(l.length:Int):=by omega
   simp(disch:=first|(simp;done)|omega|rfl) [-getElem?_pos,A.w_,hr,cG,h5,bG,au,lg,q1,q2,q3,q4]
   refine ay (Zy1 q5 x1 x2) ?_
   rintro _ h3 n3 k3 rfl
   have kk:=hK.trans k3
   by_cases h0:eR s n=0
   ·rw[ax h0]at hz
    simp(disch:=first|(simp;done)|omega|rfl) [-getElem?_pos,hr,cG,h5,h0,hW,aJ]
    exact⟨m,by omega,kk,k+1,by omega,by simp,by simpa using hz⟩
   ·rw[ak h0]at hz
    simp(disch:=first|(simp;done)|omega|rfl) [-getElem?_pos,hr,cG,h5,h0,hW,aJ,hz]
    exact kk
 ·rintro _ r ⟨H,n1,W⟩ hr ⟨hW,hK,⟨rfl,hz⟩|⟨rfl,h2⟩⟩
  ·simp only at hW hK
   simp(disch:=first|(simp;done)|omega|rfl) [-getElem?_pos,hr,hz,az,hW,hK]
  ·simp only at hW hK
   simp(disch:=first|(simp;done)|omega|rfl) [-getElem?_pos,hr,h2,az,hW,hK]
def Yrv{h:T O}{N:Nat}{u v y:V}{m b:List (List aQ)}{l:List aQ}(hm:fC h N u m)(hl:Sl h N v (strs l))(hb:fC h N y b)(sm:mQ 6 6 m=true)(sl:fe 6 l=true)(sb:∀r∈b,fe 6 r=true)(FT:b.length<100000):Fn A.C 9 [u,v,y] h N (fun x _ _=>x=.int .i64 (Eb m l b)):=by
 intro W
 obtain⟨m1,m2⟩:=Tf sm
 obtain⟨l1,l2⟩:=Ja sl
 have b2:∀x∈b,x.length<100000/\∀s∈x,s.length<=100000:=fun x hx=>Ja (sb x hx)
 rw[aM,A.k9 (by simp)]
 simp(disch:=first|(simp;done)|omega|rfl) [-getElem?_pos,A.b9]
 refine ay (Ymu hm hl m1 m2 l1 l2) ?_
 rintro _ H2 n2 k2 rfl
 unfold Eb
 by_cases hE:tN m l=0
 ·obtain⟨hM,zl,hL⟩:=VU hE sm sl
  have iK:=Zsk (xD hE (rf l m.length 1) (by simp))
  have n6:=hM.n6
  have n1:=hM.n1
  have mle:=hM.le
  have m0:0<m.length:=hM.pos
  have m0':(0:Int)<(m.length:Int):=by omega
  have qM:bZ (fN m) 100:=fun r hr=>(hM.rat r hr).2
  have lM:(fN m).length=m.length:=Ll
  have lL:(mG l).length=(fN m).length:=by simp[mG,fN,zl]
  obtain⟨l0,eG⟩:=a_ m0
  obtain⟨i1,o1,c1,e1,w1,x,q1,q2,q3,q4,q5⟩:=(hm.ad k2).at eG
  rw[iX]at q4
  have lx:=q5.len
  rw[tn]at lx
  have en:l0.length=fw m:=by simp[fw,eG]
  rw[en]at lx
  have lm:=(hm.ad k2).len
  have lb:=(hb.ad k2).len
  have eN:((b.length:Int)=(fw m:Int))=(b.length=fw m):=by apply propext;omega
  simp(disch:=first|(simp;done)|omega|rfl) [-getElem?_pos,hE,aJ,lm,lb,m0,m0',q1,q2,q3,q4,lx,N6,eN]
  refine ay (Yiy (n:=m.length) (hb.ad k2) FT b2) ?_
  rintro _ H3 n3 k3 rfl
  have j3:=k2.trans k3
  have pf:=fun w=>Yor (h:=H3) (N:=n3+1) (i:=n3) (w:=w) (a0:=if b.length=fw m then 0 else 2) (a1:=bn (b.map fun x=>eR x m.length)) (by omega)
  have hz:bn [(if b.length=fw m then (0:Int) else 2),bn (b.map fun x=>eR x m.length)]=Jc m b:=rfl
  rw[hz]at pf
  have kD:∀e,ab H3 n3 (H3.set n3 (.cells [.int .i64 (if b.length=fw m then 0 else 2),.int .i64 (bn (b.map fun x=>eR x m.length))] e true)) (n3+1):=fun e=>ab.refl.new _
  simp(disch:=first|(simp;done)|omega|rfl) [-getElem?_pos,ae,pf]
  have kD:=kD 28
  generalize H3.set n3 (.cells [.int .i64 (if b.length=fw m then 0 else 2),.int .i64 (bn (b.map fun x=>eR x m.length))] 28 true)=G at*
  have j4:=j3.trans kD
  by_cases hZ:Jc m b=0
  ·obtain⟨zb,rb⟩:=Ylx hZ sb
   simp(disch:=first|(simp;done)|omega|rfl) [-getElem?_pos,hZ,aJ]
   refine ay (Zrn (k0:=100) ((hm.ad j4).rat fun r hr=>(hM.row r hr).2) (by omega) (fun r hr=>by obtain⟨a1,a2⟩:=hM.rat r hr;exact⟨by omega,a2⟩) (by decide)) ?_
   rintro x5 H5 n5 k5 BO
   simp(disch:=first|(simp;done)|omega|rfl) [-getElem?_pos,]
   refine ay (Z4 (l:=mG l) (k0:=100) (tO.sl (hl.ad (j4.trans k5)) hL) (by omega) hL.qb (by decide)) ?_
   rintro x6 H6 Jd k6 Og
   simp(disch:=first|(simp;done)|omega|rfl) [-getElem?_pos,]
   refine ay (Zxs (BO.ad k6) Og hM.qb.1 lL n1 n6 (by omega) (by omega) qM hL.qb iK) ?_
   rintro x7 H7 n7 k7 ⟨Jb,g1,g2,g3⟩
   have j7:=((j4.trans k5).trans k6).trans k7
   have lx7:=Jb.len
   rw[g2]at lx7
   obtain⟨row,al⟩:=a_ (l:=mF (fN m) (mG l) (fw m)) (k:=0) (by omega)
   obtain⟨i8,o8,c8,e8,w8,x8,y1,y2,y3,y4,y5⟩:=CL Jb al
   rw[iX]at y4
   have l8:=y5.1.len
   rw[g3 row (bM al),lM]at l8
   obtain⟨b0,jj⟩:=a_ (l:=b) (k:=0) (by omega)
   obtain⟨i9,o9,c9,e9,w9,x9,v1,v2,v3,v4,v5⟩:=(hb.ad j7).at jj
   rw[iX]at v4
   have l9:=v5.len
   rw[tn,(rb b0 (bM jj)).1]at l9
   have lb7:=(hb.ad j7).len
   rw[zb]at lb7
   have qL:(0:Int)<(fw m:Int):=by omega
   simp(disch:=first|(simp;done)|omega|rfl) [-getElem?_pos,lx7,n1,qL,y1,y2,y3,y4,l8,lb7,v1,v2,v3,v4,l9,ae,vY,JT,aR,aJ,Yf1]
   have qB:bZ (fN b) 400000000:=fun r hr=>by
    obtain⟨s,hs,rfl⟩:=eC.1 hr
    exact fun q hq=>((rb s hs).2.qb q hq).mono (by decide)
   have lB:∀r∈fN b,r.length<100000/\∀q∈r,Qb 100 q:=fun r hr=>by
    obtain⟨s,hs,rfl⟩:=eC.1 hr
    exact⟨by rw[mG,gY];exact(b2 s hs).1,(rb s hs).2.qb⟩
   refine ay (Zrn (k0:=100) ((hb.ad j7).rat fun r hr=>(rb r hr).2) (by rw[Ll];omega) (fun r hr=>by obtain⟨a1,a2⟩:=lB r hr;exact⟨by omega,a2⟩) (by decide)) ?_
   rintro x8' H8 n8 k8 hx8
   have le8:=k8.le
   simp(disch:=first|(simp;done)|omega|rfl) [-getElem?_pos,]
   refine ay (Yn2 (Jb.ad k8) hx8 (g1.mono (by decide)) qB (aO _) (by rw[g2];omega) (by rw[Ll];omega) (fun r hr=>by rw[g3 r hr];omega) (fun r hr=>(lB r hr).1)) ?_
   rintro _ H9 n9 k9 rfl
   have le9:=k9.le
   simp(disch:=first|(simp;done)|omega|rfl) [-getElem?_pos,]
   by_cases hq:mF (fN m) (mG l) (fw m)=fN b
   ·have pT:Gc m l=fN b:=hq
    simp(disch:=first|(simp;done)|omega|rfl) [-getElem?_pos,hq,pT,N6,az]
    exact(j7.trans k8).trans k9
   ·have pT:¬Gc m l=fN b:=hq
    simp(disch:=first|(simp;done)|omega|rfl) [-getElem?_pos,hq,pT,N6,az]
    exact(j7.trans k8).trans k9
  ·simp(disch:=first|(simp;done)|omega|rfl) [-getElem?_pos,hZ,aJ,az]
   exact j4
 ·simp(disch:=first|(simp;done)|omega|rfl) [-getElem?_pos,hE,aJ,az]
  exact k2
end
end Go.Mx
