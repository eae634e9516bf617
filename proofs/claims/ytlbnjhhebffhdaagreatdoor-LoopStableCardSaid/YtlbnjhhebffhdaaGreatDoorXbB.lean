/-loop-/
import Derived.Test.YtlbnjhhebffhdaaGreatDoorXaF
set_option linter.all false
set_option maxHeartbeats 8000000
namespace Go.Mx
noncomputable section
open Go Go.Proofs
variable {N:Nat} {cs:List (List V)} {h:T O} {r:List Rat}
set_option maxRecDepth 1000000
def A.w80:=A.q Tryz.f80
def A.zgV:=A.ql A.w80 0 []
def A.b80:=(fun x0=>A.qb A.w80 [x0]) A.zgV
def A.k80:=@A.kk 80 46 [.cell 4 (some 48)] A.b80 (by kernel_rfl) rfl
def ArC.nou(s:ArC h N cs r):sY cs.flatten:=fun x hx=>by
 obtain⟨c,hc,hx⟩:=List.mem_flatten.1 hx
 obtain⟨j,hj⟩:=Nd hc
 have hl:=yz hj
 obtain⟨c',h1,h2⟩:=s.at_ j _ (iy (by rw[<-s.len];exact hl))
 rw[hj]at h1
 obtain rfl:=rL h1
 exact h2.Sk x hx
def ArC.p_(s:ArC h N cs r):cs.flatten.all V.one=true:=by rw[uv];intro x hx;obtain⟨c,hc,hx⟩:=List.mem_flatten.1 hx;obtain⟨j,hj⟩:=Nd hc;have hl:=yz hj;obtain⟨c',h1,h2⟩:=s.at_ j _ (iy (by rw[<-s.len];exact hl));rw[hj]at h1;obtain rfl:=rL h1;exact uv.1 h2.len.2 x hx
def ArC.zgI(s:ArC h N cs r)(hr:r.length=12):cs.flatten.length=48:=by rw[Xav s.four,s.len,hr]
def ArC.ay{i:Nat}{c0 c1:List V}{e0 e1:TypeId}{w0 w1:Bool}(s:ArC h N cs r)(g:h.get i=some (.cells c0 e0 w0))(hn:sY c0)(hc:c1.length=c0.length):ArC (h.set i (.cells c1 e1 w1)) N cs r:=⟨s.len,fun j q hq=>by
 obtain⟨c,h1,h2⟩:=s.at_ j q hq
 exact⟨c,h1,h2.ay g hn hc⟩⟩
def ArC.put{j:Nat}{c:List V}{q:Rat}(s:ArC h N cs r)(hj:j<r.length)(hc:fz h N c q):ArC h N (cs.set j c) (r.set j q):=⟨by simp[s.len],fun i x hx=>by
 by_cases e:j=i
 ·subst e
  rw[lM hj]at hx
  obtain rfl:=rL hx
  exact⟨c,lM (by rw[s.len];exact hj),hc⟩
 ·rw[eJ e]at hx
  obtain⟨d,h1,h2⟩:=s.at_ i x hx
  exact⟨d,by rw[eJ e];exact h1,h2⟩⟩
def nxQ(p r:List Rat)(k:Nat):Rat:=if k<p.length-1 then pg r (p.length-2)*(-pg p k/pg p (p.length-1))+(if k=0 then 0 else pg r (k-1)) else 0
def nxR(p r:List Rat):List Rat:=(List.range 12).map (nxQ p r)
def nxP(p r:List Rat)(t:Nat):List Rat:=(List.range 12).map fun k=>if k<t then nxQ p r k else 0
def Xah{p:List Rat}{t k:Nat}(h:k<12):(nxP p r t)[k]?=some (if k<t then nxQ p r k else 0):=by unfold nxP;rw[jT,NX h];rfl
def Xbz{p:List Rat}{t:Nat}(h:t<12):(nxP p r t).set t (nxQ p r t)=nxP p r (t+1):=by
 apply o8;intro k;by_cases hk:k<12
 ·by_cases e:t=k
  ·subst e;rw[lM (by simp[nxP];exact h),Xah h,aR (by omega)]
  rw[eJ e,Xah hk,Xah hk];by_cases aW:k<t
  ·rw[aR aW,aR (by omega)]
  rw[aA aW,aA (by omega)]
 rw[kc (by simp[nxP];omega),kc (by simp[nxP];omega)]
def Xdf{p:List Rat}{t:Nat}(h:p.length-1<=t):nxP p r t=nxR p r:=by
 unfold nxP nxR;refine Nj fun k _=>?_;by_cases hk:k<t
 ·rw[aR hk]
 rw[aA hk,nxQ,aA (by omega)]
def Xcd{p:List Rat}:ArC h N (zR 12) (nxP p r 0):=⟨by simp[zR,nxP],fun j q hq=>by
 have hj:j<12:=by have:=yz hq;simpa[nxP]using this
 rw[Xah hj,aA (by omega)]at hq
 obtain rfl:=rL hq
 refine⟨nC 0,?_,0,.ziA,1,.ziA,rfl,In.small (by decide) (by decide),In.small (by decide) (by decide)⟩
 show (List.replicate 12 (nC 0)++[])[j]?=_
 rw[AP,List.getElem?_replicate,aR hj]⟩
def Xcj{j K:Nat}{v:V}{p:List Rat}(hv:Al h N v p)(kh:ArC h N cs r)(zh3:r.length=12)(l1:2<=p.length)(l2:p.length<=13)(hz:pg p (p.length-1)≠0)(hq:∀y∈p,Qb j y)(kK:∀y∈r,Qb K y)(hj:j<=100000)(hK:K<=1000000):Fn A.C 80 [v,.agg cs.flatten] h N (fun x h' n'=>∃AH,x=.agg AH.flatten/\ArC h' n' AH (nxR p r)):=by
 intro w;have z0:[.int .i64 0,.ziA,.int .i64 0,.ziA,.int .i64 0,.ziA,.int .i64 0,.ziA,.int .i64 0,.ziA,.int .i64 0,.ziA,.int .i64 0,.ziA,.int .i64 0,.ziA,.int .i64 0,.ziA,.int .i64 0,.ziA,.int .i64 0,.ziA,.int .i64 0,.ziA,.int .i64 0,.ziA,.int .i64 0,.ziA,.int .i64 0,.ziA,.int .i64 0,.ziA,.int .i64 0,.ziA,.int .i64 0,.ziA,.int .i64 0,.ziA,.int .i64 0,.ziA,.int .i64 0,.ziA,.int .i64 0,.ziA,.int .i64 0,.ziA,.int .i64 0,.ziA]=(zR 0).flatten:=rfl;have lO:∀c:List V,(V.agg c).cells=c:=fun _=>rfl;have f48:=kh.zgI zh3;have on:=kh.p_;have lz:(zR 0).flatten.length=48:=rfl;have kB:ah h N ((h.set N (.cells cs.flatten 113 true)).set (N+1) (.cells (zR 0).flatten 113 true)) (N+1+1):=(ah.refl.new _).new _;have b0:((h.set N (.cells cs.flatten 113 true)).set (N+1) (.cells (zR 0).flatten 113 true)).get N=some (.cells cs.flatten 113 true):=by simp
 have b1:((h.set N (.cells cs.flatten 113 true)).set (N+1) (.cells (zR 0).flatten 113 true)).get (N+1)=some (.cells (zR 0).flatten 113 true):=by simp
 have hvB:=hv.ai kB;have hrB:=kh.ai kB;rw[aZ,A.k80 (by simp)];generalize hcf:cs.flatten=CF at*;simp(disch:=first|(simp;done)|omega|rfl) [-getElem?_pos, -V.cells, -V.one,A.b80,lO,f48,on,z0];generalize (h.set N (.cells CF 113 true)).set (N+1) (.cells (zR 0).flatten 113 true)=HB at*;have dg:=fun w=>Yfo (w:=w) hvB.1 (by omega);have d1:(p.length:Int)-1=((p.length-1:Nat):Int):=by omega
 rw[d1]at dg;obtain⟨d,hd⟩:∃d,p.length-1=d:=⟨_,rfl⟩;rw[hd]at dg;simp(disch:=first|(simp;done)|omega|rfl) [-getElem?_pos,dg];refine av Xa0 ?_;rintro _ SU nB2 kB2 rfl;have leB:=kB2.le;have o12:(zR 12).flatten.all V.one=true:=by rfl
 have l12:(zR 12).flatten.length=48:=rfl;have s12:=Xbo l12 lz;have kC:ah SU nB2 ((SU.set nB2 (.cells (zR 0).flatten 113 true)).set nB2 (.cells (zR 12).flatten 113 true)) (nB2+1):=(ah.refl.new _).set (Yv5 _);have gC:((SU.set nB2 (.cells (zR 0).flatten 113 true)).set nB2 (.cells (zR 12).flatten 113 true)).get nB2=some (.cells (zR 12).flatten 113 true):=by simp
 have aC:ArC ((SU.set nB2 (.cells (zR 0).flatten 113 true)).set nB2 (.cells (zR 12).flatten 113 true)) (nB2+1) (zR 12) (nxP p r 0):=Xcd;clear z0;simp(disch:=first|(simp;done)|omega|rfl) [-getElem?_pos, -V.cells, -V.one,lO,l12,lz,o12,s12,bM];generalize ((SU.set nB2 (.cells (zR 0).flatten 113 true)).set nB2 (.cells (zR 12).flatten 113 true))=HC at*;have K1:=kB2.trans kC;have ix:=hvB.ai kB2;have dw:=hrB.ai kB2;have pl:p.length=d+1:=by omega
 have c0:=(K1.get N (by omega)).trans b0;have c1:=(K1.get (N+1) (by omega)).trans b1;have m1:¬nB2<N:=by omega
 refine Zal [(7,7),(12,44)] (fun e r' st=>e=.exit 0/\aL N st.w=[]/\ah HC nB2 st.h st.n/\nB2+1<=st.n/\∃AH,st.h.get nB2=some (.cells AH.flatten 113 true)/\ArC st.h st.n AH (nxR p r)) (fun m r' st=>aL N st.w=[]/\ah HC nB2 st.h st.n/\nB2+1<=st.n/\∃(t:Nat) (AH:List (List V)),t+m=d/\r'.get 12=some (.int .i64 t)/\st.h.get nB2=some (.cells AH.flatten 113 true)/\ArC st.h st.n AH (nxP p r t)) d ?_ ?_ ?_
 ·exact⟨by simp[aL,m1],ah.refl.up (xS _),Yv5 _,0,zR 12,by omega,by simp,gC,aC⟩
 ·rintro m r' ⟨H,n,W⟩ lV rF ⟨hW,hK,hn,t,co,htm,yU,g6,a6⟩;simp only at hW hK hn g6 a6;rw[cn];have Nx:=hK.le;cases m with
  |zero=>
   obtain rfl:t=d:=by omega
   simp(disch:=first|(simp;done)|omega|rfl) [-getElem?_pos,A.zgV,lV,rF,yU];rw[Xdf (by omega)]at a6;exact⟨hW,hK,hn,co,g6,a6⟩
  |succ m=>
   have aW:t<d:=by omega
   have zij:(t:Int)<(d:Int):=by omega
   have kk:=kC.then hK;have hvK:=ix.ai kk;have hrK:=dw.ai kk;have lv:=hvK.1.len;rw[pl]at lv;have g0:=(hK.get N (by omega)).trans c0;have i6:nB2<n:=by omega
   have i0:N<n:=by omega
   obtain⟨cR,ir,fR⟩:=hrK.at_ (d-1) _ (iy (p:=r) (i:=d-1) (by omega));have slR:=Xat kh.four ir;rw[hcf]at slR;obtain⟨j0,u0,y0,z0,q0,d0,b1',b2,b3,b4,b5⟩:=hvK.1.at (iy (p:=p) (i:=t) (by omega));obtain⟨j1,u1,y1,z1,q1,U7,x1,x2,x3,x4,x5⟩:=hvK.1.at (iy (p:=p) (i:=d) (by omega));rw[b1']at x1;obtain⟨rfl,rfl⟩:j0=j1/\u0=u1:=by simpa using x1
   rw[b3]at x3;obtain⟨rfl,rfl,rfl⟩:y0=y1/\z0=z1/\q0=q1:=by simpa using x3
   have i1:(0:Int)<=(d:Int)-1:=by omega
   have i2:(d:Int)-1<12:=by omega
   have i3:((d:Int)-1).toNat=d-1:=by omega
   have i4:(t:Int)<((d+1:Nat):Int):=by omega
   have i5:(d:Int)<((d+1:Nat):Int):=by omega
   have i7:(0:Int)<=(t:Int):=by omega
   have i8:(0:Int)<=(d:Int):=by omega
   have i9:(t:Int).toNat=t:=by omega
   have i10:(d:Int).toNat=d:=by omega
   have i11:(t:Int)<12:=by omega
   have i12:(t:Int)<(d:Int)+1:=by omega
   have i13:(d:Int)<(d:Int)+1:=by omega
   have bt:=hq _ (eI (iy (p:=p) (i:=t) (by omega)));have bd:=hq _ (eI (iy (p:=p) (i:=d) (by omega)));have br:=kK _ (eI (iy (p:=r) (i:=d-1) (by omega)));have i14:(1:Int)<=(d:Int):=by omega
   have pz':pg p d≠0:=by rw[<-hd];exact hz
   have wt:=bt.eX;have wd:=bd.eX;have wi:=(bd.inv pz').eX;have qn:Qb j (-pg p t):=by unfold Qb;rw[Rat.neg_num,AR,Rat.neg_den];exact bt
   have wn:=qn.eX;have qd:Qb (j+j) (-pg p t/pg p d):=by rw[Rat.div_def];exact qn.mul (bd.inv pz')
   have wq:=qd.eX;have wr:=br.eX;have qm:=br.mul qd;have wm:=qm.eX;simp(disch:=first|(simp;done)|omega|rfl) [-getElem?_pos,A.zgV,lV,rF,yU,zij,lv,g0,i0,i1,i2,i3,i4,i5,i7,i8,i9,i10,i11,i12,i13,i14,slR,b1',b2,b3,b4,x4,aI];refine av (UP b5.fc (by omega)) ?_;rintro v1 hA nA kA f1;have leA:=kA.le;have x3A:=(kA.get _ b2).trans b3;have b2A:j0<nA:=by omega
   simp(disch:=first|(simp;done)|omega|rfl) [-getElem?_pos,lV,rF,lv,i5,i8,i10,i13,b1',b2A,x3A,x4,aI];refine av (Zvr f1 (x5.ai kA).fc pz' (by omega) (by omega) (by omega) (by omega) (by omega) (by omega)) ?_;rintro v2 hB' nB kB' f2;simp(disch:=first|(simp;done)|omega|rfl) [-getElem?_pos,];refine av (KZ ((fR.ai kA).ai kB').fc f2 (by omega) (by omega) (by omega) (by omega)) ?_;rintro _ hC nC' kC' f3;obtain⟨c3,rfl,fc3⟩:=f3.c;obtain⟨e31,e32⟩:=fc3.len;have kAC:=(kA.trans kB').trans kC';have leC:=kAC.le;have g6C:=(kAC.get nB2 i6).trans g6;have i6C:nB2<nC':=by omega
   have a6C:=a6.ai kAC;have zh4:=a6.zgI (by simp[nxP]);have sp:=Xa3 a6.four (j:=t) (c:=c3) (by rw[a6.len];simp[nxP];omega) e31;have k44:t*4<=44:=by omega
   have nuo:=a6C.nou;simp(disch:=first|(simp;done)|omega|rfl) [-getElem?_pos, -V.cells, -V.one,lV,rF,lO,e31,e32,i7,i9,i11,g6C,i6C,zh4,k44,sp,bM];have aP:=a6C.put (j:=t) (by simp[nxP];omega) fc3;have flS:(co.set t c3).flatten.length=co.flatten.length:=by rw[Xav aP.four,Xav a6.four,xL]
   have aS:=aP.ay (i:=nB2) (e1:=113) (w1:=true) g6C nuo flS;have kS:=(hK.trans kAC).set (i:=nB2) (o:=.cells (co.set t c3).flatten 113 true) (Yv5 _);have gS:(hC.set nB2 (.cells (co.set t c3).flatten 113 true)).get nB2=some (.cells (co.set t c3).flatten 113 true):=by simp
   generalize hC.set nB2 (.cells (co.set t c3).flatten 113 true)=HS at*;have kkS:=kC.then kS;have g0S:=(kS.get N (by omega)).trans c0;have i0C:N<nC':=by omega
   by_cases jS:0<t
   ·have zh5:(0:Int)<(t:Int):=by omega
    have hrS:=dw.ai kkS;obtain⟨cQ,iq,fQ⟩:=hrS.at_ (t-1) _ (iy (p:=r) (i:=t-1) (by omega));have slQ:=Xat kh.four iq;rw[hcf]at slQ;have slM:=Xat aS.four (j:=t) (c:=c3) (lM (by rw[a6.len];simp[nxP];omega));obtain⟨c3',zhL,fM⟩:=aS.at_ t _ (lM (by simp[nxP];omega));rw[lM (by rw[a6.len];simp[nxP];omega)]at zhL;obtain rfl:=rL zhL;have j1':(0:Int)<=(t:Int)-1:=by omega
    have j2':(t:Int)-1<12:=by omega
    have SE:((t:Int)-1).toNat=t-1:=by omega
    have SG:(1:Int)<=(t:Int):=by omega
    have bq:=kK _ (eI (iy (p:=r) (i:=t-1) (by omega)));have wq':=bq.eX;simp(disch:=first|(simp;done)|omega|rfl) [-getElem?_pos,lV,rF,jS,zh5,i7,i9,i11,gS,i6C,slM,g0S,i0C,slQ,j1',j2',SE,SG,aI];refine av (Nn fM.fc fQ.fc (by omega) (by omega) (by omega) (by omega)) ?_;rintro _ hD nD kD f4;obtain⟨c4,rfl,fc4⟩:=f4.c;obtain⟨e41,e42⟩:=fc4.len;have leD:=kD.le;have gD:=(kD.get nB2 i6C).trans gS;have i6D:nB2<nD:=by omega
    have aD:=aS.ai kD;have sp2:=Xa3 aD.four (j:=t) (c:=c4) (by rw[aD.len];simp[nxP];omega) e41;have zhM:=aD.zgI (by simp[nxP]);have nuD:=aD.nou;have eq2:((nxP p r t).set t (pg r (d-1)*(-pg p t/pg p d))).set t (pg r (d-1)*(-pg p t/pg p d)+pg r (t-1))=nxP p r (t+1):=by rw[List.set_set,<-Xbz (by omega)];congr 1;rw[nxQ,aR (by omega),aA (by omega),hd,show p.length-2=d-1 by omega]
    have aE:=(aD.put (j:=t) (by simp[nxP];omega) fc4);rw[eq2,List.set_set]at aE;have flE:(co.set t c4).flatten.length=(co.set t c3).flatten.length:=by rw[Xav aE.four,Xav aD.four,xL,xL]
    have aF:=aE.ay (i:=nB2) (e1:=113) (w1:=true) gD nuD flE;simp(disch:=first|(simp;done)|omega|rfl) [-getElem?_pos, -V.cells, -V.one,lV,rF,yU,lO,e41,e42,i7,i9,i11,gD,i6D,zhM,k44,sp2,bM,aL,m1];exact⟨m,by omega,hW,(kS.trans kD).set (Yv5 _),by omega,t+1,by omega,by simp,co.set t c4,by simp,aF⟩
   obtain rfl:t=0:=by omega
   have eq2:(nxP p r 0).set 0 (pg r (d-1)*(-pg p 0/pg p d))=nxP p r (0+1):=by rw[<-Xbz (by omega)];congr 1;rw[nxQ,aR (by omega),aR rfl,hd,show p.length-2=d-1 by omega,Rat.add_zero]
   rw[eq2]at aS;simp(disch:=first|(simp;done)|omega|rfl) [-getElem?_pos,lV,rF,yU,aL,m1];exact⟨m,by omega,hW,kS,by omega,1,by omega,by simp,co.set 0 c3,by simpa using gS,aS⟩
 rintro _ r' ⟨H,n,W⟩ lV ⟨rfl,hW,hK,hn,co,g6,a6⟩;simp only at hW hK hn g6 a6;have Nx:=hK.le;have i6:nB2<n:=by omega
 have i1:N+1<n:=by omega
 have g1:=(hK.get (N+1) (by omega)).trans c1;have fl:=a6.zgI (by simp[nxR]);have ons:=a6.p_;have sl:=Xc0 fl;have sp:=Xbo fl lz;have n1:¬N+1<N:=by omega
 have nz:sY (zR 0).flatten:=by intro x hx m;intro hc;subst hc;simp[zR,List.replicate]at hx
 generalize tI:(zR 0).flatten=Z0 at*;simp(disch:=first|(simp;done)|omega|rfl) [-getElem?_pos, -V.cells, -V.one,lO,lV,g6,g1,i6,i1,fl,ons,sl,sp,lz,bM,aI,Ret,aL,n1];have hKN:ah HC N H n:=⟨by omega,fun i hi=>hK.get i (by omega)⟩;exact⟨hW,((kB.trans K1).then hKN).set (by omega),co,rfl,a6.ay g1 nz (by rw[fl,lz])⟩
def abN(l:List Rat):Nat->Rat
 |0=>0
 |k+1=>abN l k+zgb (pg l k)
def abQ(l:List Rat):Rat:=abN l l.length
def Xaf{l:List Rat}{K:Nat}(hl:∀y∈l,Qb K y):∀{k:Nat},k<=l.length->Qb (1+k*(K+K+1)) (abN l k)
 |0,_=>(Qb.int (z:=0) (k:=1) (by decide) (by decide)).mono (by omega)
 |k+1,hk=>by
  have ih:=Xaf hl (k:=k) (by omega)
  have h1:=yH (hl _ (eI (iy (p:=l) (i:=k) (by omega))))
  rw[abN,ku]
  exact(ih.add h1).mono (by omega)
def Xch{h:T O}{N K:Nat}{v:V}{l:List Rat}(hs:mV h N v l)(bl:∀y∈l,Qb K y)(hl:l.length<1000)(hK:K<=100000):Fn A.C 81 [v,.func 82 [] []] h N (fun x h' n'=>Fc h' n' x (abQ l)):=by
 intro w;have lO:∀c:List V,(V.agg c).cells=c:=fun _=>rfl;have e0:zF=[V.int .i64 0,.ziA,.int .i64 0,.ziA]:=rfl;have lv:=hs.len;have kB:ah h N (h.set N (.cells [.int .i64 0,.ziA,.int .i64 0,.ziA] 102 true)) (N+1):=ah.refl.new _;have gR:(h.set N (.cells [.int .i64 0,.ziA,.int .i64 0,.ziA] 102 true)).get N=some (.cells [.int .i64 0,.ziA,.int .i64 0,.ziA] 102 true):=by simp
 rw[aZ,A.k81 (by simp)];simp(disch:=first|(simp;done)|omega|rfl) [-getElem?_pos, -V.cells, -V.one,A.b81];generalize h.set N (.cells [.int .i64 0,.ziA,.int .i64 0,.ziA] 102 true)=H0 at*;refine av (BI (z:=0) (by decide) (by decide)) ?_;rintro _ h1 n1 k1 hz;obtain⟨c0,rfl,f0⟩:=hz.c;obtain⟨g1,g2⟩:=f0.len;have e4:=BD (d:=zF) g1 rfl;rw[e0]at e4;have xF:=k1.le;have kD:ah h1 n1 ((h1.set n1 (.cells [.int .i64 0,.ziA,.int .i64 0,.ziA] 102 true)).set n1 (.cells c0 102 true)) (n1+1):=(ah.refl.new _).set (Yv5 _);have gS:((h1.set n1 (.cells [.int .i64 0,.ziA,.int .i64 0,.ziA] 102 true)).set n1 (.cells c0 102 true)).get n1=some (.cells c0 102 true):=by simp
 simp(disch:=first|(simp;done)|omega|rfl) [-getElem?_pos, -V.cells, -V.one,lO,g1,g2,bM,e4,lv];generalize (h1.set n1 (.cells [.int .i64 0,.ziA,.int .i64 0,.ziA] 102 true)).set n1 (.cells c0 102 true)=H2 at*;have gR2:=(kD.get N (by omega)).trans ((k1.get N (by omega)).trans gR);refine Zal [(7,7),(11,20)] (fun e r st=>e=.exit 0/\aL N st.w=[]/\ah h N st.h st.n/\n1<st.n/\st.h.get N=some (.cells [.int .i64 0,.ziA,.int .i64 0,.ziA] 102 true)/\∃cs,st.h.get n1=some (.cells cs 102 true)/\fz st.h st.n cs (abQ l)) (fun m r st=>aL N st.w=[]/\ah h N st.h st.n/\n1<st.n/\st.h.get N=some (.cells [.int .i64 0,.ziA,.int .i64 0,.ziA] 102 true)/\∃t,t+m=l.length/\r.get 11=some (.int .i64 t)/\∃cs,st.h.get n1=some (.cells cs 102 true)/\fz st.h st.n cs (abN l t)) l.length ?_ ?_ ?_
 ·exact⟨KY fun i hi=>by simp at hi;omega,(kB.trans k1).trans kD,by show n1<n1+1;omega,gR2,0,by omega,by simp,c0,gS,f0.ai kD⟩
 ·rintro m r ⟨H,n2,W⟩ hr hf ⟨hW,k_,hn,gN,t,ht,jR,cs,gs,fs⟩;simp only at hW k_ hn gN gs fs;rw[cn];cases m with
  |zero=>
   obtain rfl:t=l.length:=by omega
   simp(disch:=first|(simp;done)|omega|rfl) [-getElem?_pos,A.zgR,hr,hf,jR,hW,k_,hn,gN,gs];exact fs
  |succ m=>
   have aW:t<l.length:=by omega
   have zij:(t:Int)<(l.length:Int):=by omega
   obtain⟨i0,o0,y0,z0,q0,cx,b1,b2,b3,b4,b5⟩:=(hs.ai k_).at (iy (p:=l) (i:=t) aW);obtain⟨f1,f2⟩:=b5.len;obtain⟨u1,u2⟩:=fs.len;have ex:=BD (d:=zF) f1 rfl;rw[e0]at ex;have sx:=Ia f1;have ss:=Ia u1;have kX:ah H n2 ((H.set n2 (.cells [.int .i64 0,.ziA,.int .i64 0,.ziA] 102 true)).set n2 (.cells cx 102 true)) (n2+1):=(ah.refl.new _).set (Yv5 _);have gs1:=(kX.get n1 hn).trans gs;have gX:((H.set n2 (.cells [.int .i64 0,.ziA,.int .i64 0,.ziA] 102 true)).set n2 (.cells cx 102 true)).get n2=some (.cells cx 102 true):=by simp
   have EF:=(kX.get N (by omega)).trans gN;have ln1:n1<n2+1:=by omega
   have ne1:¬n1=n2:=by omega
   have bq:=bl _ (eI (iy (p:=l) (i:=t) aW));simp(disch:=first|(simp;done)|omega|rfl) [-getElem?_pos, -V.cells, -V.one,A.zgR,hr,hf,jR,aW,zij,lv,b1,b2,b3,b4,lO,f1,f2,bM,ex,aI,gs,ne1,ln1,ss,sx];generalize (H.set n2 (.cells [.int .i64 0,.ziA,.int .i64 0,.ziA] 102 true)).set n2 (.cells cx 102 true)=HX at*;refine Ymf (Nr (b5.ai kX).fc (by have:=bq.eX;omega)) ?_;rintro v3 h3 n3 k3 Da;have bs:=Xaf bl (k:=t) (by omega);have BG:t*(K+K+1)<=1000*200001:=tU (by omega) (by omega);have ws:=bs.eX;have wq:=(yH bq).eX;simp(disch:=first|(simp;done)|omega|rfl) [-getElem?_pos, -V.cells, -V.one];refine av (Nn ((fs.ai kX).ai k3).up Da (by omega) (by omega) (by omega) (by omega)) ?_;rintro _ h4 n4 k4 hm;obtain⟨c4,rfl,f4⟩:=hm.c;obtain⟨p1,p2⟩:=f4.len;have kk:=k3.trans k4;have lek:=kk.le;have gs4:=(kk.get n1 (by omega)).trans gs1;have l4:n1<n4:=by omega
   have e5:=BD (d:=cs) p1 u1;have l5:4<=cs.length:=by omega
   have nuS:=fs.Sk;simp(disch:=first|(simp;done)|omega|rfl) [-getElem?_pos, -V.cells, -V.one,hr,hf,jR,lO,p1,p2,bM,gs4,l4,e5,l5,b_.chk];exact⟨m,by omega,by rw[aA (show ¬n1<N by omega),aA (show ¬n2<N by omega)];exact hW,((k_.trans kX).trans kk).set (by omega),by rw[aA (by omega)];exact(kk.get N (by omega)).trans EF,t+1,by omega,by simp,f4.ay gs4 nuS (by omega)⟩
 rintro _ r ⟨H,n2,W⟩ hr ⟨rfl,hW,k_,hn,gN,cs,gs,fs⟩;simp only at hW k_ hn gN gs fs;obtain⟨u1,u2⟩:=fs.len;have e5:=BD (d:=zF) u1 rfl;rw[e0]at e5;have ss:=Ia u1;have lN:N<n2:=by omega
 simp(disch:=first|(simp;done)|omega|rfl) [-getElem?_pos, -V.cells, -V.one,hr,gs,hn,aI,ss,lO,u1,u2,bM,gN,lN,e5,Ret];exact⟨hW,k_.set (Yv5 _),(fs.ay gN (by intro x hx m;simp at hx;rcases hx with rfl|rfl|rfl|rfl<;>simp) (by simp[u1])).up⟩
def unR(i:Nat):List Rat:=(List.range 12).map fun k=>if k=i then 1 else 0
def Ytx(p:List Rat)(i:Nat):Nat->List Rat
 |0=>unR i
 |n+1=>nxR p (Ytx p i n)
def Xcl(p:List Rat)(n i:Nat):Rat:=abN (Ytx p i n) (p.length-1)
def Xab(p:List Rat)(n:Nat):Nat->Rat
 |0=>0
 |i+1=>if Xab p n i<Xcl p n i then Xcl p n i else Xab p n i
def Yz2{p:List Rat}{i n:Nat}:(Ytx p i n).length=12:=by cases n<;>simp[Ytx,unR,nxR]
def Yz4(j:Nat):Nat->Nat
 |0=>1
 |n+1=>Yz4 j n+(j+j)+Yz4 j n+1
def Xbd{j:Nat}:∀{n:Nat},Yz4 j n+(2*j+1)<=(2*j+2)*2^n
 |0=>by simp[Yz4];omega
 |n+1=>by
  have:=Xbd (j:=j) (n:=n)
  rw[Yz4,fV,<-AG]
  omega
def Yz9{p:List Rat}{i j:Nat}(hq:∀y∈p,Qb j y)(l1:2<=p.length)(l2:p.length<=13)(hz:pg p (p.length-1)≠0):∀{n:Nat},∀y∈Ytx p i n,Qb (Yz4 j n) y
 |0,y,hy=>by
  obtain⟨k,_,rfl⟩:=vo.1 hy
  split
  ·exact Qb.int (z:=1) (k:=1) (by decide) (by decide)
  ·exact Qb.int (z:=0) (k:=1) (by decide) (by decide)
 |n+1,y,hy=>by
  have ih:=Yz9 (i:=i) hq l1 l2 hz (n:=n)
  obtain⟨k,hk,rfl⟩:=vo.1 hy
  have hk:=Dh.1 hk
  have g:∀m,m<12->Qb (Yz4 j n) (pg (Ytx p i n) m):=fun m hm=>ih _ (eI (iy (by rw[Yz2];exact hm)))
  unfold nxQ
  rw[Yz4]
  split
  ·rename_i h
   have bt:=hq _ (eI (iy (p:=p) (i:=k) (by omega)))
   have bd:=hq _ (eI (iy (p:=p) (i:=p.length-1) (by omega)))
   have qn:Qb j (-pg p k):=by
    unfold Qb
    rw[Rat.neg_num,AR,Rat.neg_den]
    exact bt
   have qd:Qb (j+j) (-pg p k/pg p (p.length-1)):=by rw[Rat.div_def];exact qn.mul (bd.inv hz)
   have qm:=(g (p.length-2) (by omega)).mul qd
   split
   ·rw[Rat.add_zero]
    exact qm.mono (by omega)
   ·exact(qm.add (g (k-1) (by omega))).mono (by omega)
  ·exact(Qb.int (z:=0) (k:=1) (by decide) (by decide)).mono (by omega)
variable {N:Nat} {h:T O}
def A.w14:=A.q Tryz.f14
def A.zgW:=A.ql A.w14 1 []
def A.zgX:=(fun x0=>A.ql A.w14 0 [x0]) A.zgW
def A.b14:=(fun x0=>A.qb A.w14 [x0]) A.zgX
def A.k14:=@A.kk 14 52 [.tmp 4,.tmp 5] A.b14 (by kernel_rfl) rfl
def Xal(z:Int):Int:=if z<0\/32<z then 3 else 0
def Xdu{i:Nat}(hi:i<12):ArC h N ((zR 12).set i (nC 1)) (unR i):=by
 have z:ArC h N (zR 12) (nxP [] [] 0):=Xcd;have s:=z.put (j:=i) (c:=nC 1) (q:=1) (by simpa[nxP]using hi) ⟨1,.ziA,1,.ziA,rfl,In.small (by decide) (by decide),In.small (by decide) (by decide)⟩;have e:(nxP [] [] 0).set i 1=unR i:=by
  apply o8;intro k;by_cases hk:k<12
  ·have e2:(unR i)[k]?=some (if k=i then 1 else 0):=by unfold unR;rw[jT,NX hk];rfl
   rw[e2];by_cases e:i=k
   ·subst e;rw[lM (by simpa[nxP]using hi),aR rfl]
   rw[eJ e,Xah hk,aA (by omega),aA (Ne.symm e)]
  rw[kc (by simp[nxP];omega),kc (by simp[unR];omega)]
 rw[e]at s;exact s
def ArC.frs{P d:Nat}{cs:List (List V)}{r:List Rat}{e:TypeId}{w:Bool}(s:ArC h N cs r)(hr:r.length=12)(g:h.get P=some (.cells cs.flatten e w))(hP:P<N)(hd:d<=12):mV h N (.slice P 0 d (some 12) 4) (r.take d):=by
 have hl:(cs.take d).length=d:=by rw[j9,s.len,hr];omega
 refine⟨cs.take d,.inr ⟨P,0,some 12,cs.flatten,e,w,by rw[hl],hP,g,fun j x hj=>?_,by rw[hl,s.zgI hr];omega,fun k hk=>by simp at hk;omega⟩,by rw[hl,j9,hr];omega,fun j q hq=>?_⟩
 ·have NS:j<d:=by have:=yz hj;omega
  rw[List.getElem?_take_of_lt NS]at hj;rw[oJ];exact Xat s.four hj
 have NS:j<d:=by have:=yz hq;rw[j9]at this;omega
 rw[List.getElem?_take_of_lt NS]at hq;obtain⟨c,h1,h2⟩:=s.at_ j q hq;exact⟨c,by rw[List.getElem?_take_of_lt NS];exact h1,h2⟩
def Xds{r:List Rat}{d:Nat}(hd:d<=r.length):abQ (r.take d)=abN r d:=by
 have k:∀m,m<=d->abN (r.take d) m=abN r m:=fun m=>by
  induction m with
  |zero=>intro _;rfl
  |succ m ih=>
   intro hm;have e:pg (r.take d) m=pg r m:=by unfold pg;rw[List.getElem?_take_of_lt (by omega)]
   rw[abN,abN,ih (by omega),e]
 unfold abQ;rw[j9,oW hd];exact k d (Yv5 _)
def Xax{p:List Rat}{n K:Nat}(hK:1<=K)(h:∀i,Qb K (Xcl p n i)):∀{i:Nat},Qb K (Xab p n i)
 |0=>(Qb.int (z:=0) (k:=1) (by decide) (by decide)).mono hK
 |i+1=>by
  unfold Xab
  split
  ·exact h i
  ·exact Xax hK h
def Xde{j:Nat}{u:V}{a:List bj}{z:Int}(hu:Sl h N u (strs a))(hP:j_ h N)(la:a.length<100000)(fa:∀s∈a,s.length<=20000)(hR:Yz7 a (Xal z)=0->(∀y∈ziB a,Qb j y)/\j<=100/\z<=8):Fn A.C 14 [u,.int .i64 z] h N (fun x _ _=>Yvu x (Yz7 a (Xal z)) (Xab (ziB a) z.toNat (a.length-1))):=by
 intro w;have lO:∀c:List V,(V.agg c).cells=c:=fun _=>rfl;have we:∀st,A.C.call (.func 65 [] []) [.int .i64 z,.int .i64 0,.int .i64 32] st=some (.int .i64 (Xal z),st):=fun st=>Zm3;rw[aZ,A.k14 (by simp)];simp(disch:=first|(simp;done)|omega|rfl) [-getElem?_pos,A.b14,we];refine av (Xby hu la fa) ?_;rintro _ h1 n1 k1 rfl;by_cases c:Yz7 a (Xal z)=0
 ·obtain⟨R1,R2,R3⟩:=hR c;obtain⟨c1,c2,c3⟩:ks a=0/\Xal z=0/\a.length≠1:=by
   unfold Yz7 at c;by_cases x:ks a=0
   ·rw[cN,aR x]at c;by_cases y:Xal z=0
    ·rw[cN,aR y]at c;by_cases w:a.length=1
     ·rw[aR w,cN,aA (by decide)]at c;omega
     exact⟨x,y,w⟩
    rw[cN,aA y]at c;exact absurd c y
   rw[cN,aA x]at c;exact absurd c x
  obtain⟨a0,a1,a2,a3⟩:=Yti c1;have ta:=Ymk a2;have Il:Sl h1 n1 u (tx (ziB a)):=by rw[<-ta];exact hu.ai k1
  have lra:=@Yht a;obtain⟨n,rfl⟩:∃n:Nat,z=(n:Int):=⟨z.toNat,by
   unfold Xal at c2
   split at c2
   ·omega
   ·rename_i hc;omega⟩;rw[c,Int.toNat_natCast,<-lra];rw[<-lra]at a0 a1 a3 c3;generalize ziB a=p at*;have l1:2<=p.length:=by omega
  have hn8:n<=8:=by omega
  have bb:∀m,m<=8->Yz4 j m<=100000:=fun m hm=>by
   have h1:=Xbd (j:=j) (n:=m);have h2:(2*j+2)*2^m<=202*2^8:=tU (by omega) (Ywo (by decide) hm);have h3:202*2^8=51712:=by decide
   omega
  simp(disch:=first|(simp;done)|omega|rfl) [-getElem?_pos,a_];refine av (Yhs Il (by omega) R1 (by omega)) ?_;rintro _ h2 n2 k2 ⟨rfl,rq⟩;simp(disch:=first|(simp;done)|omega|rfl) [-getElem?_pos,];refine av (Xb3 (n:=0) (by decide)) ?_;rintro _ h3 n3 k3 rfl;have rv:=rq.frt.ai k3;have K3:=(k1.trans k2).trans k3;have leN:=K3.le;have kD:ah h3 n3 ((h3.set n3 (.cells [.int .i64 0,.ziA,.int .i64 0,.ziA] 102 true)).set n3 (.cells (nC 0) 102 true)) (n3+1):=(ah.refl.new _).set (Yv5 _);have gD:((h3.set n3 (.cells [.int .i64 0,.ziA,.int .i64 0,.ziA] 102 true)).set n3 (.cells (nC 0) 102 true)).get n3=some (.cells (nC 0) 102 true):=by simp
  have n0l:(nC 0).length=4:=rfl;have n0o:(nC 0).all V.one=true:=rfl;have spz:=BD (c:=nC 0) (d:=[.int .i64 0,.ziA,.int .i64 0,.ziA]) rfl rfl;have m3:¬n3<N:=by omega
  obtain⟨d,hd⟩:∃d,p.length-1=d:=⟨_,rfl⟩;have dg:=fun (h':T O) (n':Nat) (hk:ah h3 n3 h' n') (w':List Nat)=>Yfo (w:=w') (rv.ai hk).1 (by omega);have d1:(p.length:Int)-1=((p.length-1:Nat):Int):=by omega
  rw[d1,hd]at dg;rw[hd];simp(disch:=first|(simp;done)|omega|rfl) [-getElem?_pos, -V.cells, -V.one,lO,n0l,n0o,spz,bM];generalize (h3.set n3 (.cells [.int .i64 0,.ziA,.int .i64 0,.ziA] 102 true)).set n3 (.cells (nC 0) 102 true)=HD at*;have dg0:=dg HD (n3+1) kD;have f0:fz HD (n3+1) (nC 0) (Xab p n 0):=⟨0,.ziA,1,.ziA,rfl,In.small (by decide) (by decide),In.small (by decide) (by decide)⟩;have z48:[.int .i64 0,.ziA,.int .i64 0,.ziA,.int .i64 0,.ziA,.int .i64 0,.ziA,.int .i64 0,.ziA,.int .i64 0,.ziA,.int .i64 0,.ziA,.int .i64 0,.ziA,.int .i64 0,.ziA,.int .i64 0,.ziA,.int .i64 0,.ziA,.int .i64 0,.ziA,.int .i64 0,.ziA,.int .i64 0,.ziA,.int .i64 0,.ziA,.int .i64 0,.ziA,.int .i64 0,.ziA,.int .i64 0,.ziA,.int .i64 0,.ziA,.int .i64 0,.ziA,.int .i64 0,.ziA,.int .i64 0,.ziA,.int .i64 0,.ziA,.int .i64 0,.ziA]=(zR 0).flatten:=rfl;have l12:(zR 12).flatten.length=48:=rfl;have lz:(zR 0).flatten.length=48:=rfl;have o12:(zR 12).flatten.all V.one=true:=rfl;have s12:=Xbo l12 lz;have n1l:(nC 1).length=4:=rfl;have n1o:(nC 1).all V.one=true:=rfl;have z12:(zR 12).length=12:=Xbm (by decide);have four:∀x∈zR 12,x.length=4:=(Xcd (h:=HD) (N:=0) (p:=[]) (r:=[])).four;simp(disch:=first|(simp;done)|omega|rfl) [-getElem?_pos,dg0];refine Zal [(9,11),(24,47)] (fun e r st=>e=.exit 0/\aL N st.w=[]/\ah h3 n3 st.h st.n/\n3+1<=st.n/\∃c8,st.h.get n3=some (.cells c8 102 true)/\fz st.h st.n c8 (Xab p n d)) (fun m r st=>aL N st.w=[]/\ah h3 n3 st.h st.n/\n3+1<=st.n/\∃(i:Nat) (c8:List V),i+m=d/\r.get 24=some (.int .i64 i)/\st.h.get n3=some (.cells c8 102 true)/\fz st.h st.n c8 (Xab p n i)) d ?_ ?_ ?_
  ·exact⟨by simp[aL,m3],kD,Yv5 _,0,nC 0,by omega,by simp,gD,f0⟩
  ·rintro m r ⟨H,nH,W⟩ hr hf ⟨hW,hK,hnH,i,c8,him,h24,g8,f8⟩;simp only at hW hK hnH g8 f8;rw[cn];cases m with
   |zero=>
    obtain rfl:i=d:=by omega
    simp(disch:=first|(simp;done)|omega|rfl) [-getElem?_pos,A.zgX,hr,hf,h24];exact⟨hW,hK,hnH,c8,g8,f8⟩
   |succ m=>
    have aW:i<d:=by omega
    have zij:(i:Int)<(d:Int):=by omega
    have i12:i<12:=by omega
    have zh6:(i:Int)<12:=by omega
    have ii0:(0:Int)<=(i:Int):=by omega
    have iit:(i:Int).toNat=i:=by omega
    have i44:i*4<=44:=by omega
    simp(disch:=first|(simp;done)|omega|rfl) [-getElem?_pos,A.zgX,hr,hf,h24,aW,zij];refine av Xa0 ?_;rintro _ h4 n4 k4 rfl;have le4:=k4.le;have kE:ah h4 n4 ((h4.set n4 (.cells (zR 0).flatten 113 true)).set n4 (.cells (zR 12).flatten 113 true)) (n4+1):=(ah.refl.new _).set (Yv5 _);have gE:((h4.set n4 (.cells (zR 0).flatten 113 true)).set n4 (.cells (zR 12).flatten 113 true)).get n4=some (.cells (zR 12).flatten 113 true):=by simp
    simp(disch:=first|(simp;done)|omega|rfl) [-getElem?_pos, -V.cells, -V.one,lO,l12,lz,o12,s12,z48,bM];have mE:¬n4<N:=by omega
    generalize ((h4.set n4 (.cells (zR 0).flatten 113 true)).set n4 (.cells (zR 12).flatten 113 true))=HE at*;refine av (Xb3 (n:=1) (by decide)) ?_;rintro _ h5 n5 k5 rfl;have le5:=k5.le;have g5:=(k5.get n4 (by omega)).trans gE;have i5:n4<n5:=by omega
    have sp:=Xa3 four (j:=i) (c:=nC 1) (by rw[z12];exact i12) n1l;have u5:ArC h5 n5 ((zR 12).set i (nC 1)) (unR i):=Xdu i12;have zl:=u5.zgI (by simp[unR]);have nz:sY (zR 12).flatten:=(Xcd (h:=h5) (N:=n5) (p:=[]) (r:=[])).nou;have u6:=u5.ay (i:=n4) (e1:=113) (w1:=true) g5 nz (by rw[zl,l12]);have kF:ah h4 n4 (h5.set n4 (.cells ((zR 12).set i (nC 1)).flatten 113 true)) n5:=(kE.then (⟨by omega,fun x hx=>k5.get x (by omega)⟩:ah HE n4 h5 n5)).set (Yv5 _);have gF:(h5.set n4 (.cells ((zR 12).set i (nC 1)).flatten 113 true)).get n4=some (.cells ((zR 12).set i (nC 1)).flatten 113 true):=by simp
    simp(disch:=first|(simp;done)|omega|rfl) [-getElem?_pos, -V.cells, -V.one,hr,hf,lO,n1l,n1o,ii0,iit,i12,zh6,i44,g5,i5,l12,sp,bM];generalize h5.set n4 (.cells ((zR 12).set i (nC 1)).flatten 113 true)=HF at*;have K4:=hK.trans k4;refine Zal [(32,37)] (fun e r' st=>e=.exit 2/\aL N st.w=[]/\ah h4 n4 st.h st.n/\n4+1<=st.n/\∃cs,st.h.get n4=some (.cells cs.flatten 113 true)/\ArC st.h st.n cs (Ytx p i n)) (fun m' r' st=>aL N st.w=[]/\ah h4 n4 st.h st.n/\n4+1<=st.n/\∃(t:Nat) (cs:List (List V)),t+m'=n/\r'.get 32=some (.int .i64 t)/\st.h.get n4=some (.cells cs.flatten 113 true)/\ArC st.h st.n cs (Ytx p i t)) n ?_ ?_ ?_
    ·exact⟨by simp[aL,mE,hW],kF,by omega,0,(zR 12).set i (nC 1),by omega,by simp,gF,u6⟩
    ·rintro m' r' ⟨H2,nH2,W2⟩ lV rF ⟨dX,hK2,eP,t,cs,htm,h32,EH,JN⟩;simp only at dX hK2 eP EH JN;rw[cn];cases m' with
     |zero=>
      obtain rfl:t=n:=by omega
      simp(disch:=first|(simp;done)|omega|rfl) [-getElem?_pos,A.zgW,lV,rF,h32];exact⟨dX,hK2,eP,cs,EH,JN⟩
     |succ m'=>
      have ltt:t<n:=by omega
      have zha:(t:Int)<(n:Int):=by omega
      have i10:n4<nH2:=by omega
      have fl:=JN.zgI Yz2;have sl:=Xc0 fl;have K42:=K4.then (⟨by have:=hK2.le;omega,fun x hx=>hK2.get x (by omega)⟩:ah h4 n3 H2 nH2);simp(disch:=first|(simp;done)|omega|rfl) [-getElem?_pos, -V.cells, -V.one,A.zgW,lV,rF,hr,hf,h32,ltt,zha,EH,i10,fl,sl,aI];refine av (Xcj (rv.ai K42) JN Yz2 l1 (by omega) a3 R1 (Yz9 R1 l1 (by omega) a3) (by omega) (by have:=bb t (by omega);omega)) ?_;rintro _ h6 n6 k6 ⟨AH,rfl,Bn⟩;have le6:=k6.le;have Rx:=(k6.get n4 i10).trans EH;have i11:n4<n6:=by omega
      have fl':=Bn.zgI (by simp[nxR]);have on':=Bn.p_;have sp':=Xbo fl' fl;have nu:=(JN.ai k6).nou;have Bo:=Bn.ay (i:=n4) (e1:=113) (w1:=true) Rx nu (by rw[fl',fl]);generalize hCF:AH.flatten=CF at*;simp(disch:=first|(simp;done)|omega|rfl) [-getElem?_pos, -V.cells, -V.one,lV,rF,h32,lO,fl',on',Rx,i11,fl,sp',bM,aL,mE];exact⟨m',by omega,dX,(hK2.trans k6).set (Yv5 _),by omega,t+1,by omega,by simp,AH,by simp[hCF],Bo⟩
    rintro _ r' ⟨H2,nH2,W2⟩ lV ⟨rfl,dX,hK2,eP,cs,EH,JN⟩;simp only at dX hK2 eP EH JN;have i10:n4<nH2:=by omega
    have K42:=K4.then (⟨by have:=hK2.le;omega,fun x hx=>hK2.get x (by omega)⟩:ah h4 n3 H2 nH2);have dg2:=dg H2 nH2 K42;have g8':=(hK2.get n3 (by omega)).trans ((k4.get n3 (by omega)).trans g8);have f8':=f8.ai (k4.trans hK2);have d12:d<=12:=by omega
    have zh7:(d:Int)<=12:=by omega
    have vG:(0:Int)<=(d:Int):=by omega
    have dt':(d:Int).toNat=d:=by omega
    have fl:=JN.zgI Yz2;have sfr:=JN.frs (d:=d) Yz2 EH i10 d12;have bq:∀y∈(Ytx p i n).take d,Qb (Yz4 j n) y:=fun y hy=>Yz9 R1 l1 (by omega) a3 y (BR hy);have bn:=bb n hn8;have i3:n3<nH2:=by omega
    simp(disch:=first|(simp;done)|omega|rfl) [-getElem?_pos,lV,hr,dg2,zk,aH,dG,Zed,d12,zh7,vG,dt',EH,i10,fl];refine av (Xch sfr bq (by rw[j9];omega) (by omega)) ?_;rintro _ h7 n7 k7 f7;rw[Xds (by rw[Yz2];exact d12)]at f7;obtain⟨c7,rfl,fc7⟩:=f7.c;obtain⟨e71,e72⟩:=fc7.len;have e7:=BD (d:=[V.int .i64 0,.ziA,.int .i64 0,.ziA]) e71 rfl;have s7:=Ia e71;have le7:=k7.le;have kG:ah h7 n7 ((h7.set n7 (.cells [.int .i64 0,.ziA,.int .i64 0,.ziA] 102 true)).set n7 (.cells c7 102 true)) (n7+1):=(ah.refl.new _).set (Yv5 _);have gG:((h7.set n7 (.cells [.int .i64 0,.ziA,.int .i64 0,.ziA] 102 true)).set n7 (.cells c7 102 true)).get n7=some (.cells c7 102 true):=by simp
    obtain⟨e81,e82⟩:=f8'.len;have s8:=Ia e81;have g87:=((k7.trans kG).get n3 i3).trans g8';have f87:=f8'.ai (k7.trans kG);have f77:=fc7.ai kG;have i37:n3<n7+1:=by omega
    have ne7:¬n3=n7:=by omega
    have m7:¬n7<N:=by omega
    simp(disch:=first|(simp;done)|omega|rfl) [-getElem?_pos, -V.cells, -V.one,lV,hr,lO,e71,e72,e7,bM];generalize (h7.set n7 (.cells [.int .i64 0,.ziA,.int .i64 0,.ziA] 102 true)).set n7 (.cells c7 102 true)=HG at*;simp(disch:=first|(simp;done)|omega|rfl) [-getElem?_pos, -V.cells, -V.one,lV,hr,gG,g87,i37,s7,s8,aI];have bN:Qb (1+d*(Yz4 j n+Yz4 j n+1)) (abN (Ytx p i n) d):=Xaf (Yz9 R1 l1 (by omega) a3) (by rw[Yz2];exact d12);have hKD:1+d*(Yz4 j n+Yz4 j n+1)<=10000000:=by have:=tU d12 (show Yz4 j n+Yz4 j n+1<=200001 by omega);omega
    have bD:Qb (1+d*(Yz4 j n+Yz4 j n+1)) (Xab p n i):=Xax (by omega) fun i'=>by unfold Xcl;rw[hd];exact Xaf (Yz9 R1 l1 (by omega) a3) (by rw[Yz2];exact d12)
    have wN:=bN.eX;have wD:=bD.eX;refine av (KW f77.fc f87.fc (by omega) (by omega) (by omega) (by omega)) ?_;rintro _ h9 n9 k9 rfl;have le9:=k9.le;have g79:=(k9.get n7 (by omega)).trans gG;have g89:=(k9.get n3 i37).trans g87;have i79:n7<n9:=by omega
    have i39:n3<n9:=by omega
    have f79:=f77.ai k9;have f89:=f87.ai k9;have e88:=BD (d:=c8) e71 e81;have K9:=((K42.trans k7).trans kG).trans k9;have l4:4<=c8.length:=by omega
    have er:Xab p n (i+1)=if Xab p n i<abN (Ytx p i n) d then abN (Ytx p i n) d else Xab p n i:=by rw[Xab,Xcl,hd]
    have Dm:=hf.inner (D':=[(32,37)]) rfl (fun hh=>by simpa using hh) lV;by_cases zZ:Xab p n i<abN (Ytx p i n) d
    ·have hs:=Sg.2 zZ;rw[aR zZ]at er;have sZ:=f89.Sk;simp(disch:=first|(simp;done)|omega|rfl) [-getElem?_pos, -V.cells, -V.one,hs,lV,hr,hf,h24,lO,e71,e72,e88,g79,g89,i79,i39,s7,l4,bM,aI,aL,m3,m7];exact⟨by simpa using Dm,m,by omega,dX,K9.set (Yv5 _),by omega,i+1,by omega,by simp,by rw[er];exact f79.ay g89 sZ (by rw[e71,e81])⟩
    have hs:=mt Sg.1 zZ;rw[aA zZ]at er;simp(disch:=first|(simp;done)|omega|rfl) [-getElem?_pos, -V.cells, -V.one,hs,lV,hr,hf,h24,aL,m3,m7];exact⟨by simpa using Dm,m,by omega,dX,K9,by omega,i+1,by omega,by simp,c8,g89,by rw[er];exact f89⟩
  rintro _ r ⟨H,nH,W⟩ hr ⟨rfl,hW,hK,hnH,c8,g8,f8⟩;simp only at hW hK hnH g8 f8;obtain⟨e81,e82⟩:=f8.len;have s8:=Ia e81;have i3:n3<nH:=by omega
  have hKD:1+d*(Yz4 j n+Yz4 j n+1)<=10000000:=by have:=tU (show d<=12 by omega) (show Yz4 j n+Yz4 j n+1<=200001 by have:=bb n hn8;omega);omega
  have bD:Qb (1+d*(Yz4 j n+Yz4 j n+1)) (Xab p n d):=Xax (by omega) fun i'=>by unfold Xcl;rw[hd];exact Xaf (Yz9 R1 l1 (by omega) a3) (by rw[Yz2];omega)
  have K1:=K3.trans hK;simp(disch:=first|(simp;done)|omega|rfl) [-getElem?_pos, -V.cells, -V.one,hr,g8,i3,s8,aI];refine av (Ycq f8.fc (hP.ai K1) bD (by omega)) ?_;rintro _ h9 n9 k9 rfl;by_cases cb:vk (Xab p n d)=true
  ·simp(disch:=first|(simp;done)|omega|rfl) [-getElem?_pos,cb,Ret];exact⟨hW,K1.trans k9,.inr ⟨rfl,by rw[aR cb]⟩⟩
  simp(disch:=first|(simp;done)|omega|rfl) [-getElem?_pos,cb,Ret];exact⟨hW,K1.trans k9,.inr ⟨rfl,by rw[aA cb]⟩⟩
 simp(disch:=first|(simp;done)|omega|rfl) [-getElem?_pos,c,a_,Ret];exact⟨k1,.inl ⟨c,rfl⟩⟩
end
end Go.Mx
