/-lensletlaw05-/
import Derived.Test.YtnkdakmfipgidaaGreatDoorLnL
set_option linter.all false
set_option maxHeartbeats 16000000
namespace Go.Mx
open Go Go.Proofs
set_option maxRecDepth 1000000
def Yav{nB n0 n1 B0:Nat}{B H:T O}{W:List Nat}{vd vm wv sv xv:V}{m ms:List (List aD)}{ws ss xs os:List aD}{r0:T V}(hI:AX m ws ss xs os)(hM:Ln ms (ba m))(Ea:nB<=n0)(hd:dq B n0 vd m)(hw:Sl B n0 wv (strs ws))(hm:dq B n0 vm ms)(hP:ik B n0)(hB:B.get B0=some (.cells [wv,sv,xv] 25 true))(nH:B0<n0)(hW:ay nB W=[])(hK:ab B n0 H n1)(a0:r0.get 0=some vd)(a2:r0.get 2=some vm)(a4:r0.get 4=some (.ptr B0 0)):
  Code A.C none A.A3 ⟨r0,334,[]⟩ ⟨H,n1,W⟩ (fun e fr st=>e=.ret/\∃r,fr=⟨r,334,[]⟩/\r.get 6=some (.bool true)/\ay nB st.w=[]/\ab B n0 st.h st.n):=by
 rw[bu];have SW:=hK.le;have k1:=hM.k1;have k4:=hM.k4;have n4:=hI.n4;have lD:(bC m).length=m.length:=vu;have lM:(bC ms).length=ms.length:=vu;have s1:=hI.s1;have s5:=hI.s5;have mI:(cv ws).length=(bC m).length:=by rw[lD];simp[cv,hI.wl]
 have gB:=(hK.get B0 nH).trans hB;have NY:B0<n1:=by omega
 have hE:Ed m ws ms=0:=D6 fun e he=>by
  simp only[iW,List.not_mem_nil,or_false]at he;rcases he with rfl|rfl
  ·exact hI.Lm
  exact hM.ck
 simp(disch:=first|(simp;done)|omega|rfl) [-getElem?_pos,A.A3,a0,a2,a4,gB,NY];refine av (Yno (hd.ad hK) (hw.ad hK) (hm.ad hK) (hP.ad hK) hI.sh hI.Ll hM.sh (by omega) (.inl k4)) ?_;rintro _ H2 n2 k2 ⟨z,c,rfl,hT⟩;have j2:=hK.trans k2;have Zl:=fun w=>CU (w:=w) (hP.ad j2);cases hs:nZ (bC m) (bC ms) (cv ws)with
 |none=>
  have hC:Ba m ws ms=14:=by unfold Ba;rw[ar hE,ar hs]
  rw[hC]at hT;have hc:c=14:=by
   rcases hT with⟨_,_,h3⟩|⟨h0,_⟩
   ·exact h3
   cases h0
  subst hc;simp(disch:=first|(simp;done)|omega|rfl) [-getElem?_pos,a0,a2,a4,bh,Zl,hW,cQ.cU];exact j2
 |some Hm=>
  have hC:Ba m ws ms=0:=by unfold Ba;rw[ar hE,hs];rfl
  have hQ:NZ m ws ms=Hm:=by unfold NZ;rw[hs];rfl
  have qH:=Yod hI.rc hM.rc mI (by omega) hI.qb hM.qb hI.wq n4 (by omega) (by omega) hs;rw[hC,hQ]at hT;obtain⟨rfl,NL⟩:=hT.II (qH.mono (by decide));simp(disch:=first|(simp;done)|omega|rfl) [-getElem?_pos,a0,a2,a4,bh];refine mJ (Ynf (nB:=nB) (vd:=vd) (vm:=vm) (vH:=z) hI hM Ea hd hm hP (by simpa using hW) j2 NL hs (by simp[a0]) (by simp[a2]) (by simp)) ?_;rintro _ _ ⟨Hz,nz,Wz⟩ ⟨rfl,r3,rfl,Bb,uE,uF⟩;simp only at uE uF;simp(disch:=first|(simp;done)|omega|rfl) [-getElem?_pos,Bb,uE,uF]
def Yng{nB n0 n1 B0:Nat}{B H:T O}{W:List Nat}{vd vm vc vX wv sv xv:V}{m ms:List (List aD)}{ws ss xs os:List aD}{Cr:List (List Rat)}{r0:T V}(hI:AX m ws ss xs os)(hM:Ln ms (ba m))(Ea:nB<=n0)(hd:dq B n0 vd m)(hw:Sl B n0 wv (strs ws))(ct:Sl B n0 sv (strs ss))(hm:dq B n0 vm ms)(hP:ik B n0)(hB:B.get B0=some (.cells [wv,sv,xv] 25 true))(nH:B0<n0)(hW:ay nB W=[])(hK:ab B n0 H n1)(eC:bb (bC m) (ba m)=Cr)(qC:bz Cr 1212)(Bc:mX H n1 vc Cr)(hX:Tx H n1 vX ((fe (bC m) (cv ws) (ba m)).map fun r=>e_ r (cv ss)))(a0:r0.get 0=some vd)(a2:r0.get 2=some vm)(a4:r0.get 4=some (.ptr B0 0))(a9:r0.get 9=some vc)(IJ:r0.get 14=some vX):
  Code A.C none A.yv ⟨r0,334,[]⟩ ⟨H,n1,W⟩ (fun e fr st=>e=.ret/\∃r,fr=⟨r,334,[]⟩/\r.get 6=some (.bool true)/\ay nB st.w=[]/\ab B n0 st.h st.n):=by
 rw[bu];have SW:=hK.le;have kp:=hI.n1;have n4:=hI.n4;have s1:=hI.s1;have s5:=hI.s5;have lD:(bC m).length=m.length:=vu;have mI:(cv ws).length=(bC m).length:=by rw[lD];simp[cv,hI.wl]
 have Be:(cv ss).length=(bC m).length:=by rw[lD];simp[cv,hI.sl]
 have lc:=Bc.len;have gB:=(hK.get B0 nH).trans hB;have NY:B0<n1:=by omega
 by_cases h0:0<Cr.length
 ·have jM:(0:Int)<(Cr.length:Int):=by omega
  have qR:=Y9 hI.rc kp mI hI.wp hI.qb hI.wq n4 (by omega);have N6:0<(bb (bC m) (ba m)).length:=by rw[eC];exact h0
  obtain⟨J,_,hmd⟩:=SN hI.rc mI hI.wp N6;obtain⟨Hm,hs⟩:∃Hm,nZ (bC m) (bb (bC m) (ba m)) (cv ws)=some Hm:=⟨_,hmd⟩;have rC:aR (bb (bC m) (ba m)) (ba m):=CI hI.rc;obtain⟨Hl,Hc,_⟩:=Zf rC mI N6 hs;have qH:=Ycc hI.rc N6 hs Hl Hc qR (by decide);have hle:=(nR hI.rc (n:=ba m)).2;have Ag:=p9 (n:=ba m) hI.rc;obtain⟨x,y,fx,fr,fn⟩:=Yfe hI.rc kp mI hI.wp Be;have Td:((fe (bC m) (cv ws) (ba m)).map fun r=>e_ r (cv ss)).length=ba m:=by rw[cG,Gb]
  have qX:∀q∈(fe (bC m) (cv ws) (ba m)).map (fun r=>e_ r (cv ss)),Qb 1420 q:=Zc (n:=ba m) (fun j hj=>by rw[fx j hj];exact Y8 hI.rc mI hI.wp hI.qb hI.wq hI.sq n4 (by omega) fn fr j hj) Td;have qY:=Zxa (s:=cv ss) hI.rc N6 hs Hl Hc qX (by decide);have Bf:=Yrk (s:=cv ss) hI.rc mI hI.wp N6 hs Hl Hc;rw[eC]at hs Hl rC Bf Ag;simp(disch:=first|(simp;done)|omega|rfl) [-getElem?_pos,A.yv,a0,a2,a4,a9,IJ,lc,h0,jM,gB,NY];refine av (Yla (M:=Cr) (H0:=Hm) (hd.ad hK) (hw.ad hK) Bc (hP.ad hK) hI.sh hI.Ll hI.Lm h0 (by omega) rC (qC.mono (by decide)) hs (qH.mono (by decide))) ?_;rintro _ H2 n2 k2 ⟨vm2,rfl,IC⟩;have j2:=hK.trans k2;have me:=j2.le;have ld:=hd.len;have Zq:=(Bc.ad k2).len;have lm2:=IC.len;rw[Hl]at lm2;have ND:=(j2.get B0 nH).trans hB;have zbs:B0<n2:=by omega
  simp(disch:=first|(simp;done)|omega|rfl) [-getElem?_pos,a0,a2,a4,a9,IJ,Zq,lm2,bh,ld];refine av (S0 (n:=m.length) IC.Gd (by rw[cG];omega) (S6 (qH.mono (by decide)) Hc (by omega))) ?_;rintro _ H3 n3 k3 rfl;rw[<-lD,Ge (qH.mono (by decide)) Hc];have j3:=j2.trans k3;have wc:=j3.le;have AR:=(j3.get B0 nH).trans hB;have Zr:B0<n3:=by omega
  simp(disch:=first|(simp;done)|omega|rfl) [-getElem?_pos,a0,a2,a4,a9,IJ,bh,AR,Zr];refine av (SP (c:=m.length) (IC.ad k3) (nF.sl (ct.ad j3) hI.so) (hP.ad j3) (by omega) (by omega) s1 (by omega) (by rw[<-lD];exact Hc) (qH.mono (by decide)) (fun q hq=>(hI.sq q hq).mono (by decide)) (by rw[Be,lD])) ?_;rintro _ H4 n4' k4 NU;obtain⟨Y,eY⟩:∃l,Hm.map (fun r=>e_ r (cv ss))=l:=⟨_,rfl⟩;rw[eY]at NU qY Bf;have lY:Y.length=Cr.length:=by rw[<-eY,cG,Hl]
  have Te:∀q∈Y,Qb 1800 q:=fun q hq=>(qY q hq).mono (by decide);obtain⟨vY,rfl,tY⟩:=NU.got rfl Te;have j4:=j3.trans k4;have Zs:=(k2.trans k3).trans k4;have lc4:=(Bc.ad Zs).len;simp(disch:=first|(simp;done)|omega|rfl) [-getElem?_pos,a0,a2,a4,a9,IJ,bh,lc4];refine av (Lp (n:=Cr.length) (l:=Y.map aP) tY (by rw[cG];omega) (SY Te)) ?_;rintro _ H5 n5 k5 rfl;have Lq:dj (Y.map aP) Cr.length=0:=by rw[<-lY];exact Lr Te
  rw[Lq];have j5:=j4.trans k5;simp(disch:=first|(simp;done)|omega|rfl) [-getElem?_pos,a0,a2,a4,a9,IJ,bh];refine av (Zvi (c:=ba m) (Bc.ad (Zs.trans k5)) (tY.ad k5) (hP.ad j5) h0 (by omega) kp (by omega) rC (qC.mono (by decide)) Te lY) ?_;rintro _ H6 n6 k6 hT6;rw[Bf]at hT6;obtain⟨vZ,rfl,tZ⟩:=hT6.got rfl (fun q hq=>(qX q hq).mono (by decide));have j6:=j5.trans k6;have Gf:=fun w=>Yei (w:=w) (l:=((fe (bC m) (cv ws) (ba m)).map fun r=>e_ r (cv ss)).map aP) tZ (hX.ad ((Zs.trans k5).trans k6)) (by rw[cG,Td];omega);simp(disch:=first|(simp;done)|omega|rfl) [-getElem?_pos,a0,a2,a4,a9,IJ,bh,Gf];refine mJ (Yav (nB:=nB) (vd:=vd) (vm:=vm) (B0:=B0) (wv:=wv) (sv:=sv) (xv:=xv) hI hM Ea hd hw hm hP hB nH (by simpa using hW) j6 (by simp[a0]) (by simp[a2]) (by simp[a4])) ?_;rintro _ _ ⟨Hz,nz,Wz⟩ ⟨rfl,r3,rfl,Bb,uE,uF⟩;simp only at uE uF;simp(disch:=first|(simp;done)|omega|rfl) [-getElem?_pos,Bb,uE,uF]
 have e0:Cr.length=0:=by omega
 rw[e0]at lc;simp(disch:=first|(simp;done)|omega|rfl) [-getElem?_pos,A.yv,a0,a2,a4,a9,IJ,lc];refine mJ (Yav (nB:=nB) (vd:=vd) (vm:=vm) (B0:=B0) (wv:=wv) (sv:=sv) (xv:=xv) hI hM Ea hd hw hm hP hB nH hW hK (by simp[a0]) (by simp[a2]) (by simp[a4])) ?_;rintro _ _ ⟨Hz,nz,Wz⟩ ⟨rfl,r3,rfl,Bb,uE,uF⟩;simp only at uE uF;simp(disch:=first|(simp;done)|omega|rfl) [-getElem?_pos,Bb,uE,uF]
def Yw0{h:T O}{N q:Nat}{w:List Nat}{v:V}{l:List Rat}(hv:Tx h N v l)(hl:0<l.length)(il:l.length<1000)(hq:h.get q=some (.cells [] 38 true)):mm ⟨h,N,w⟩ 1 16 38 (.slice q 0 0 (some 0) 1) v=some (.slice N 0 l.length none 1,⟨h.set N (.cells (tx l) 38 true),N+1,w⟩):=by
 have Gf:gb ⟨h,N,w⟩ 1 v=some (l.length,tx l):=by rw[Zt hv,Eb]
 have Zu:aL ([]:List V) 0 0=some []:=rfl;simp only[mm,Gf,St.row,hq,yy,Nat.zero_mul,Zu,St.alloc];rw[ak (by omega),ak (by unfold wu;omega),ak (by omega)];simp
def Ytr{h:T O}{N q:Nat}{w:List Nat}{v:V}{us:List V}(hv:Sl h N v us)(hl:0<us.length)(il:us.length<1000)(hq:h.get q=some (.cells [] 23 true)):mm ⟨h,N,w⟩ 1 24 23 (.slice q 0 0 (some 0) 1) v=some (.slice N 0 us.length none 1,⟨h.set N (.cells us 23 true),N+1,w⟩):=by have Gf:gb ⟨h,N,w⟩ 1 v=some (us.length,us):=Zt hv;have Zu:aL ([]:List V) 0 0=some []:=rfl;simp only[mm,Gf,St.row,hq,yy,Nat.zero_mul,Zu,St.alloc];rw[ak (by omega),ak (by unfold wu;omega),ak (by omega)];simp
def Yum:aP (1/7)=[49,47,55]:=by decide+kernel
def Ynh{nB n0 n1 B0:Nat}{B H:T O}{W:List Nat}{vd vm vc vR wv sv xv:V}{m ms:List (List aD)}{ws ss xs os:List aD}{Cr Rq:List (List Rat)}{r0:T V}(hI:AX m ws ss xs os)(hM:Ln ms (ba m))(Ea:nB<=n0)(hd:dq B n0 vd m)(hw:Sl B n0 wv (strs ws))(ct:Sl B n0 sv (strs ss))(hm:dq B n0 vm ms)(hP:ik B n0)(hB:B.get B0=some (.cells [wv,sv,xv] 25 true))(nH:B0<n0)(hW:ay nB W=[])(hK:ab B n0 H n1)(eC:bb (bC m) (ba m)=Cr)(qC:bz Cr 1212)(Bc:mX H n1 vc Cr)(eR:fe (bC m) (cv ws) (ba m)=Rq)(IK:mX H n1 vR Rq)(a0:r0.get 0=some vd)(a2:r0.get 2=some vm)(a4:r0.get 4=some (.ptr B0 0))(a9:r0.get 9=some vc)(wJ:r0.get 11=some vR):
  Code A.C none A.A4 ⟨r0,334,[]⟩ ⟨H,n1,W⟩ (fun e fr st=>e=.ret/\∃r,fr=⟨r,334,[]⟩/\r.get 6=some (.bool true)/\ay nB st.w=[]/\ab B n0 st.h st.n):=by
 rw[bu];have SW:=hK.le;have kp:=hI.n1;have n4:=hI.n4;have s1:=hI.s1;have s5:=hI.s5;have lD:(bC m).length=m.length:=vu;have mI:(cv ws).length=(bC m).length:=by rw[lD];simp[cv,hI.wl]
 have Be:(cv ss).length=(bC m).length:=by rw[lD];simp[cv,hI.sl]
 have bK:=Y9 hI.rc kp mI hI.wp hI.qb hI.wq n4 (by omega);have rK:aR (fe (bC m) (cv ws) (ba m)) (bC m).length:=NO;have Oa:(fe (bC m) (cv ws) (ba m)).length=ba m:=Gb;rw[eR]at bK rK Oa;rw[lD]at rK;have Tf:0<Rq.length:=by omega
 have ekb:IH m ws=Rq:=eR;have Zv:=IK;obtain⟨us,sU,lU,hU⟩:=IK;obtain⟨x0,fK⟩:=bj Tf;obtain⟨u0,kj,tu0⟩:=hU 0 x0 fK;have xl:=rK x0 (cF fK);have xq:=bK x0 (cF fK);obtain⟨y0,tO⟩:=bj (l:=x0) (k:=0) (by omega);have yq:=xq y0 (cF tO);have vD:0<us.length:=by omega
 have jo:(0:Int)<(us.length:Int):=by omega
 have hA:=Ytr (N:=n1+1) (q:=n1) (w:=W) (h:=H.set n1 (.cells [] 23 true)) (sU.ad (ab.refl.new _)) vD (by omega) (by rw[T.ae,ar rfl]);obtain⟨X1,Tg⟩:∃X,(H.set n1 (.cells [] 23 true)).set (n1+1) (.cells us 23 true)=X:=⟨_,rfl⟩;rw[Tg]at hA;have Zw:ab H n1 X1 (n1+1+1):=by rw[<-Tg];exact(ab.refl.new _).new _
 have gX1:X1.get (n1+1)=some (.cells us 23 true):=by rw[<-Tg,T.ae,ar rfl]
 have lb:=sU.len;obtain⟨i,o,cc,e,rw,q1,q2,q3,q4⟩:=(sU.ad Zw).at kj;have qi:i<n1:=by obtain⟨i',o',Zx,e',rQ,p1,p2,_⟩:=sU.at kj;rw[q1]at p1;simp at p1;omega
 rw[gE]at q4;have ine:¬i=n1+1+1:=by omega
 have Zy:=Yw0 (N:=n1+1+1+1) (q:=n1+1+1) (w:=W) (l:=x0) (v:=u0) (h:=X1.set (n1+1+1) (.cells [] 38 true)) (tu0.ad (Zw.new _)) (by omega) (by omega) (by rw[T.ae,ar rfl]);obtain⟨X2,Th⟩:∃X,(X1.set (n1+1+1) (.cells [] 38 true)).set (n1+1+1+1) (.cells (tx x0) 38 true)=X:=⟨_,rfl⟩;rw[Th]at Zy;have kX2:ab X1 (n1+1+1) X2 (n1+1+1+1+1):=by rw[<-Th];exact(ab.refl.new _).new _
 have g20:X2.get (n1+1)=some (.cells us 23 true):=(kX2.get (n1+1) (by omega)).trans gX1;have g21:X2.get (n1+1+1+1)=some (.cells (tx x0) 38 true):=by rw[<-Th,T.ae,ar rfl]
 obtain⟨vW,Lu⟩:∃vW:V,vW=.slice (n1+1+1+1) 0 x0.length none 1:=⟨_,rfl⟩;have sp:ag us 0 [vW]=us.set 0 vW:=KW vD;have Zz:n1+1<n1+1+1+1+1:=by omega
 have ZA:n1+1+1+1<n1+1+1+1+1:=by omega
 have wa:¬n1+1<nB:=by omega
 have wb:¬n1+1+1+1<nB:=by omega
 have ZB:vW.cells=[vW]:=by rw[Lu];rfl
 have hoR:V.one vW=true:=by rw[Lu];rfl
 have hbR:yo vW=some (n1+1+1+1,0):=by rw[Lu];rfl
 have hlR:qg vW=some x0.length:=by rw[Lu];rfl
 have ZC:1<=us.length:=vD;rw[<-Lu]at Zy;have xp:0<x0.length:=by omega
 have xp':(0:Int)<(x0.length:Int):=by omega
 have ne1:¬n1+1+1+1=n1+1:=by omega
 have ty0:(tx x0)[0]?=some (.str (aP y0)):=Ynr tO;have IL:∀{h':T O} {N':Nat},Fn A.C 15 [.str (aP y0),.str [49,47,55]] h' N' (fun u _ _=>u=.str (aP (y0+1/7))):=fun {h' N'}=>by have:=Ytx (h:=h') (N:=N') yq (show Qb 3 (1/7:Rat) from ⟨by decide+kernel,by decide+kernel⟩) (by decide) (by decide);rwa [Yum]at this
 simp(disch:=first|(simp;done)|omega|rfl) [-getElem?_pos, -V.cells, -V.one,A.A4,a0,a2,a4,a9,wJ,hA,Zy,Ie,vD,jo,lb,q1,q3,q4,ine,g20,g21,Zz,ZA,sp,ZB,hoR,bO,ZC,wa,hW,hlR,hbR,xp,xp',ne1,ty0];refine av IL ?_;rintro _ H7 n7 k7 rfl;have le7:=k7.le;have g71:H7.get (n1+1+1+1)=some (.cells (tx x0) 38 true):=(k7.get _ (by omega)).trans (by rw[T.ae,ak (by omega)];exact g21);have g70:H7.get (n1+1)=some (.cells (us.set 0 vW) 23 true):=(k7.get _ (by omega)).trans (by rw[T.ae,ar rfl]);have e21:Lv H7 n7 (n1+1+1+1) x0:=⟨by omega,g71⟩;obtain⟨p3,p4⟩:=e21.put (j:=0) (q:=y0+1/7) xp;have lt7:n1+1+1+1<n7:=by omega
 have jI:∀s:aD,(V.str s).cells=[V.str s]:=fun _=>rfl;have Ti:∀s:aD,V.one (V.str s)=true:=fun _=>rfl;have ZD:1<=(tx x0).length:=by rw[Eb];omega
 have kx7:ab H n1 H7 n7:=((Zw.trans kX2).set (by omega)).trans k7;have j7:=hK.trans kx7;have gB7:∀o:O,(H7.set (n1+1+1+1) o).get B0=some (.cells [wv,sv,xv] 25 true):=fun o=>by rw[T.ae,ak (by omega)];exact(j7.get B0 nH).trans hB
 have ZE:B0<n7:=by omega
 simp(disch:=first|(simp;done)|omega|rfl) [-getElem?_pos, -V.cells, -V.one,a0,a2,a4,a9,wJ,bO,jI,Ti,ZD,p3,g71,lt7,wa,wb,hW,xp,xp',hlR,hbR,ne1,gB7,ZE,cQ.cU];obtain⟨z0,pn⟩:∃z,x0.set 0 (y0+1/7)=z:=⟨_,rfl⟩;rw[pn]at p4 ⊢;obtain⟨X4,Ob⟩:∃X,H7.set (n1+1+1+1) (.cells (tx z0) 38 true)=X:=⟨_,rfl⟩;rw[Ob]at p4 ⊢;have zl:z0.length=x0.length:=by rw[<-pn,zV]
 have zq:∀q∈z0,Qb 1800 q:=fun q hq=>by
  rw[<-pn]at hq;rcases CB hq with h|rfl
  ·exact(xq q h).mono (by decide)
  exact(yq.add (show Qb 3 (1/7:Rat) from ⟨by decide+kernel,by decide+kernel⟩)).mono (by decide)
 have zne:z0≠x0:=fun hc=>by
  have h1:z0[0]?=some (y0+1/7):=by rw[<-pn,List.getElem?_set,ar rfl,ar xp]
  rw[hc,tO]at h1;have h2:=mC h1;have h3:(1/7:Rat)=0:=by grind
  exact absurd h3 (by decide+kernel)
 have ZF:ab H n1 X4 n7:=by rw[<-Ob];exact kx7.set (by omega)
 have g4:X4.get (n1+1)=some (.cells (us.set 0 vW) 23 true):=by rw[<-Ob,T.ae,ak (by omega)];exact g70
 have tR:Tx X4 n7 vW z0:=by rw[Lu,<-zl];exact p4.DL.1
 have Tj:mX X4 n7 (.slice (n1+1) 0 us.length none 1) (Rq.set 0 z0):=by
  refine⟨us.set 0 vW,?_,by simp[lU],fun j l hl=>?_⟩
  ·have:=Sl.row (cp:=none) (N:=n7) (by omega) g4 rfl (by simp);rwa [zV]at this
  rw[List.getElem?_set]at hl ⊢;by_cases hj:0=j
  ·subst hj;rw[ar rfl,ar Tf]at hl;rw[ar rfl,ar vD];obtain rfl:=mC hl;exact⟨vW,rfl,tR⟩
  rw[ak hj]at hl ⊢;obtain⟨u,a1,a2⟩:=hU j l hl;exact⟨u,a1,a2.ad ZF⟩
 have j4:=hK.trans ZF;refine av (Yae (M:=Rq.set 0 z0) (hd.ad j4) (hw.ad j4) Tj hI.sh hI.Ll hI.Lm (by rw[zV];exact Oa) (fun r hr=>by
  rcases CB hr with h|rfl
  ·exact rK r h
  ·omega) (fun r hr q hq=>by
  rcases CB hr with h|rfl
  ·exact(bK r h q hq).mono (by decide)
  ·exact zq q hq)) ?_;rintro _ H9 n9 k9 rfl;have c2:¬IH m ws=Rq.set 0 z0:=fun hc=>by
  have h1:(Rq.set 0 z0)[0]?=some z0:=by rw[List.getElem?_set,ar rfl,ar Tf]
  rw[<-hc,ekb,fK]at h1;exact zne (mC h1).symm
 rw[ak c2];have j9:=j4.trans k9;have kx9:=ZF.trans k9;have le9:=k9.le;have gB9:=(j9.get B0 nH).trans hB;have ZG:B0<n9:=by omega
 simp(disch:=first|(simp;done)|omega|rfl) [-getElem?_pos, -V.cells, -V.one,a0,a2,a4,a9,wJ,bh,gB9,ZG,hW,wa,wb];refine av (SP (c:=m.length) (Zv.ad kx9) (nF.sl (ct.ad j9) hI.so) (hP.ad j9) Tf (by omega) s1 (by omega) rK (bK.mono (by decide)) (fun q hq=>(hI.sq q hq).mono (by decide)) (by rw[Be,lD])) ?_;rintro _ H10 n10 k10 Oc;obtain⟨x,y,fx,fr,fn⟩:=Yfe hI.rc kp mI hI.wp Be;have Td:((fe (bC m) (cv ws) (ba m)).map fun r=>e_ r (cv ss)).length=ba m:=by rw[cG,Gb]
 have qX:∀q∈(fe (bC m) (cv ws) (ba m)).map (fun r=>e_ r (cv ss)),Qb 1420 q:=Zc (n:=ba m) (fun j hj=>by rw[fx j hj];exact Y8 hI.rc mI hI.wp hI.qb hI.wq hI.sq n4 (by omega) fn fr j hj) Td;rw[<-eR]at Oc;obtain⟨vX,rfl,tX⟩:=Oc.got rfl (fun q hq=>(qX q hq).mono (by decide));have ja:=j9.trans k10;simp(disch:=first|(simp;done)|omega|rfl) [-getElem?_pos, -V.cells, -V.one,a0,a2,a4,a9,wJ,bh,wa,wb,hW];refine mJ (Yng (nB:=nB) (vd:=vd) (vm:=vm) (vc:=vc) (vX:=vX) (B0:=B0) (wv:=wv) (sv:=sv) (xv:=xv) hI hM Ea hd hw ct hm hP hB nH (by simp[wa,wb,hW]) ja eC qC (Bc.ad (kx9.trans k10)) tX (by simp[a0]) (by simp[a2]) (by simp[a4]) (by simp[a9]) (by simp)) ?_;rintro _ _ ⟨Hz,nz,Wz⟩ ⟨rfl,r3,rfl,Bb,uE,uF⟩;simp only at uE uF;simp(disch:=first|(simp;done)|omega|rfl) [-getElem?_pos,Bb,uE,uF]
variable {n:Nat}
def Ym3{h:T O}{N:Nat}{v:V}{l:List (List aD)}(hs:dq h N v l)(hn:n<100000)(hx:∀x∈l,x.length<9223372036854775808/\∀s∈x,s.length<9223372036854775808):Fn A.C 9 [v,.int .i64 n] h N (fun u _ _=>u=.int .i64 (q9 l n)):=by
 intro w;have hlen:=hs.len;rw[aN,A.k9 (by simp)];by_cases c0:l.length=0
 ·have c0':(l.length:Int)=0:=by omega
  simp(disch:=first|(simp;done)|omega|rfl) [-getElem?_pos,A.b9,hlen,c0,c0',q9,ax,bh];exact ab.refl
 have c0':¬(l.length:Int)=0:=by omega
 by_cases c2:16<l.length
 ·have c2':16<(l.length:Int):=by omega
  simp(disch:=first|(simp;done)|omega|rfl) [-getElem?_pos,A.b9,hlen,c0,c0',c2,c2',q9,ax,bh];exact ab.refl
 have c2':¬16<(l.length:Int):=by omega
 have e1:q9 l n=bp (l.map fun x=>dj x n):=by simp[q9,c0,c2]
 rw[e1];simp(disch:=first|(simp;done)|omega|rfl) [-getElem?_pos,A.b9,hlen,c0,c0',c2,c2',bh];refine cm [(4,6),(13,27)] (fun e r st=>ay N st.w=[]/\ab h N st.h st.n/\((e=.exit 0/\bp (l.map fun x=>dj x n)=0)\/(e=.ret/\r.get 4=some (.int .i64 (bp (l.map fun x=>dj x n)))))) (fun m r st=>ay N st.w=[]/\ab h N st.h st.n/\∃k,k+m=l.length/\r.get 5=some (.int .i64 k)/\bp (l.map fun x=>dj x n)=bp ((l.drop k).map fun x=>dj x n)) l.length ?_ ?_ ?_
 ·exact⟨by simp,ab.refl,0,by omega,by simp,by simp⟩
 ·rintro m r ⟨H,n1,W⟩ hr hf ⟨hW,hK,k,hk,h7,hz⟩;simp only at hW hK;rw[bu];cases m with
  |zero=>
   obtain rfl:k=l.length:=by omega
   rw[pw,vF,bp]at hz;simp(disch:=first|(simp;done)|omega|rfl) [-getElem?_pos,A.Bg,hr,hf,h7,hlen,hz,hW,hK]
  |succ m=>
   have aC:k<l.length:=by omega
   obtain⟨s,hc⟩:=bj aC;obtain⟨i,o,cc,e,rw,u,q1,q2,q3,q4,q5⟩:=(hs.ad hK).at hc;rw[jN hc,nI,bp]at hz;have cI:(k:Int)<(l.length:Int):=by omega
   skip;simp(disch:=first|(simp;done)|omega|rfl) [-getElem?_pos,A.Bg,hr,hf,h7,cI,aC,hlen,q1,q2,q3,q4];refine av (Zvj q5 (fun h=>by omega) (hx s (cF hc)).2) ?_;rintro _ h3 n3 k3 rfl;have kk:=hK.trans k3;by_cases h0:dj s n=0
   ·rw[ar h0]at hz;simp(disch:=first|(simp;done)|omega|rfl) [-getElem?_pos,hr,hf,h7,h0,hW,bh];exact⟨m,by omega,kk,k+1,by omega,by simp,by simpa using hz⟩
   rw[ak h0]at hz;simp(disch:=first|(simp;done)|omega|rfl) [-getElem?_pos,hr,hf,h7,h0,hW,bh,hz];exact kk
 rintro _ r ⟨H,n1,W⟩ hr ⟨hW,hK,⟨rfl,hz⟩|⟨rfl,h2⟩⟩
 ·simp only at hW hK;simp(disch:=first|(simp;done)|omega|rfl) [-getElem?_pos,hr,hz,ax,hW,hK]
 simp only at hW hK;simp(disch:=first|(simp;done)|omega|rfl) [-getElem?_pos,hr,h2,ax,hW,hK]
def Ytu{m:List (List aD)}{ws ss xs os:List aD}(h:AX m ws ss xs os):bz (bb (bC m) (ba m)) 1212/\(bb (bC m) (ba m)).length<=ba m:=by have n4:=h.n4;have hR:=Nv h.qb h.rc;obtain⟨d,e,Bh,h1,h2,q1,q2⟩:=Ygz hR h.rc (by omega);exact⟨q1.mono (Ywn (r:=71) (e:=5) (by omega) (by omega) (by decide)),by omega⟩
def Yni{nB n0 n1 B0:Nat}{B H:T O}{W:List Nat}{vd vm wv sv xv:V}{m ms:List (List aD)}{ws ss xs os:List aD}{r0:T V}(hI:AX m ws ss xs os)(hM:Ln ms (ba m))(Ea:nB<=n0)(hd:dq B n0 vd m)(hw:Sl B n0 wv (strs ws))(ct:Sl B n0 sv (strs ss))(hm:dq B n0 vm ms)(hP:ik B n0)(hB:B.get B0=some (.cells [wv,sv,xv] 25 true))(nH:B0<n0)(hW:ay nB W=[])(hK:ab B n0 H n1)(a0:r0.get 0=some vd)(a2:r0.get 2=some vm)(a4:r0.get 4=some (.ptr B0 0)):
  Code A.C none A.A5 ⟨r0,334,[]⟩ ⟨H,n1,W⟩ (fun e fr st=>e=.ret/\∃r,fr=⟨r,334,[]⟩/\r.get 6=some (.bool true)/\ay nB st.w=[]/\ab B n0 st.h st.n):=by
 rw[bu];have SW:=hK.le;have kp:=hI.n1;have n4:=hI.n4;have s1:=hI.s1;have s5:=hI.s5;have lD:(bC m).length=m.length:=vu;have mI:(cv ws).length=(bC m).length:=by rw[lD];simp[cv,hI.wl]
 have qR:=Y9 hI.rc kp mI hI.wp hI.qb hI.wq n4 (by omega);have rR:aR (fe (bC m) (cv ws) (ba m)) (bC m).length:=NO;have Oa:(fe (bC m) (cv ws) (ba m)).length=ba m:=Gb;rw[lD]at rR;obtain⟨qC,lC⟩:=Ytu hI;have rC:aR (bb (bC m) (ba m)) (ba m):=CI hI.rc;have ld:=hd.len;have Ec:(0:Int)<(m.length:Int):=by omega
 obtain⟨l0,cH,h0⟩:∃l0,m[0]?=some l0/\ba m=l0.length:=by obtain⟨l0,cH⟩:=bj (l:=m) (k:=0) (by omega);exact⟨l0,cH,by unfold ba;rw[cH];rfl⟩
 simp(disch:=first|(simp;done)|omega|rfl) [-getElem?_pos,A.A5,a0,a2,a4];refine av (Zs6 (hd.ad hK) (hP.ad hK) hI.sh) ?_;rintro _ H2 n2 k2 ⟨vc,SG,rfl,hc⟩;rw[hI.c16]at hc;change FV 0 (bb (bC m) (ba m)) vc SG H2 n2 at hc;obtain⟨rfl,Bc⟩:=hc.II (qC.mono (by decide));have j2:=hK.trans k2;have me:=j2.le;have gB:=(j2.get B0 nH).trans hB;have NY:B0<n2:=by omega
 simp(disch:=first|(simp;done)|omega|rfl) [-getElem?_pos,a0,a2,a4,gB,NY];refine av (Ynm (hd.ad j2) (hw.ad j2) (hP.ad j2) hI.sh hI.Ll) ?_;rintro _ H3 n3 k3 ⟨vR,cR,rfl,hR⟩;rw[hI.Lm]at hR;change FV 0 (fe (bC m) (cv ws) (ba m)) vR cR H3 n3 at hR;obtain⟨rfl,IK⟩:=hR.II (qR.mono (by decide));have j3:=j2.trans k3;have wc:=j3.le;have lc3:=(Bc.ad k3).len;have Od:=IK.len;rw[Oa]at Od;obtain⟨i,o,cc,e,rw,u0,p1,p2,p3,p4,p5⟩:=(hd.ad j3).at cH;have p6:=p5.len;rw[m7,<-h0]at p6;rw[gE]at p4;have g1:¬((ba m:Nat):Int)<((bb (bC m) (ba m)).length:Int):=by omega
 simp(disch:=first|(simp;done)|omega|rfl) [-getElem?_pos,a0,a2,a4,bh,ld,lc3,Od,s1,Ec,p1,p3,p4,p6,g1];refine av (S0 (n:=ba m) (Bc.ad k3).Gd (by rw[cG];omega) (S6 (qC.mono (by decide)) rC (by omega))) ?_;rintro _ H4 n4' k4 rfl;rw[Ge (qC.mono (by decide)) rC];have j4:=j3.trans k4;obtain⟨i2,o2,SG,e2,SF,u2,q1,q2,q3,q4,q5⟩:=(hd.ad j4).at cH;have q6:=q5.len;rw[m7,<-h0]at q6;rw[gE]at q4;simp(disch:=first|(simp;done)|omega|rfl) [-getElem?_pos,a0,a2,a4,bh,ld,Od,s1,Ec,q1,q3,q4,q6];refine av (S0 (n:=m.length) (IK.ad k4).Gd (by rw[cG];omega) (S6 (qR.mono (by decide)) rR (by omega))) ?_;rintro _ H5 n5 k5 rfl;rw[Ge (qR.mono (by decide)) rR];have j5:=j4.trans k5;have IF:=j5.le;have YU:=(j5.get B0 nH).trans hB;have ZH:B0<n5:=by omega
 simp(disch:=first|(simp;done)|omega|rfl) [-getElem?_pos,a0,a2,a4,bh,YU,ZH];refine av (Yae (M:=fe (bC m) (cv ws) (ba m)) (hd.ad j5) (hw.ad j5) ((IK.ad k4).ad k5) hI.sh hI.Ll hI.Lm Oa rR (qR.mono (by decide))) ?_;rintro _ H6 n6 k6 rfl;rw[ar (show IH m ws=fe (bC m) (cv ws) (ba m) from rfl)];have j6:=j5.trans k6;have kR:=(k4.trans k5).trans k6;simp(disch:=first|(simp;done)|omega|rfl) [-getElem?_pos,a0,a2,a4,bh];refine mJ (Ynh (nB:=nB) (vd:=vd) (vm:=vm) (vc:=vc) (vR:=vR) (B0:=B0) (wv:=wv) (sv:=sv) (xv:=xv) hI hM Ea hd hw ct hm hP hB nH (by simpa using hW) j6 rfl qC (Bc.ad (k3.trans kR)) rfl (IK.ad kR) (by simp[a0]) (by simp[a2]) (by simp[a4]) (by simp) (by simp)) ?_;rintro _ _ ⟨Hz,nz,Wz⟩ ⟨rfl,r3,rfl,Bb,uE,uF⟩;simp only at uE uF;simp(disch:=first|(simp;done)|omega|rfl) [-getElem?_pos,Bb,uE,uF]
def Ypa(hn:n<=4):nD (List.replicate n ([48]:aD)) 4 2=true/\dj (List.replicate n ([48]:aD)) n=0:=by
 have hd:n=0\/n=1\/n=2\/n=3\/n=4:=by omega
 rcases hd with rfl|rfl|rfl|rfl|rfl<;>constructor<;>decide+kernel
def Yyr{b:List (List aD)}(h4:¬4<b.length)(hk:q9 b n=0)(hf:∀r∈b,nD r 4 2=true):Ln b n:=by
 have nY:=hk;unfold q9 at hk;split at hk
 ·exact absurd hk (by decide)
 split at hk
 ·exact absurd hk (by decide)
 refine⟨by omega,by omega,fun r hr=>?_,fun r hr q hq=>?_,fun r hr s hs=>?_,fun r hr=>Lk (hf r hr) (by decide),nY⟩
 ·obtain⟨l,hl,rfl⟩:=bF.1 hr;rw[cv,cG];exact NQ (uD hk _ (bF.2 ⟨l,hl,rfl⟩))
 ·obtain⟨l,hl,rfl⟩:=bF.1 hr;exact(D4 (hf l hl)).2.2 q hq
 have h1:=(D4 (hf r hr)).2.1 s hs;exact⟨h1.1,by have:=h1.2;omega⟩
def Yiz{h:T O}{N:Nat}{u wv sv xv vm:V}{m ms:List (List aD)}{ws s x:List aD}(jD:dq h N u m)(ZI:Sl h N wv (strs ws))(fP:Sl h N sv (strs s))(fK:Sl h N xv (strs x))(ho0:dq h N vm ms)(hP0:ik h N)(b1:m.length<9223372036854775808)(b2:∀x∈m,x.length<9223372036854775808)(b3:ws.length<9223372036854775808)(b4:s.length<9223372036854775808)(b5:x.length<9223372036854775808)(b6:ms.length<9223372036854775808)(b7:∀x∈ms,x.length<9223372036854775808)(b8:∀x∈ms,∀t∈x,t.length<9223372036854775808):Fn A.C 3 [u,.agg [wv,sv,xv],vm] h N (fun z _ _=>z=.bool true):=by
 intro w;have o1:=ZI.form.one;have o2:=fP.form.one;have o3:=fK.form.one;unfold V.one at o1 o2 o3;have kB:ab h N (h.set N (.cells [wv,sv,xv] 25 true)) (N+1):=ab.refl.new _;have Lw:(h.set N (.cells [wv,sv,xv] 25 true)).get N=some (.cells [wv,sv,xv] 25 true):=by simp
 have hm:=jD.ad kB;have hw:=ZI.ad kB;have hs:=fP.ad kB;have hx:=fK.ad kB;have ho:=ho0.ad kB;have hP:=hP0.ad kB;have lm:=hm.len;have lo:=ho.len;rw[aN,A.k3 (by simp)];have s0:aL [wv,sv,xv] 0 3=some [wv,sv,xv]:=rfl;simp(disch:=first|(simp;done)|omega|rfl) [-getElem?_pos,A.b3,o1,o2,o3];generalize h.set N (.cells [wv,sv,xv] 25 true)=H at*;refine av (Yse (r0:=5) (c:=4) (d:=2) hm b1 b2 (by decide) (by decide) (by decide)) ?_;rintro _ H1 n1 k1 rfl;have hA1:=fun w=>CU (w:=w) (hP.ad k1);cases hf:AY m 5 4 2 with
 |false=> simp(disch:=first|(simp;done)|omega|rfl) [-getElem?_pos,hA1,ax,cQ.cU];exact kB.trans k1
 |true=>
  have IM:=hf;unfold AY at IM;simp only[gI,decide_eq_true_eq,jY]at IM;obtain⟨_,m5,hcz,hd4,_⟩:=IM;obtain⟨m1,d1,_,_,zbt⟩:=Zvk hcz;obtain⟨l0,cH,h0⟩:∃l0,m[0]?=some l0/\ba m=l0.length:=by obtain⟨l0,cH⟩:=bj (l:=m) (k:=0) (by omega);exact⟨l0,cH,by unfold ba;rw[cH];rfl⟩
  have Ec:(0:Int)<(m.length:Int):=by omega
  have yw:=k1.le;have g1:=(k1.get N (by omega)).trans Lw;have dN1:N<n1:=by omega
  simp(disch:=first|(simp;done)|omega|rfl) [-getElem?_pos,g1,dN1,s0];refine av (Ypz (hw.ad k1) (hs.ad k1) (hx.ad k1) b3 b4 b5) ?_;rintro _ H2 n2 k2 rfl;have j2:=k1.trans k2;have Oe:=fun w=>CU (w:=w) (hP.ad j2);cases q:(dJ 6 ws&&dJ 6 s&&dJ 6 x)with
  |false=> simp(disch:=first|(simp;done)|omega|rfl) [-getElem?_pos,Oe,ax,cQ.cU];exact kB.trans j2
  |true=>
   rw[gI,gI]at q;obtain⟨⟨sw,ss⟩,sx⟩:=q;obtain⟨w1,w2⟩:=Gg sw;obtain⟨l1,l2⟩:=Gg ss;have me:=j2.le;have g2:=(j2.get N (by omega)).trans Lw;have dN2:N<n2:=by omega
   simp(disch:=first|(simp;done)|omega|rfl) [-getElem?_pos,g2,dN2,lm];refine av (Ywm (n:=m.length) (z:=1) (hw.ad j2) w1 w2) ?_;rintro _ H3 n3 k3 rfl;have j3:=j2.trans k3;have hA3:=fun w=>CU (w:=w) (hP.ad j3);by_cases wk:ra ws m.length 1=0
   ·have wc:=j3.le;have g3:=(j3.get N (by omega)).trans Lw;have dN3:N<n3:=by omega
    simp(disch:=first|(simp;done)|omega|rfl) [-getElem?_pos,bh,wk,g3,dN3,lm];refine av (Lp (n:=m.length) (hs.ad j3) l1 l2) ?_;rintro _ H4 n4 k4 rfl;have j4:=j3.trans k4;have hA4:=fun w=>CU (w:=w) (hP.ad j4);by_cases sk:dj s m.length=0
    ·have CP:=j4.le;have g4:=(j4.get N (by omega)).trans Lw;have dN4:N<n4:=by omega
     simp(disch:=first|(simp;done)|omega|rfl) [-getElem?_pos,bh,sk,g4,dN4,lm];refine av (Tk (n:=5) (d:=2) (hw.ad j4) b3 (by decide) (by decide)) ?_;rintro _ H5 n5 k5 rfl;have j5:=j4.trans k5;have hA5:=fun w=>CU (w:=w) (hP.ad j5);cases fw:nD ws 5 2 with
     |false=> simp(disch:=first|(simp;done)|omega|rfl) [-getElem?_pos,hA5,ax,cQ.cU];exact kB.trans j5
     |true=>
      have IF:=j5.le;have g5:=(j5.get N (by omega)).trans Lw;have dN5:N<n5:=by omega
      simp(disch:=first|(simp;done)|omega|rfl) [-getElem?_pos,g5,dN5];refine av (Tk (n:=5) (d:=2) (hs.ad j5) b4 (by decide) (by decide)) ?_;rintro _ H6 n6 k6 rfl;have j6:=j5.trans k6;have hA6:=fun w=>CU (w:=w) (hP.ad j6);cases fs:nD s 5 2 with
      |false=> simp(disch:=first|(simp;done)|omega|rfl) [-getElem?_pos,hA6,ax,cQ.cU];exact kB.trans j6
      |true=>
       by_cases o4:4<ms.length
       ·have ZJ:(4:Int)<(ms.length:Int):=by omega
        simp(disch:=first|(simp;done)|omega|rfl) [-getElem?_pos,lo,o4,ZJ,hA6,ax,cQ.cU];exact kB.trans j6
       have ZJ:¬(4:Int)<(ms.length:Int):=by omega
       obtain⟨i,o,cc,e,rw,u0,p1,p2,p3,p4,p5⟩:=(hm.ad j6).at cH;have p6:=p5.len;rw[m7,<-h0]at p6;rw[gE]at p4;simp(disch:=first|(simp;done)|omega|rfl) [-getElem?_pos,lo,o4,ZJ,lm,m1,Ec,p1,p3,p4,p6];refine av (Ym3 (n:=ba m) (ho.ad j6) (by omega) (fun x hx=>⟨b7 x hx,b8 x hx⟩)) ?_;rintro _ H7 n7 k7 rfl;have j7:=j6.trans k7;have hA7:=fun w=>CU (w:=w) (hP.ad j7);by_cases ok:q9 ms (ba m)=0
       ·simp(disch:=first|(simp;done)|omega|rfl) [-getElem?_pos,bh,ok,lo,p2,cQ.cU];have le7:=j7.le;refine cm [(6,6),(8,8),(85,93)] (fun e r st=>ay N st.w=[]/\ab H (N+1) st.h st.n/\((e=.exit 0/\∀r∈ms,nD r 4 2=true)\/(e=.ret/\r.get 6=some (.bool true)))) (fun a r st=>ay N st.w=[]/\ab H (N+1) st.h st.n/\∃k,k+a=ms.length/\r.get 85=some (.int .i64 (k:Nat))/\∀j r,j<k->ms[j]?=some r->nD r 4 2=true) ms.length ?_ ?_ ?_
        ·exact⟨by simp,j7,0,by omega,by simp,fun j r hj=>by omega⟩
        ·rintro a r ⟨H8,n8,W8⟩ hr Tl ⟨Ef,CZ,k,hk,Tm,hz⟩;simp only at Ef CZ;rw[bu];cases a with
         |zero=>
          obtain rfl:k=ms.length:=by omega
          simp(disch:=first|(simp;done)|omega|rfl) [-getElem?_pos,A.A1,hr,Tl,Tm,Ef,CZ];intro r hr;obtain⟨j,hj⟩:=nw hr;exact hz j r (gZ hj) hj
         |succ a=>
          have aC:k<ms.length:=by omega
          have cg:(k:Int)<(ms.length:Int):=by omega
          obtain⟨y,hy⟩:=bj aC;obtain⟨i9,o9,c9,e9,w9,u9,q1,q2,q3,q4,q5⟩:=(ho.ad CZ).at hy;have lo8:=(ho.ad CZ).len;simp(disch:=first|(simp;done)|omega|rfl) [-getElem?_pos,A.A1,hr,Tl,Tm,aC,cg,lo8,q1,q2,q3,q4];refine av (Tk (n:=4) (d:=2) q5 (b7 y (cF hy)) (by decide) (by decide)) ?_;rintro _ H9 n9 k9 rfl;have j9:=CZ.trans k9;have hA9:=fun w=>CU (w:=w) (hP.ad j9);cases fy:nD y 4 2 with
          |false=> simp(disch:=first|(simp;done)|omega|rfl) [-getElem?_pos,hr,Tl,Tm,hA9,Ef];exact j9
          |true=>
           simp(disch:=first|(simp;done)|omega|rfl) [-getElem?_pos,hr,Tl,Tm,Ef];refine⟨a,by omega,j9,k+1,by omega,by simp,fun j r hj ZK=>?_⟩;by_cases e:j=k
           ·subst e;rw[hy]at ZK;obtain rfl:=mC ZK;exact fy
           exact hz j r (by omega) ZK
        rintro e r ⟨H8,n8,W8⟩ hr ⟨Ef,CZ,⟨rfl,Eg⟩|⟨rfl,h6⟩⟩
        ·simp only at Ef CZ;obtain⟨z1,z2⟩:=Ypa hd4;have hI:=Yyw hf wk sk z2 z2 fw fs z1 z1;have hM:=Yyr o4 ok Eg;simp(disch:=first|(simp;done)|omega|rfl) [-getElem?_pos,hr];refine mJ (Yni (nB:=N) (B:=H) (n0:=N+1) (B0:=N) (vd:=u) (vm:=vm) (wv:=wv) (sv:=sv) (xv:=xv) hI hM (by omega) hm hw hs ho hP Lw (by omega) Ef CZ (by simp[hr]) (by simp[hr]) (by simp[hr])) ?_;rintro _ _ ⟨Hz,nz,Wz⟩ ⟨rfl,r3,rfl,Bb,uE,uF⟩;simp only at uE uF;simp(disch:=first|(simp;done)|omega|rfl) [-getElem?_pos,Bb,ax,uE];exact kB.trans uF
        simp only at Ef CZ;simp(disch:=first|(simp;done)|omega|rfl) [-getElem?_pos,hr,h6,ax,Ef];exact kB.trans CZ
       simp(disch:=first|(simp;done)|omega|rfl) [-getElem?_pos,bh,ok,hA7,ax,p2,cQ.cU];exact kB.trans j7
    simp(disch:=first|(simp;done)|omega|rfl) [-getElem?_pos,bh,sk,hA4,ax,cQ.cU];exact kB.trans j4
   simp(disch:=first|(simp;done)|omega|rfl) [-getElem?_pos,bh,wk,hA3,ax,cQ.cU];exact kB.trans j3
open Go
inductive jq where
 |nil
 |emp (b:Addr)
 |sl (b:Addr) (l c:Nat) (f:Nat->ByteArray)
def jq.val:jq->Value
 |.nil=>.slice none 0 0
 |.emp b=>.slice (some b) 0 0
 |.sl b l c f=>.slice (some b) l c
def jq.ok(W:World):jq->Prop
 |.sl b l c f=>l<=c/\0<c/\∀i,i<c->W.cell? (b.add i)=some (.string (f i))
 |_=>True
def jq.strs:jq->List aD
 |.sl b l c f=>(List.range l).map fun i=>(f i).data.toList
 |_=>[]
def Eh(W:World)(a:Addr):TypeId:=match W.heap[a.block]? with
 |some (.cells _ e _)=>e
 |_=>0
def Yak{W:World}{a:Addr}{n:Nat}{f:Nat->Value}(hn:0<n)(hc:∀i,i<n->W.cell? (a.add i)=some (f i)):
  ∃c' lo hi,W.heap[a.block]?=some (.cells c' (Eh W a) (lo,hi))/\a.spot=none/\(∀i,i<n->c'[a.off+i]?=some (f i))/\a.off+n<=c'.size/\a.block<W.heap.size:=by
 have h0:=hc 0 hn;have ZL:a.add 0=a:=by simp[Addr.add]
 rw[ZL]at h0;obtain⟨c',e,fr,hb⟩:∃c' e fr,W.heap[a.block]?=some (.cells c' e fr):=by
  unfold World.cell? at h0;split at h0
  ·rename_i c' e fr hb;exact⟨c',e,fr,hb⟩
  cases h0
 have hs:a.spot=none:=by
  unfold World.cell? at h0;rw[hb]at h0;simp only at h0;split at h0
  ·cases h0
  rename_i h;simpa using h
 have ic:∀i,i<n->c'[a.off+i]?=some (f i):=fun i hi=>by
  have:=hc i hi;unfold World.cell? at this;have e1:(a.add i).block=a.block:=by unfold Addr.add;split<;>rfl
  have e2:(a.add i).off=a.off+i:=by unfold Addr.add;split<;>simp_all
  have e3:(a.add i).spot=none:=by unfold Addr.add;split<;>simp_all
  rw[e1,hb]at this;simp only[e2,e3,Option.isSome_none,iy,if_false]at this;exact this
 have aC:a.block<W.heap.size:=by
  rcases Nat.lt_or_ge a.block W.heap.size with h|h
  ·exact h
  rw[Array.getElem?_eq_none h]at hb;cases hb
 have fg:a.off+n<=c'.size:=by have:=ic (n-1) (by omega);have h2:=(Array.getElem?_eq_some_iff.1 this).1;omega
 obtain⟨lo,hi⟩:=fr;exact⟨c',lo,hi,by rw[hb];simp[Eh,hb],hs,ic,fg,aC⟩
structure Tn where
 a:Addr
 n:Nat
 f:Nat->Value
 g:Nat->V
def Tn.ok(W:World)(r:Tn):Prop:=0<r.n/\(∀i,i<r.n->W.cell? (r.a.add i)=some (r.f i))/\∀i,i<r.n->(r.f i).oneCell'=true
def Ztx{P:Program}{dV:Nat->Option mV}{G:Nat}(hP:FN P dV G){x:cM}(hx:jZ P x){F d:Nat}{f:FuncId}{mf:mV}(hf:zR P f=some mf){args:List V}{xs:List Value}{v:V}{y:Value}{S:St}{μ:Mu}{W:World}
  (h:Yw6 (Ei mf (dZ (Ah x dV F d) F) args S) v) (hh:bn P μ W S) (hS:S.w=[]) (Bi:aU μ args xs) (hv:∀μ z,VR μ v z->z=y):
  Calls P f ⟨xs⟩ W fun e W'=>e=.returned y/\RowKit.Below W.heap.size W W':=by
 obtain⟨s,bP,hw⟩:=h.ex;obtain⟨fn,CA,_⟩:=Yam hf;have ih:=To hP.m hP.e hP.t hx F d;have:=Yhe (Yii ih hP.e (Yhu hP.m hP.e ih) (Ynx ih hP.e) (Zy0 ih) F) CA hf hh Bi bP;refine callsIn_wide.1 (CallsIn.mono (F:=Fence.wide) this fun e W' he=>?_);cases e with
 |returned z=>
  obtain⟨μ',ws,h1,h2⟩:=he;have re:ws=[]:=by have:=h2.wl;rw[hw,hS]at this;simpa using this.symm
  subst re;exact⟨by rw[hv _ _ h1],h2.eF.os,h2.eF.tape,h2.eF.output,h2.eF.size,fun k hk=>h2.eF.block k hk fun i hi=>by cases hi⟩
 |panicked _=>exact he.elim
 |outgrown=>exact he.elim
def Cx.calls{P:Program}{C:Cx}{G:Nat}(hP:FN P C.dV G)(hx:jZ P C.x){f:Nat}{mf:mV}(hf:zR P f=some mf)(ht:C.dV f=some mf){args:List V}{xs:List Value}{v:V}{y:Value}{S:St}{μ:Mu}{W:World}
  (hn:∀st,C.x (.func f [] []) args st=none) (h:Fn C f args S.h S.n (fun u _ _=>u=v)) (hh:bn P μ W S) (hS:S.w=[]) (Bi:aU μ args xs) (hv:∀μ z,VR μ v z->z=y):
  Calls P f ⟨xs⟩ W fun e W'=>e=.returned y/\RowKit.Below W.heap.size W W':=by
 obtain⟨u,aA,hc,hw,hk,hu⟩:=(h []).ex;subst hu;have hS':(⟨S.h,S.n,[]⟩:St)=S:=by obtain⟨a,b,c⟩:=S;simp only at hS;subst hS;rfl
 rw[hS']at hc;rw[Cx.nX]at hc;unfold t_ at hc;rw[hn]at hc;simp only at hc;obtain⟨n,tV⟩:=Zl6 (q:=fun n=>dZ (C.at n) n) (fun n m hnm=>Bj (Cx.ed hnm) n m hnm) (fun _ _ _ _ _ e=>Cx.rf e) hc;unfold zw at tV;simp only[ht,List.nil_append,zZ]at tV;exact Ztx (F:=n) (d:=n) hP hx hf ⟨_,tV,hw⟩ hh hS Bi hv
end Go.Mx
