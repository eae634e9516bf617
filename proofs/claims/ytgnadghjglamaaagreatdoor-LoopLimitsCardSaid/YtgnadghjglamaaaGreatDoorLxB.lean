/-lensletlaw06-/
import Derived.Test.YtgnadghjglamaaaGreatDoorLvK
set_option linter.all false
set_option maxHeartbeats 8000000
namespace Go.Mx
open Go Go.Proofs
variable {D z:Int} {g l:aU}
set_option maxRecDepth 1000000
def Xbj{p:aU}(c:¬Zk9 g l p D z=0):Xay g l p D z=Zk9 g l p D z:=by
 have hs:stE g l p D z=Zk9 g l p D z:=by rw[stE,aA c]
 rw[Xay,hs,cY,aA c]
def Xbp{H:T O}{M n B C P n1 n2:Nat}{W:List Nat}{r:T V}{a e m1 e1 m2 e2:V}{p lo hi:aU}(L:LiH g l p D lo hi)(hE:V.aS [a,e]=Zpk (cY [ki g l p D,Zfp lo hi]) (Zs8 (D.toNat+3) (zgs (bJ l) (bJ p) D.toNat (bJ lo) (bJ hi))))(i1:Zk9 g l p D z=0->Zo1 (stU (bJ l) (bJ p) D.toNat (10^z.toNat)) n1/\n1<=10001)(R1:Yv5 (.aS [m1,e1]) (Zk9 g l p D z) ((n1:Rat)/((10^z.toNat:Nat):Rat)))(i2:Xay g l p D z=0->Zo1 (stU (bJ l) (bJ p) D.toNat (10^z.toNat)) n2/\n2<=10001)(R2:Yv5 (.aS [m2,e2]) (Xay g l p D z) ((n2:Rat)/((10^z.toNat:Nat):Rat)/bJ g))(hB:H.get B=some (.cells [.str g,.str l,.str p,.int .i64 D] 26 true))(IA:B<n)(hC:H.get C=some (.cells [.str g,.str l,.str p,.int .i64 D] 24 true))(Sy:C<n)(hS:H.get P=some (.cells [.str lo,.str hi] 52 true))(Nv:P<n)(hW:aD M W=[])(r1:r.get 1=some (.int .i64 z))(r3:r.get 3=some (.ptr C 0))(r5:r.get 5=some (.ptr P 0))(r7:r.get 7=some (.ptr B 0))(r9:r.get 9=some m1)(oS:r.get 10=some e1)(pE:r.get 11=some m2)(Kb:r.get 12=some e2)(ue:r.get 13=some a)(MA:r.get 14=some e)(yX:r.get 15=some (.int .i64 (Zk9 g l p D z)))(r16:r.get 16=some (.int .i64 (cY [ki g l p D,Zfp lo hi]))):
  Code A.C none A.zgz ⟨r,147,[]⟩ ⟨H,n,W⟩ (fun e fr st=>Xbm M e fr st H n):=by
 rw[dk];have fin:∀(H2:T O) (wY:Nat) (r':T V) (w':List Nat),ae H n H2 wY->aD M w'=[]->r'.get 1=some (.int .i64 z)->r'.get 3=some (.ptr C 0)->r'.get 7=some (.ptr B 0)->r'.get 9=some m1->r'.get 10=some e1->r'.get 11=some m2->r'.get 12=some e2->Zk9 g l p D z=0->Code A.C none A.zf8 ⟨r',147,[]⟩ ⟨H2,wY,w'⟩ (fun e fr st=>Xbm M e fr st H2 wY):=fun H2 wY r' w' hK hw a1 a3 a7 a9 JQ Bx By c=>by have:=hK.le;exact Xbq (M:=M) (B:=B) (C:=C) (D:=D) L.lm c i1 R1 i2 R2 ((hK.get B IA).trans hB) (by omega) ((hK.get C Sy).trans hC) (by omega) hw a1 a3 a7 a9 JQ Bx By
 have bad:Zk9 g l p D z≠0->(∀st,A.C.call (.func 36 [] []) [m1,e1,.int .i64 (Zk9 g l p D z),.str []] st=some (.bool true,st))/\∀st,A.C.call (.func 36 [] []) [m2,e2,.int .i64 (Zk9 g l p D z),.str []] st=some (.bool true,st):=fun c=>by
  refine⟨fun st=>Xau R1 (fun h=>absurd h c) (fun h=>absurd h c),fun st=>?_⟩;have hm:=Xbj c;have c':Xay g l p D z≠0:=by rw[hm];exact c
  rw[<-hm];exact Xau R2 (fun h=>absurd h c') (fun h=>absurd h c')
 by_cases c3:cY [ki g l p D,Zfp lo hi]=0
 ·obtain⟨ql,qp,a',b',dn,El,Ep,Ea,Eb,ED,e1',e2',SA,e4',q1,q2,q3,q4,hd,hk⟩:=L.ce c3;rw[c3]at hE r16;have fc:=fun (h':T O) (n':Nat)=>Xbb (h:=h') (N:=n') (g:=g) q1 q2 q3 q4 (by decide) (by decide) hd hk;rw[<-El,<-Ep,<-Ea,<-Eb,<-ED]at fc;rw[show D.toNat=dn by omega,e1',e2',SA,e4']at hE;simp(disch:=first|(simp;done)|omega|rfl) [-getElem?_pos,A.zgz,r1,r3,r5,r7,r9,oS,pE,Kb,ue,MA,yX,r16,hB,IA,hS,Nv,aL,aJ,aE];refine az (fc _ _) ?_;rintro _ h1 N1 k1 rfl;have hF:=fun st=>Xa7 (st:=st) hE (fun _=>rfl);by_cases c:Zk9 g l p D z=0
  ·rw[c]at yX;simp(disch:=first|(simp;done)|omega|rfl) [-getElem?_pos,hF,ue,MA,yX,r16,aL];refine mJ (fin h1 N1 _ _ k1 hW (by simp[r1]) (by simp[r3]) (by simp[r7]) (by simp[r9]) (by simp[oS]) (by simp[pE]) (by simp[Kb]) c) ?_;intro e fr st hq;simp(disch:=first|(simp;done)|omega|rfl) [-getElem?_pos,];exact hq.trans k1
  obtain⟨b1,b2⟩:=bad c;simp(disch:=first|(simp;done)|omega|rfl) [-getElem?_pos,hF,ue,MA,r16,c,b1,b2,aL,r9,oS,pE,Kb,yX];exact⟨rfl,_,rfl,by simp,by simpa using hW,k1⟩
 have hF:=fun st=>Xa7 (c:=false) (st:=st) hE (fun h=>absurd h c3);by_cases c:Zk9 g l p D z=0
 ·rw[c]at yX;simp(disch:=first|(simp;done)|omega|rfl) [-getElem?_pos,A.zgz,r1,r3,r5,r7,r9,oS,pE,Kb,ue,MA,yX,r16,c3,hF,aL];refine mJ (fin H n _ _ ae.refl hW (by simp[r1]) (by simp[r3]) (by simp[r7]) (by simp[r9]) (by simp[oS]) (by simp[pE]) (by simp[Kb]) c) ?_;intro e fr st hq;simp(disch:=first|(simp;done)|omega|rfl) [-getElem?_pos,];exact hq
 obtain⟨b1,b2⟩:=bad c;simp(disch:=first|(simp;done)|omega|rfl) [-getElem?_pos,A.zgz,ue,MA,r16,c3,hF,c,b1,b2,aL,r9,oS,pE,Kb,yX];exact⟨rfl,_,rfl,by simp,by simpa using hW,ae.refl⟩
def Xaw{H:T O}{M n B C P:Nat}{W:List Nat}{r:T V}{p lo hi:aU}(L:LiH g l p D lo hi)(hP:mC H n)(hB:H.get B=some (.cells [.str g,.str l,.str p,.int .i64 D] 26 true))(IA:B<n)(hC:H.get C=some (.cells [.str g,.str l,.str p,.int .i64 D] 24 true))(Sy:C<n)(hS:H.get P=some (.cells [.str lo,.str hi] 52 true))(Nv:P<n)(hW:aD M W=[])(hMn:M<=n)(r1:r.get 1=some (.int .i64 z))(r3:r.get 3=some (.ptr C 0))(r5:r.get 5=some (.ptr P 0))(r7:r.get 7=some (.ptr B 0))(r8:r.get 8=some (.int .i64 (ki g l p D))):
  Code A.C none A.zf9 ⟨r,147,[]⟩ ⟨H,n,W⟩ (fun e fr st=>Xbm M e fr st H n):=by
 rw[dk];simp(disch:=first|(simp;done)|omega|rfl) [-getElem?_pos,A.zf9,r1,r3,r5,r7,r8,hC,Sy,aJ,aE];refine az (Yi5 hP L.lm) ?_;rintro x1 h1 N1 k1 ⟨n1,i1,R1⟩;obtain⟨m1,e1,rfl⟩:=R1.two;have uw:=k1.le;have hC1:=(k1.get C Sy).trans hC;have zdA:C<N1:=by omega
 simp(disch:=first|(simp;done)|omega|rfl) [-getElem?_pos,r1,r3,hC1,zdA,aJ,aE];refine az (Xa1 (hP.ah k1) L.lm) ?_;rintro x2 h2 N2 k2 ⟨n2,i2,R2⟩;obtain⟨m2,e2,rfl⟩:=R2.two;have oP:=k2.le;have hC2:=(k2.get C zdA).trans hC1;have zgf:C<N2:=by omega
 have hS2:=((k1.trans k2).get P Nv).trans hS;have zgg:P<N2:=by omega
 simp(disch:=first|(simp;done)|omega|rfl) [-getElem?_pos,r3,r5,hC2,zgf,hS2,zgg,aJ,aE];refine az (Yvp (k:=14) L.lg L.ll L.lp L.s1 L.s2 (by decide) (by decide) L.ce) ?_;rintro x3 h3 N3 k3 hx;obtain⟨a,e,rfl⟩:=Zpk.two hx;have xX:=k3.le;have hi3:N3<N3+1:=by omega
 have wr:∀st,A.C.call (.func 33 [] []) [.int .i64 z,.int .i64 1,.int .i64 2] st=some (.int .i64 (VV z),st):=fun st=>Zw8;have K3:=((k1.trans k2).trans k3).trans (aI (ae.refl (h:=h3) (n:=N3)) (.cells [.int .i64 (ki g l p D),.int .i64 (VV z)] 3 true));have hS3:=(K3.get P Nv).trans hS;have zgh:P<N3+1:=by omega
 have hSx:=(((k1.trans k2).trans k3).get P Nv).trans hS;have neP:¬P=N3:=by omega
 simp(disch:=first|(simp;done)|omega|rfl) [-getElem?_pos,r1,r5,r8,wr,ag,bU.bZ,Zu7 hi3,hSx,neP,zgh,aJ,aE];generalize h3.set N3 (.cells [.int .i64 (ki g l p D),.int .i64 (VV z)] 3 true)=H3 at*;refine az (Zk8 (lo:=lo) (hi:=hi) (by have:=L.s1;omega) (by have:=L.s2;omega)) ?_;rintro _ h4 N4 k4 rfl;have Nb:=k4.le;have hi4:N4<N4+1:=by omega
 have K4:=(K3.trans k4).trans (aI (ae.refl (h:=h4) (n:=N4)) (.cells [.int .i64 (ki g l p D),.int .i64 (Zfp lo hi)] 3 true));simp(disch:=first|(simp;done)|omega|rfl) [-getElem?_pos,r8,ag,bU.bZ,Zu7 hi4];generalize h4.set N4 (.cells [.int .i64 (ki g l p D),.int .i64 (Zfp lo hi)] 3 true)=H4 at*;refine mJ (Xbp (M:=M) (B:=B) (C:=C) (P:=P) (D:=D) (z:=z) L hx i1 R1 i2 R2 ((K4.get B IA).trans hB) (by omega) ((K4.get C Sy).trans hC) (by omega) ((K4.get P Nv).trans hS) (by omega) (by simpa using hW) (by simp[r1]) (by simp[r3]) (by simp[r5]) (by simp[r7]) (by simp) (by simp) (by simp) (by simp) (by simp) (by simp) (by simp[Zk9]) (by simp)) ?_;intro e fr st hq;simp(disch:=first|(simp;done)|omega|rfl) [-getElem?_pos,];exact hq.trans K4
def Xa6{h:T O}{N:Nat}{g l p lo hi:aU}{D z:Int}(hP:mC h N)(hg:g.length<9223372036854775808)(hl:l.length<9223372036854775808)(hp:p.length<9223372036854775808)(ha:lo.length<9223372036854775808)(hb:hi.length<9223372036854775808):Fn A.C 5 [.agg [.str g,.str l,.str p,.int .i64 D],.int .i64 z,.agg [.str lo,.str hi]] h N (fun x _ _=>x=.bool true):=by
 intro w;rw[aV,A.k5 (by simp)];have kB:ae h N ((((h.set N (.cells [.str g,.str l,.str p,.int .i64 D] 24 true)).set (N+1) (.cells [.str lo,.str hi] 52 true)).set (N+1+1) (.cells [.str [],.str [],.str [],.int .i64 0] 26 true)).set (N+1+1) (.cells [.str g,.str l,.str p,.int .i64 D] 26 true)) (N+1+1+1):=(((ae.refl.new _).new _).new _).set (by omega);have hA:=fun w=>Zhm (w:=w) (hP.ah kB);have b0:((((h.set N (.cells [.str g,.str l,.str p,.int .i64 D] 24 true)).set (N+1) (.cells [.str lo,.str hi] 52 true)).set (N+1+1) (.cells [.str [],.str [],.str [],.int .i64 0] 26 true)).set (N+1+1) (.cells [.str g,.str l,.str p,.int .i64 D] 26 true)).get N=some (.cells [.str g,.str l,.str p,.int .i64 D] 24 true):=by simp
 have b1:((((h.set N (.cells [.str g,.str l,.str p,.int .i64 D] 24 true)).set (N+1) (.cells [.str lo,.str hi] 52 true)).set (N+1+1) (.cells [.str [],.str [],.str [],.int .i64 0] 26 true)).set (N+1+1) (.cells [.str g,.str l,.str p,.int .i64 D] 26 true)).get (N+1)=some (.cells [.str lo,.str hi] 52 true):=by simp
 have b2:((((h.set N (.cells [.str g,.str l,.str p,.int .i64 D] 24 true)).set (N+1) (.cells [.str lo,.str hi] 52 true)).set (N+1+1) (.cells [.str [],.str [],.str [],.int .i64 0] 26 true)).set (N+1+1) (.cells [.str g,.str l,.str p,.int .i64 D] 26 true)).get (N+1+1)=some (.cells [.str g,.str l,.str p,.int .i64 D] 26 true):=by simp
 have zb:N<N+1+1+1:=by omega
 have AM:N+1<N+1+1+1:=by omega
 have AN:N+1+1<N+1+1+1:=by omega
 simp(disch:=first|(simp;done)|omega|rfl) [-getElem?_pos,A.b5,aJ,aE,ag,bE];generalize ((((h.set N (.cells [.str g,.str l,.str p,.int .i64 D] 24 true)).set (N+1) (.cells [.str lo,.str hi] 52 true)).set (N+1+1) (.cells [.str [],.str [],.str [],.int .i64 0] 26 true)).set (N+1+1) (.cells [.str g,.str l,.str p,.int .i64 D] 26 true))=hB at*;simp(disch:=first|(simp;done)|omega|rfl) [-getElem?_pos,hA,b0,b1,b2,aJ,aE];refine az (Zu3 hg hl hp) ?_;rintro _ h1 n1 k1 rfl;have uw:=k1.le;have hA1:=fun w=>Zhm (w:=w) (hP.ah (kB.trans k1));have g0:=(k1.get N (by omega)).trans b0;have g1:=(k1.get (N+1) (by omega)).trans b1;have g2:=(k1.get (N+1+1) (by omega)).trans b2;have e0:N<n1:=by omega
 have e1:N+1<n1:=by omega
 have e2:N+1+1<n1:=by omega
 by_cases cS:g.length<=40/\l.length<=40/\p.length<=40
 ·by_cases ca:lo.length<=40
  ·have ca':¬(40:Int)<(lo.length:Int):=by omega
   by_cases cb:hi.length<=40
   ·have cb':¬(40:Int)<(hi.length:Int):=by omega
    simp(disch:=first|(simp;done)|omega|rfl) [-getElem?_pos,cS,ca',cb',g0,g1,g2,e0,e1,e2,aJ,aE];refine az (Yja (by omega) (by omega) (by omega)) ?_;rintro _ h2 n2 k2 rfl;have oP:=k2.le;have K2:=k1.trans k2;have g02:=(K2.get N (by omega)).trans b0;have Rp:=(K2.get (N+1) (by omega)).trans b1;have g22:=(K2.get (N+1+1) (by omega)).trans b2;have e02:N<n2:=by omega
    have Nz:N+1<n2:=by omega
    have e22:N+1+1<n2:=by omega
    by_cases c0:ki g l p D=0
    ·simp(disch:=first|(simp;done)|omega|rfl) [-getElem?_pos,c0,aL,g22,e22,aJ,aE];have fl:=Zyr (h:=h2) (N:=n2) (D:=D) (dd:=4) (n:=3) cS.1 cS.2.1 cS.2.2 (by decide) (by decide);refine az fl ?_;rintro _ h3 n3 k3 rfl;have xX:=k3.le;have K3:=K2.trans k3;have g03:=(K3.get N (by omega)).trans b0;have g13:=(K3.get (N+1) (by omega)).trans b1;have g23:=(K3.get (N+1+1) (by omega)).trans b2;have e03:N<n3:=by omega
     have e13:N+1<n3:=by omega
     have e23:N+1+1<n3:=by omega
     rw[decide_eq_true c0,Bool.true_and];by_cases cf:pD [g,l,p] 3 4=true/\D<=3
     ·rw[cf.1,decide_eq_true (show D<=((3:Nat):Int) from cf.2),Bool.true_and];by_cases cz:z=2
      ·by_cases cd:1<D
       ·simp(disch:=first|(simp;done)|omega|rfl) [-getElem?_pos,cz,cd,aL,g03,e03,aF];exact kB.trans K3
       simp(disch:=first|(simp;done)|omega|rfl) [-getElem?_pos,cz,cd,aL,g03,e03,g13,e13,aJ,aE];refine az (Zk8 (by omega) (by omega)) ?_;rintro _ h4 n4 k4 rfl;have Nb:=k4.le;have K4:=K3.trans k4;have f04:=(K4.get _ zb).trans b0;have f14:=(K4.get _ AM).trans b1;have f24:=(K4.get _ AN).trans b2;have l4:N+1+1<n4:=by omega
       have e04:N<n4:=by omega
       have e14:N+1<n4:=by omega
       by_cases cg:Zfp lo hi=0
       ·simp(disch:=first|(simp;done)|omega|rfl) [-getElem?_pos,cg,aL,f04,f14,e04,e14,aJ,aE];refine az (Zm2 (d:=4) (by omega) (by omega) (by decide)) ?_;rintro _ h5 n5 k5 rfl;have K5:=K4.trans k5;have NC:=k5.le;by_cases cs:Zow lo hi 4=true
        ·have L:LiH g l p D lo hi:=⟨cS.1,cS.2.1,cS.2.2,ca,cb,fun _=>cf,fun _=>cs⟩;rw[cs];simp(disch:=first|(simp;done)|omega|rfl) [-getElem?_pos,];refine mJ (Xaw (M:=N) (B:=N+1+1) (C:=N) (P:=N+1) (D:=D) (z:=2) L (hP.ah (kB.trans K5)) ((K5.get _ AN).trans b2) (by omega) ((K5.get _ zb).trans b0) (by omega) ((K5.get _ AM).trans b1) (by omega) (by simp) (by omega) (by simp) (by simp) (by simp) (by simp) (by simp[c0])) ?_;rintro _ _ ⟨H,nn,WW⟩ ⟨rfl,r6',rfl,h6,hw,hk⟩;simp only at hw hk;simp(disch:=first|(simp;done)|omega|rfl) [-getElem?_pos,h6,hw,aF];exact kB.trans (K5.trans hk)
        have xo:Zow lo hi 4=false:=by simpa using cs
        rw[xo];simp(disch:=first|(simp;done)|omega|rfl) [-getElem?_pos,aF];exact kB.trans K5
       have L:LiH g l p D lo hi:=⟨cS.1,cS.2.1,cS.2.2,ca,cb,fun _=>cf,fun h=>absurd h cg⟩;simp(disch:=first|(simp;done)|omega|rfl) [-getElem?_pos,cg,aL];refine mJ (Xaw (M:=N) (B:=N+1+1) (C:=N) (P:=N+1) (D:=D) (z:=2) L (hP.ah (kB.trans K4)) ((K4.get _ AN).trans b2) (by omega) ((K4.get _ zb).trans b0) (by omega) ((K4.get _ AM).trans b1) (by omega) (by simp) (by omega) (by simp) (by simp) (by simp) (by simp) (by simp[c0])) ?_;rintro _ _ ⟨H,nn,WW⟩ ⟨rfl,r6',rfl,h6,hw,hk⟩;simp only at hw hk;simp(disch:=first|(simp;done)|omega|rfl) [-getElem?_pos,h6,hw,aF];exact kB.trans (K4.trans hk)
      simp(disch:=first|(simp;done)|omega|rfl) [-getElem?_pos,cz,aL,g13,e13,aJ,aE];refine az (Zk8 (by omega) (by omega)) ?_;rintro _ h4 n4 k4 rfl;have Nb:=k4.le;have K4:=K3.trans k4;have f04:=(K4.get _ zb).trans b0;have f14:=(K4.get _ AM).trans b1;have f24:=(K4.get _ AN).trans b2;have l4:N+1+1<n4:=by omega
      have e04:N<n4:=by omega
      have e14:N+1<n4:=by omega
      by_cases cg:Zfp lo hi=0
      ·simp(disch:=first|(simp;done)|omega|rfl) [-getElem?_pos,cg,aL,f04,f14,e04,e14,aJ,aE];refine az (Zm2 (d:=4) (by omega) (by omega) (by decide)) ?_;rintro _ h5 n5 k5 rfl;have K5:=K4.trans k5;have NC:=k5.le;by_cases cs:Zow lo hi 4=true
       ·have L:LiH g l p D lo hi:=⟨cS.1,cS.2.1,cS.2.2,ca,cb,fun _=>cf,fun _=>cs⟩;rw[cs];simp(disch:=first|(simp;done)|omega|rfl) [-getElem?_pos,];refine mJ (Xaw (M:=N) (B:=N+1+1) (C:=N) (P:=N+1) (D:=D) (z:=z) L (hP.ah (kB.trans K5)) ((K5.get _ AN).trans b2) (by omega) ((K5.get _ zb).trans b0) (by omega) ((K5.get _ AM).trans b1) (by omega) (by simp) (by omega) (by simp) (by simp) (by simp) (by simp) (by simp[c0])) ?_;rintro _ _ ⟨H,nn,WW⟩ ⟨rfl,r6',rfl,h6,hw,hk⟩;simp only at hw hk;simp(disch:=first|(simp;done)|omega|rfl) [-getElem?_pos,h6,hw,aF];exact kB.trans (K5.trans hk)
       have xo:Zow lo hi 4=false:=by simpa using cs
       rw[xo];simp(disch:=first|(simp;done)|omega|rfl) [-getElem?_pos,aF];exact kB.trans K5
      have L:LiH g l p D lo hi:=⟨cS.1,cS.2.1,cS.2.2,ca,cb,fun _=>cf,fun h=>absurd h cg⟩;simp(disch:=first|(simp;done)|omega|rfl) [-getElem?_pos,cg,aL];refine mJ (Xaw (M:=N) (B:=N+1+1) (C:=N) (P:=N+1) (D:=D) (z:=z) L (hP.ah (kB.trans K4)) ((K4.get _ AN).trans b2) (by omega) ((K4.get _ zb).trans b0) (by omega) ((K4.get _ AM).trans b1) (by omega) (by simp) (by omega) (by simp) (by simp) (by simp) (by simp) (by simp[c0])) ?_;rintro _ _ ⟨H,nn,WW⟩ ⟨rfl,r6',rfl,h6,hw,hk⟩;simp only at hw hk;simp(disch:=first|(simp;done)|omega|rfl) [-getElem?_pos,h6,hw,aF];exact kB.trans (K4.trans hk)
     have cf':(pD [g,l,p] 3 4&&decide (D<=((3:Nat):Int)))=false:=by
      cases x:pD [g,l,p] 3 4 with
      |false=>rfl
      |true=> rw[Bool.true_and];exact decide_eq_false (fun hc=>cf ⟨x,hc⟩)
     rw[cf'];simp(disch:=first|(simp;done)|omega|rfl) [-getElem?_pos,aF];exact kB.trans K3
    simp(disch:=first|(simp;done)|omega|rfl) [-getElem?_pos,c0,aL,Rp,Nz,aJ,aE];refine az (Zk8 (by omega) (by omega)) ?_;rintro _ h4 n4 k4 rfl;have Nb:=k4.le;have K4:=K2.trans k4;have f04:=(K4.get _ zb).trans b0;have f14:=(K4.get _ AM).trans b1;have f24:=(K4.get _ AN).trans b2;have l4:N+1+1<n4:=by omega
    have e04:N<n4:=by omega
    have e14:N+1<n4:=by omega
    by_cases cg:Zfp lo hi=0
    ·simp(disch:=first|(simp;done)|omega|rfl) [-getElem?_pos,cg,aL,f04,f14,e04,e14,aJ,aE];refine az (Zm2 (d:=4) (by omega) (by omega) (by decide)) ?_;rintro _ h5 n5 k5 rfl;have K5:=K4.trans k5;have NC:=k5.le;by_cases cs:Zow lo hi 4=true
     ·have L:LiH g l p D lo hi:=⟨cS.1,cS.2.1,cS.2.2,ca,cb,fun h=>absurd h c0,fun _=>cs⟩;rw[cs];simp(disch:=first|(simp;done)|omega|rfl) [-getElem?_pos,];refine mJ (Xaw (M:=N) (B:=N+1+1) (C:=N) (P:=N+1) (D:=D) (z:=z) L (hP.ah (kB.trans K5)) ((K5.get _ AN).trans b2) (by omega) ((K5.get _ zb).trans b0) (by omega) ((K5.get _ AM).trans b1) (by omega) (by simp) (by omega) (by simp) (by simp) (by simp) (by simp) (by simp)) ?_;rintro _ _ ⟨H,nn,WW⟩ ⟨rfl,r6',rfl,h6,hw,hk⟩;simp only at hw hk;simp(disch:=first|(simp;done)|omega|rfl) [-getElem?_pos,h6,hw,aF];exact kB.trans (K5.trans hk)
     have xo:Zow lo hi 4=false:=by simpa using cs
     rw[xo];simp(disch:=first|(simp;done)|omega|rfl) [-getElem?_pos,aF];exact kB.trans K5
    have L:LiH g l p D lo hi:=⟨cS.1,cS.2.1,cS.2.2,ca,cb,fun h=>absurd h c0,fun h=>absurd h cg⟩;simp(disch:=first|(simp;done)|omega|rfl) [-getElem?_pos,cg,aL];refine mJ (Xaw (M:=N) (B:=N+1+1) (C:=N) (P:=N+1) (D:=D) (z:=z) L (hP.ah (kB.trans K4)) ((K4.get _ AN).trans b2) (by omega) ((K4.get _ zb).trans b0) (by omega) ((K4.get _ AM).trans b1) (by omega) (by simp) (by omega) (by simp) (by simp) (by simp) (by simp) (by simp)) ?_;rintro _ _ ⟨H,nn,WW⟩ ⟨rfl,r6',rfl,h6,hw,hk⟩;simp only at hw hk;simp(disch:=first|(simp;done)|omega|rfl) [-getElem?_pos,h6,hw,aF];exact kB.trans (K4.trans hk)
   have cb':(40:Int)<(hi.length:Int):=by omega
   simp(disch:=first|(simp;done)|omega|rfl) [-getElem?_pos,cS,ca',cb',hA1,g0,g1,g2,e0,e1,e2,aJ,aE,aF];exact kB.trans k1
  have ca':(40:Int)<(lo.length:Int):=by omega
  simp(disch:=first|(simp;done)|omega|rfl) [-getElem?_pos,cS,ca',hA1,g0,g1,g2,e0,e1,e2,aJ,aE,aF];exact kB.trans k1
 simp(disch:=first|(simp;done)|omega|rfl) [-getElem?_pos,cS,hA1,aF];exact kB.trans k1
end Go.Mx
