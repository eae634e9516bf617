/-lensletlaw05-/
import Derived.Test.YtgccnjdneojagaaGreatDoorSwB
import Derived.Deep.Slices
import Derived.Lib.LaidTab
import Derived.LaidSub
import Derived.ChangeShapes
import Derived.WideShapes
set_option linter.all false
namespace Go.Mx
open Go Go.Proofs
variable{k:IntKind}{M:List (List Rat)}{tb:List (Nat×O)}{zs:List Int}{args:List V}{xs:List Value}{ss x:List aG}{G N d fuel g n:Nat}{h:T O}{H:Type}{l s:TypeId}{ov sv v wv xv:V}{y:Value}{mf:nA}
variable {m:List (List aG)} {os ws:List aG}
set_option maxHeartbeats 16000000
set_option maxRecDepth 1000000
def Ytu{xs:List aG}(h:Bi m ws ss xs os):bH (bS (bF m) (aW m)) 1212/\(bS (bF m) (aW m)).length<=aW m:=by
 have n4:=h.n4;have hR:=Zip h.qb h.rc;obtain⟨d,e,Bj,h1,h2,_,q2⟩:=Yid hR h.rc (by omega);refine⟨q2.mono ?_,by omega⟩;have hd:d=0\/d=1\/d=2\/d=3\/d=4:=by omega
 rcases hd with rfl|rfl|rfl|rfl|rfl
 ·exact NQ (r:=30) (e:=4) (by omega) (by omega) (by decide)
 ·exact NQ (r:=62) (e:=3) (by omega) (by omega) (by decide)
 ·exact NQ (r:=96) (e:=2) (by omega) (by omega) (by decide)
 ·exact NQ (r:=132) (e:=1) (by omega) (by omega) (by decide)
 exact NQ (r:=170) (e:=0) (by omega) (by omega) (by decide)
def HW.Oi{c:Int}(s:HW 0 M v c h n)(hM:bH M 1800):c=0/\oa h n v M:=by
 rcases s with⟨h0,_⟩|⟨_,⟨h0,_⟩|⟨_,rfl,h1⟩⟩
 ·exact absurd rfl h0
 ·rw[Yvo hM]at h0;cases h0
 exact⟨rfl,h1⟩
def ZR.got{e:Int}{q:Rat}{x:V}(s:ZR e q x)(he:e=0)(hq:Qb 1800 q):x=.aX [.str (aO q),.int .i64 0]:=by
 rcases s with⟨t1,_⟩|⟨_,⟨t1,_⟩|⟨_,h⟩⟩
 ·exact absurd he t1
 ·rw[(C4 hq (aM _)).1]at t1;cases t1
 exact h
def Yhu(h:bH M 1800)(hc:aU M n)(hn:n<=6):∀x∈M.map fun r=>r.map aO,x.length<100000/\∀s∈x,s.length<=100000:=fun x hx=>by
 obtain⟨r,hr,rfl⟩:=bK.1 hx
 exact⟨by rw[di,hc r hr];omega,Ly (h r hr)⟩
def Yxr{nB n0 n1 B0:Nat}{B H:T O}{W:List Nat}{vd:V}{xs:List aG}{r0:T V}(hI:Bi m ws ss xs os)(Iu:nB<=n0)(hd:eN B n0 vd m)(hw:Sl B n0 wv (strs ws))(hs:Sl B n0 sv (strs ss))(hx:Sl B n0 xv (strs xs))(ho:Sl B n0 ov (strs os))(hP:iG B n0)(hB:B.get B0=some (.cells [wv,sv,xv] 25 true))(nE:B0<n0)(hW:ay nB W=[])(hK:ab B n0 H n1)(a0:r0.get 0=some vd)(a2:r0.get 2=some ov)(a4:r0.get 4=some (.ptr B0 0)):
  Code A.C none A.Bf ⟨r0,368,[]⟩ ⟨H,n1,W⟩ (fun e fr st=>e=.ret/\∃r,fr=⟨r,368,[]⟩/\r.get 6=some (.bool true)/\ay nB st.w=[]/\ab B n0 st.h st.n):=by
 rw[bu];have Ti:=hK.le;have oF:=hI.n1;have n4:=hI.n4;have s1:=hI.s1;have s5:=hI.s5;have lD:(bF m).length=m.length:=D6;have rV:(a_ ws).length=(bF m).length:=by rw[lD];simp[a_,hI.wl]
 have cC:(a_ ss).length=(bF m).length:=by rw[lD];simp[a_,hI.sl]
 have qR:=Ypn hI.rc oF rV hI.wp hI.qb hI.wq n4 (by omega);obtain⟨qK,lK⟩:=Ytu hI;obtain⟨x,y,fx,fr,fn⟩:=Ysg hI.rc oF rV hI.wp cC;have Of:(jx (bF m) (a_ ws) (aW m)).length=aW m:=Ln;have Og:aU (jx (bF m) (a_ ws) (aW m)) m.length:=by rw[<-lD];exact Zt
 have Ih:aU (bS (bF m) (aW m)) (aW m):=NL;have ld:=hd.len;have El:(0:Int)<(m.length:Int):=by omega
 obtain⟨l0,cB,h0⟩:∃l0,m[0]?=some l0/\aW m=l0.length:=by obtain⟨l0,cB⟩:=bj (l:=m) (k:=0) (by omega);exact⟨l0,cB,by unfold aW;rw[cB];rfl⟩
 have gB:=(hK.get B0 nE).trans hB;have Z9:B0<n1:=by omega
 simp(disch:=first|(simp;done)|omega|rfl) [-getElem?_pos,A.Bf,a0,a2,a4,gB,Z9];refine ar (Yo4 (hd.ad hK) (hw.ad hK) (hP.ad hK) hI.sh hI.Tu) ?_;rintro _ H2 n2 k2 ⟨vR,cR,rfl,hR⟩;rw[hI.kr]at hR;change HW 0 (jx (bF m) (a_ ws) (aW m)) vR cR H2 n2 at hR;obtain⟨rfl,Tv⟩:=hR.Oi (qR.mono (by decide));have j2:=hK.trans k2;simp(disch:=first|(simp;done)|omega|rfl) [-getElem?_pos,a0,a2,a4];refine ar (Yot (hd.ad j2) (hP.ad j2) hI.sh) ?_;rintro _ H3 n3 k3 ⟨vb,cb,rfl,hb⟩;rw[hI.c16]at hb;change HW 0 (bS (bF m) (aW m)) vb cb H3 n3 at hb;obtain⟨rfl,mK⟩:=hb.Oi (qK.mono (by decide));have j3:=j2.trans k3;have lR:=(Tv.ad k3).len;have lb:=mK.len;rw[Of]at lR;obtain⟨i,o,cc,e,rw,u0,p1,p2,p3,p4,p5⟩:=(hd.ad j3).at cB;have p6:=p5.len;rw[mY,<-h0]at p6;rw[gE]at p4;simp(disch:=first|(simp;done)|omega|rfl) [-getElem?_pos,a0,a2,a4,bA,ld,lR,lb,s1,El,p1,p3,p4,p6];refine ar (Yf8 (n:=m.length) (Tv.ad k3).ZX (by rw[di];omega) (Yhu (qR.mono (by decide)) Og (by omega))) ?_;rintro _ H4 NS k4 rfl;rw[Z0 (qR.mono (by decide)) Og];have j4:=j3.trans k4;obtain⟨i2,o2,YG,e2,Nc,u2,q1,q2,q3,q4,q5⟩:=(hd.ad j4).at cB;have q6:=q5.len;rw[mY,<-h0]at q6;rw[gE]at q4;have g1:¬((aW m:Nat):Int)<((bS (bF m) (aW m)).length:Int):=by omega
 simp(disch:=first|(simp;done)|omega|rfl) [-getElem?_pos,a0,a2,a4,bA,ld,lR,lb,s1,El,q1,q3,q4,q6,g1];refine ar (Yf8 (n:=aW m) (mK.ad k4).ZX (by rw[di];omega) (Yhu (qK.mono (by decide)) Ih (by omega))) ?_;rintro _ H5 n5 k5 rfl;rw[Z0 (qK.mono (by decide)) Ih];have j5:=j4.trans k5;have ID:=j5.le;have gB5:=(j5.get B0 nE).trans hB;have zaa:B0<n5:=by omega
 simp(disch:=first|(simp;done)|omega|rfl) [-getElem?_pos,a0,a2,a4,bA,gB5,zaa];have hsT:Tx H5 n5 sv (a_ ss):=jB.sl (hs.ad j5) hI.so;refine ar (ZU (c:=m.length) ((Tv.ad k3).ad (k4.trans k5)) hsT (hP.ad j5) (by omega) (by omega) s1 (by omega) Og (qR.mono (by decide)) (fun q hq=>(hI.sq q hq).mono (by decide)) (by rw[cC,lD])) ?_;rintro _ H6 n6 k6 hT6;obtain⟨X,eX⟩:∃X,(jx (bF m) (a_ ws) (aW m)).map (fun r=>dh r (a_ ss))=X:=⟨_,rfl⟩;rw[eX]at fx hT6;have lX:X.length=aW m:=by rw[<-eX,di,Of]
 have qX:∀q∈X,Qb 1420 q:=Tw (n:=aW m) (fun j hj=>by rw[fx j hj];exact Yqm hI.rc rV hI.wp hI.qb hI.wq hI.sq n4 (by omega) fn fr j hj) lX;have Ty:∀q∈X,Qb 1800 q:=fun q hq=>(qX q hq).mono (by decide);obtain⟨vX,rfl,tX⟩:=hT6.got rfl Ty;have j6:=j5.trans k6;have Lw:=j6.le;obtain⟨i3,o3,cc3,e3,rw3,u3,w1,w2,w3,w4,w5⟩:=(hd.ad j6).at cB;have w6:=w5.len;rw[mY,<-h0]at w6;rw[gE]at w4;simp(disch:=first|(simp;done)|omega|rfl) [-getElem?_pos,a0,a2,a4,bA,ld,s1,El,w1,w3,w4,w6];refine ar (Em (n:=aW m) (l:=X.map aO) tX (by rw[di];omega) (Ly Ty)) ?_;rintro _ H7 n7 k7 rfl;have hXk:dj (X.map aO) (aW m)=0:=by rw[<-lX];exact IG Ty
 rw[hXk];have j7:=j6.trans k7;have ZS:=j7.le;have gB7:=(j7.get B0 nE).trans hB;have zab:B0<n7:=by omega
 have bX:=AB.mk2 Ty (by omega);obtain⟨hrE,hcE⟩:=hI.res hXk;have erX:a_ (X.map aO)=X:=Tq;have eRQ:xp m ss (X.map aO)=mM (a_ ss) ((bF m).map fun r=>dh r X):=by unfold xp;rw[erX]
 obtain⟨L,eL⟩:∃L,mM (a_ ss) ((bF m).map fun r=>dh r X)=L:=⟨_,rfl⟩;have qL:=Ytt hI.rc rV hI.wp hI.qb hI.wq hI.sq n4 (by omega) cC fx fn;rw[eL]at qL eRQ;have lL:L.length=m.length:=by rw[<-eL,Tz,cC,lD]
 simp(disch:=first|(simp;done)|omega|rfl) [-getElem?_pos,a0,a2,a4,bA,gB7,zab];refine ar (Yge (x:=X.map aO) (hd.ad j7) (hs.ad j7) (tX.ad k7) (hP.ad j7) hI.sh hI.shs bX) ?_;rintro _ H8 n8 k8 hT8;rw[hrE,eRQ]at hT8;obtain⟨vL,rfl,tL⟩:=hT8.got rfl (fun q hq=>(qL q hq).mono (by decide));have j8:=j7.trans k8;have ZT:=j8.le;have gB8:=(j8.get B0 nE).trans hB;have IJ:B0<n8:=by omega
 have Lz:=Yyj hI.rc rV hI.wp hI.qb hI.wq hI.sq n4 (by omega) fn;have ec1:IC m ws ss (X.map aO)=nQ (bF m) (a_ ws) (a_ ss) x (aW m):=by unfold IC xp;rw[erX];exact Yjx hI.rc cC fx
 simp(disch:=first|(simp;done)|omega|rfl) [-getElem?_pos,a0,a2,a4,bA,gB8,IJ];refine ar (Ybo (x:=X.map aO) (hd.ad j8) (hw.ad j8) (hs.ad j8) ((tX.ad k7).ad k8) (hP.ad j8) hI.sh hI.Tu hI.shs bX) ?_;rintro _ H9 n9 k9 hT9;rw[ec1]at hT9;obtain rfl:=hT9.got hcE (Lz.mono (by decide));have j9:=j8.trans k9;have le9:=j9.le;have gB9:=(j9.get B0 nE).trans hB;have zac:B0<n9:=by omega
 have ec2:IC m ws ss os=nQ (bF m) (a_ ws) (a_ ss) (fun l=>(a_ os)[l]?.getD 0) (aW m):=Yjx hI.rc cC (fun j _=>rfl);have qmv:∀i,Qb 61 (eI (bF m) (fun l=>(a_ os)[l]?.getD 0) (aW m) i):=fun i=>by have h1:=Th (K:=14) (f:=fun l=>al (bF m) i l*(a_ os)[l]?.getD 0) (fun l=>(mS (hI.qb.at (i:=i)) (by decide) l).mul (mS hI.oq (by decide) l)) (t:=aW m);exact h1.mono (by omega)
 have TA:Qb 800 (nQ (bF m) (a_ ws) (a_ ss) (fun l=>(a_ os)[l]?.getD 0) (aW m)):=by
  have h1:=Th (K:=145) (f:=fun i=>(a_ ws)[i]?.getD 0*(((a_ ss)[i]?.getD 0-eI (bF m) (fun l=>(a_ os)[l]?.getD 0) (aW m) i)*((a_ ss)[i]?.getD 0-eI (bF m) (fun l=>(a_ os)[l]?.getD 0) (aW m) i))) (fun i=>by
   have h2:Qb 69 ((a_ ss)[i]?.getD 0-eI (bF m) (fun l=>(a_ os)[l]?.getD 0) (aW m) i):=by
    have:=(mS hI.sq (by decide) i).add (Ygu (qmv i))
    rw[<-Rat.sub_eq_add_neg]at this
    exact this
   exact(mS hI.wq (by decide) i).mul (h2.mul h2)) (t:=(bF m).length);exact h1.mono (by omega)
 simp(disch:=first|(simp;done)|omega|rfl) [-getElem?_pos,a0,a2,a4,bA,gB9,zac];refine ar (Ybo (hd.ad j9) (hw.ad j9) (hs.ad j9) (ho.ad j9) (hP.ad j9) hI.sh hI.Tu hI.shs ⟨hI.oo.yF.symm,fun q hq=>(hI.oq q hq).mono (by decide),by rw[hI.ol];omega⟩) ?_;rintro _ Ha na ka hTa;rw[ec2]at hTa;obtain rfl:=hTa.got (hI.res hI.ok).2 (TA.mono (by decide));have ja:=j9.trans ka;simp(disch:=first|(simp;done)|omega|rfl) [-getElem?_pos,a0,a2,a4,bA,ld];refine ar (Em (n:=m.length) (l:=L.map aO) ((tL.ad k9).ad ka) (by rw[di];omega) (Ly fun q hq=>(qL q hq).mono (by decide))) ?_;rintro _ Hb nb kb rfl;have hLk:dj (L.map aO) m.length=0:=by rw[<-lL];exact IG fun q hq=>(qL q hq).mono (by decide)
 rw[hLk];have jb:=ja.trans kb;have IF:∀q:Rat,Qb 1800 q->aV (aO q)=0:=fun q hq=>by rw[Zsi,(C4 hq (aM _)).1];rfl
 have Ei:=IF _ (Lz.mono (by decide));have zU:=IF _ (TA.mono (by decide));simp(disch:=first|(simp;done)|omega|rfl) [-getElem?_pos,a0,a2,a4,bA,ld];refine ar (TC (by have:=(C4 (Lz.mono (show 1659<=1800 by decide)) (aM _)).2;omega)) ?_;rintro _ Hc nc kc rfl;rw[Ei];simp(disch:=first|(simp;done)|omega|rfl) [-getElem?_pos,a0,a2,a4,bA,ld];refine ar (TC (by have:=(C4 (TA.mono (show 800<=1800 by decide)) (aM _)).2;omega)) ?_;rintro _ Hd nd kd rfl;rw[zU];have jd:=(jb.trans kc).trans kd;have k9d:=((ka.trans kb).trans kc).trans kd;have kkX:=((k7.trans k8).trans k9).trans k9d;have kkb:=((k4.trans k5).trans k6).trans kkX;have kkR:=k3.trans kkb;simp(disch:=first|(simp;done)|omega|rfl) [-getElem?_pos,a0,a2,a4,bA,ld];refine mO (Ynd (nB:=nB) (B0:=B0) (vd:=vd) (vR:=vR) (vb:=vb) (vX:=vX) (vL:=vL) (wv:=wv) (sv:=sv) (xv:=xv) (ov:=ov) (x:=x) (y:=y) hI Iu hd hw hx ho hP hB nE (by simpa using hW) jd (Tv.ad kkR) (mK.ad kkb) qK (by omega) (tX.ad kkX) lX qX eL (tL.ad (k9.trans k9d)) qL fx fr fn Lz (TA.mono (by decide)) (by simp[a0]) (by simp[a2]) (by simp[a4]) (by simp) (by simp) (by simp) (by simp) (by simp) (by simp)) ?_;rintro _ _ ⟨Hz,nz,Wz⟩ ⟨rfl,r3,rfl,h6',Bk,Bm⟩;simp only at Bk Bm;simp(disch:=first|(simp;done)|omega|rfl) [-getElem?_pos,h6',Bk,Bm]
def Ync{u:V}{s:List aG}(iJ:eN h N u m)(hw0:Sl h N wv (strs ws))(iN:Sl h N sv (strs s))(jK:Sl h N xv (strs x))(ho0:Sl h N ov (strs os))(hP0:iG h N)(b1:m.length<9223372036854775808)(b2:∀x∈m,x.length<9223372036854775808)(b3:ws.length<9223372036854775808)(b4:s.length<9223372036854775808)(b5:x.length<9223372036854775808)(b6:os.length<9223372036854775808)(b7:∀t∈os,t.length<9223372036854775808):Fn A.C 3 [u,.agg [wv,sv,xv],ov] h N (fun z _ _=>z=.bool true):=by
 intro w;have o1:=hw0.form.one;have o2:=iN.form.one;have o3:=jK.form.one;unfold V.one at o1 o2 o3;have kB:ab h N (h.set N (.cells [wv,sv,xv] 25 true)) (N+1):=ab.refl.new _;have En:(h.set N (.cells [wv,sv,xv] 25 true)).get N=some (.cells [wv,sv,xv] 25 true):=by simp
 have hm:=iJ.ad kB;have hw:=hw0.ad kB;have hs:=iN.ad kB;have hx:=jK.ad kB;have ho:=ho0.ad kB;have hP:=hP0.ad kB;have lm:=hm.len;rw[aQ,A.k3 (by simp)];have s0:aP [wv,sv,xv] 0 3=some [wv,sv,xv]:=rfl;simp(disch:=first|(simp;done)|omega|rfl) [-getElem?_pos,A.b3,o1,o2,o3];generalize h.set N (.cells [wv,sv,xv] 25 true)=H at*;refine ar (Yul (r0:=5) (c:=4) (d:=2) hm b1 b2 (by decide) (by decide) (by decide)) ?_;rintro _ H1 n1 k1 rfl;have hA1:=fun w=>Bn (w:=w) (hP.ad k1);cases hf:Bo m 5 4 2 with
 |false=> simp(disch:=first|(simp;done)|omega|rfl) [-getElem?_pos,hA1,az];exact kB.trans k1
 |true=>
  have IK:=hf;unfold Bo at IK;simp only[fW,decide_eq_true_eq,iK]at IK;obtain⟨_,m5,IL,hd4,_⟩:=IK;obtain⟨m1,d1,_,_,zbJ⟩:=Zwj IL;obtain⟨l0,cB,h0⟩:∃l0,m[0]?=some l0/\aW m=l0.length:=by obtain⟨l0,cB⟩:=bj (l:=m) (k:=0) (by omega);exact⟨l0,cB,by unfold aW;rw[cB];rfl⟩
  have El:(0:Int)<(m.length:Int):=by omega
  have xr:=k1.le;have g1:=(k1.get N (by omega)).trans En;have dN1:N<n1:=by omega
  simp(disch:=first|(simp;done)|omega|rfl) [-getElem?_pos,g1,dN1,s0];refine ar (Yrn (hw.ad k1) (hs.ad k1) (hx.ad k1) b3 b4 b5) ?_;rintro _ H2 n2 k2 rfl;have j2:=k1.trans k2;have Oj:=fun w=>Bn (w:=w) (hP.ad j2);cases q:(dr 6 ws&&dr 6 s&&dr 6 x)with
  |false=> simp(disch:=first|(simp;done)|omega|rfl) [-getElem?_pos,Oj,az];exact kB.trans j2
  |true=>
   rw[fW,fW]at q;obtain⟨⟨sw,ss⟩,sx⟩:=q;obtain⟨w1,w2⟩:=Ej sw;obtain⟨l1,l2⟩:=Ej ss;obtain⟨x1,x2⟩:=Ej sx;have kR:=j2.le;have g2:=(j2.get N (by omega)).trans En;have dN2:N<n2:=by omega
   simp(disch:=first|(simp;done)|omega|rfl) [-getElem?_pos,g2,dN2,lm];refine ar (Yyi (n:=m.length) (z:=1) (hw.ad j2) w1 w2) ?_;rintro _ H3 n3 k3 rfl;have j3:=j2.trans k3;have hA3:=fun w=>Bn (w:=w) (hP.ad j3);by_cases wk:tj ws m.length 1=0
   ·have uZ:=j3.le;have g3:=(j3.get N (by omega)).trans En;have dN3:N<n3:=by omega
    simp(disch:=first|(simp;done)|omega|rfl) [-getElem?_pos,wk,g3,dN3,lm];refine ar (Em (n:=m.length) (hs.ad j3) l1 l2) ?_;rintro _ H4 n4 k4 rfl;have j4:=j3.trans k4;have hA4:=fun w=>Bn (w:=w) (hP.ad j4);by_cases sk:dj s m.length=0
    ·have zS:=j4.le;have g4:=(j4.get N (by omega)).trans En;have dN4:N<n4:=by omega
     obtain⟨i,o,cc,e,rw,u0,p1,p2,p3,p4,p5⟩:=(hm.ad j4).at cB;have p6:=p5.len;rw[mY,<-h0]at p6;rw[gE]at p4;simp(disch:=first|(simp;done)|omega|rfl) [-getElem?_pos,sk,g4,dN4,lm,p1,p3,p4,p6];refine ar (Em (n:=aW m) (hx.ad j4) x1 x2) ?_;rintro _ H5 n5 k5 rfl;have j5:=j4.trans k5;have hA5:=fun w=>Bn (w:=w) (hP.ad j5);by_cases xk:dj x (aW m)=0
     ·have ID:=j5.le;obtain⟨i',o',Ok,e',rj,u0',t1,t2,t3,t4,t5⟩:=(hm.ad j5).at cB;have t6:=t5.len;rw[mY,<-h0]at t6;rw[gE]at t4;simp(disch:=first|(simp;done)|omega|rfl) [-getElem?_pos,xk,lm,t1,t3,t4,t6];refine ar (Zwi (n:=aW m) (ho.ad j5) (fun h=>by omega) b7) ?_;rintro _ H6 n6 k6 rfl;have j6:=j5.trans k6;have hA6:=fun w=>Bn (w:=w) (hP.ad j6);by_cases ok:dj os (aW m)=0
      ·have Lw:=j6.le;have g6:=(j6.get N (by omega)).trans En;have dN6:N<n6:=by omega
       simp(disch:=first|(simp;done)|omega|rfl) [-getElem?_pos,ok,g6,dN6];refine ar (Ol (n:=5) (d:=2) (hw.ad j6) b3 (by decide) (by decide)) ?_;rintro _ H7 n7 k7 rfl;have j7:=j6.trans k7;have hA7:=fun w=>Bn (w:=w) (hP.ad j7);cases fw:qW ws 5 2 with
       |false=> simp(disch:=first|(simp;done)|omega|rfl) [-getElem?_pos,hA7,az,p2,t2];exact kB.trans j7
       |true=>
        have ZS:=j7.le;have g7:=(j7.get N (by omega)).trans En;have dN7:N<n7:=by omega
        simp(disch:=first|(simp;done)|omega|rfl) [-getElem?_pos,g7,dN7];refine ar (Ol (n:=5) (d:=2) (hs.ad j7) b4 (by decide) (by decide)) ?_;rintro _ H8 n8 k8 rfl;have j8:=j7.trans k8;have hA8:=fun w=>Bn (w:=w) (hP.ad j8);cases fs:qW s 5 2 with
        |false=> simp(disch:=first|(simp;done)|omega|rfl) [-getElem?_pos,hA8,az,p2,t2];exact kB.trans j8
        |true=>
         have ZT:=j8.le;have g8:=(j8.get N (by omega)).trans En;have dN8:N<n8:=by omega
         simp(disch:=first|(simp;done)|omega|rfl) [-getElem?_pos,g8,dN8];refine ar (Ol (n:=4) (d:=2) (hx.ad j8) b5 (by decide) (by decide)) ?_;rintro _ H9 n9 k9 rfl;have j9:=j8.trans k9;have hA9:=fun w=>Bn (w:=w) (hP.ad j9);cases fx:qW x 4 2 with
         |false=> simp(disch:=first|(simp;done)|omega|rfl) [-getElem?_pos,hA9,az,p2,t2];exact kB.trans j9
         |true=>
          simp(disch:=first|(simp;done)|omega|rfl) [-getElem?_pos,];refine ar (Ol (n:=4) (d:=2) (ho.ad j9) b6 (by decide) (by decide)) ?_;rintro _ H10 n10 k10 rfl;have jA:=j9.trans k10;have hAA:=fun w=>Bn (w:=w) (hP.ad jA);cases fo:qW os 4 2 with
          |false=> simp(disch:=first|(simp;done)|omega|rfl) [-getElem?_pos,hAA,az,p2,t2];exact kB.trans jA
          |true=>
           have hI:=Xal hf wk sk xk ok fw fs fx fo;have leA:=jA.le;have gA:=(jA.get N (by omega)).trans En;have dNA:N<n10:=by omega
           simp(disch:=first|(simp;done)|omega|rfl) [-getElem?_pos,p2,t2];refine mO (Yxr (nB:=N) (B:=H) (n0:=N+1) (B0:=N) (vd:=u) (wv:=wv) (sv:=sv) (xv:=xv) (ov:=ov) hI (by omega) hm hw hs hx ho hP En (by omega) (by simp) jA (by simp) (by simp) (by simp)) ?_;rintro _ _ ⟨Hz,nz,Wz⟩ ⟨rfl,r3,rfl,h6',Bk,Bm⟩;simp only at Bk Bm;simp(disch:=first|(simp;done)|omega|rfl) [-getElem?_pos,h6',az,Bk];exact kB.trans Bm
      simp(disch:=first|(simp;done)|omega|rfl) [-getElem?_pos,ok,hA6,az,p2,t2];exact kB.trans j6
     simp(disch:=first|(simp;done)|omega|rfl) [-getElem?_pos,xk,hA5,az,p2];exact kB.trans j5
    simp(disch:=first|(simp;done)|omega|rfl) [-getElem?_pos,sk,hA4,az];exact kB.trans j4
   simp(disch:=first|(simp;done)|omega|rfl) [-getElem?_pos,wk,hA3,az];exact kB.trans j3
open Go
inductive jR where
 |nil
 |emp (b:Addr)
 |sl (b:Addr) (l c:Nat) (f:Nat->ByteArray)
def jR.val:jR->Value
 |.nil=>.slice none 0 0
 |.emp b=>.slice (some b) 0 0
 |.sl b l c f=>.slice (some b) l c
def jR.ok(W:World):jR->Prop
 |.sl b l c f=>l<=c/\0<c/\∀i,i<c->W.cell? (b.add i)=some (.string (f i))
 |_=>True
def jR.strs:jR->List aG
 |.sl b l c f=>(List.range l).map fun i=>(f i).data.toList
 |_=>[]
def Eo(W:World)(a:Addr):TypeId:=match W.heap[a.block]? with
 |some (.cells _ e _)=>e
 |_=>0
def Ybu{W:World}{a:Addr}{f:Nat->Value}(hn:0<n)(hc:∀i,i<n->W.cell? (a.add i)=some (f i)):
  ∃c' lo hi,W.heap[a.block]?=some (.cells c' (Eo W a) (lo,hi))/\a.spot=none/\(∀i,i<n->c'[a.off+i]?=some (f i))/\a.off+n<=c'.size/\a.block<W.heap.size:=by
 have h0:=hc 0 hn;have ha0:a.add 0=a:=by simp[Addr.add]
 rw[ha0]at h0;obtain⟨c',e,fr,hb⟩:∃c' e fr,W.heap[a.block]?=some (.cells c' e fr):=by
  unfold World.cell? at h0;split at h0
  ·rename_i c' e fr hb;exact⟨c',e,fr,hb⟩
  cases h0
 have hs:a.spot=none:=by
  unfold World.cell? at h0;rw[hb]at h0;simp only at h0;split at h0
  ·cases h0
  rename_i h;simpa using h
 have ic:∀i,i<n->c'[a.off+i]?=some (f i):=fun i hi=>by
  have:=hc i hi;unfold World.cell? at this;have e1:(a.add i).block=a.block:=by unfold Addr.add;split<;>rfl
  have e2:(a.add i).off=a.off+i:=by unfold Addr.add;split<;>simp_all
  have e3:(a.add i).spot=none:=by unfold Addr.add;split<;>simp_all
  rw[e1,hb]at this;simp only[e2,e3,Option.isSome_none,ix,if_false]at this;exact this
 have aE:a.block<W.heap.size:=by
  rcases Nat.lt_or_ge a.block W.heap.size with h|h
  ·exact h
  rw[Array.getElem?_eq_none h]at hb;cases hb
 have fm:a.off+n<=c'.size:=by have:=ic (n-1) (by omega);have h2:=(Array.getElem?_eq_some_iff.1 this).1;omega
 obtain⟨lo,hi⟩:=fr;exact⟨c',lo,hi,by rw[hb];simp[Eo,hb],hs,ic,fm,aE⟩
structure TD where
 a:Addr
 n:Nat
 f:Nat->Value
 g:Nat->V
def TD.ok(W:World)(r:TD):Prop:=0<r.n/\(∀i,i<r.n->W.cell? (r.a.add i)=some (r.f i))/\∀i,i<r.n->(r.f i).oneCell'=true
def Zuz{P:Program}{ec:Nat->Option nA}(hP:FO P ec G){x:cO}(hx:kI P x){F:Nat}{f:FuncId}(hf:Am P f=some mf){S:St}{μ:Mu}{W:World}
  (h:Yy4 (Ep mf (eF (AD x ec F d) F) args S) v) (hh:bp P μ W S) (hS:S.w=[]) (Bp:aY μ args xs) (hv:∀μ z,VR μ v z->z=y):
  Calls P f ⟨xs⟩ W fun e W'=>e=.returned y/\RowKit.Below W.heap.size W W':=by
 obtain⟨s,bU,hw⟩:=h.ex;obtain⟨fn,CJ,_⟩:=Ybw hf;have ih:=TE hP.m hP.e hP.t hx F d;have:=Yiu (Yj2 ih hP.e (Yjb hP.m hP.e ih) (Ypj ih hP.e) (Zz7 ih) F) CJ hf hh Bp bU;refine callsIn_wide.1 (CallsIn.mono (F:=Fence.wide) this fun e W' he=>?_);cases e with
 |returned z=>
  obtain⟨μ',ws,h1,h2⟩:=he;have rZ:ws=[]:=by have:=h2.wl;rw[hw,hS]at this;simpa using this.symm
  subst rZ;exact⟨by rw[hv _ _ h1],h2.eR.os,h2.eR.tape,h2.eR.output,h2.eR.size,fun k hk=>h2.eR.block k hk fun i hi=>by cases hi⟩
 |panicked _=>exact he.elim
 |outgrown=>exact he.elim
def Cx.calls{P:Program}{C:Cx}(hP:FO P C.ec G)(hx:kI P C.x){f:Nat}(hf:Am P f=some mf)(ht:C.ec f=some mf){S:St}{μ:Mu}{W:World}
  (hn:∀st,C.x (.func f [] []) args st=none) (h:Fn C f args S.h S.n (fun u _ _=>u=v)) (hh:bp P μ W S) (hS:S.w=[]) (Bp:aY μ args xs) (hv:∀μ z,VR μ v z->z=y):
  Calls P f ⟨xs⟩ W fun e W'=>e=.returned y/\RowKit.Below W.heap.size W W':=by
 obtain⟨u,aB,hc,hw,hk,hu⟩:=(h []).ex;subst hu;have hS':(⟨S.h,S.n,[]⟩:St)=S:=by obtain⟨a,b,c⟩:=S;simp only at hS;subst hS;rfl
 rw[hS']at hc;rw[Cx.od]at hc;unfold uK at hc;rw[hn]at hc;simp only at hc;obtain⟨n,uJ⟩:=Zms (q:=fun n=>eF (C.at n) n) (fun n m hnm=>Bq (Cx.eJ hnm) n m hnm) (fun _ _ _ _ _ e=>Cx.r_ e) hc;unfold zV at uJ;simp only[ht,List.nil_append,zQ]at uJ;exact Zuz (F:=n) (d:=n) hP hx hf ⟨_,uJ,hw⟩ hh hS Bp hv
variable {P:Program} {S:St} {W:World} {μ:Mu}
def xu(tb:List (Nat×O))(i:Nat):Nat:=match lk tb i with
 |some (.cells c _ _)=>c.length
 |_=>0
def ke(P:Program)(W:World)(tb:List (Nat×O)):Prop:=∀i o,lk tb i=some o->∀μ,OM P μ W o ⟨i,0,xu tb i⟩
def ke.one{e:TypeId}{f:Nat×Nat}(h:W.heap[g]?=some (.cells (zs.map fun z=>Value.int k z).toArray e f)):ke P W [(g,.cells (zs.map fun z=>V.int k z) e false)]:=by
 intro i o ho μ;obtain⟨lo,hi⟩:=f;simp only[lk]at ho;split at ho
 ·rename_i hb;have:=k_ hb;subst this;simp only[au]at ho;subst ho;have hl:xu [(g,O.cells (zs.map fun z=>V.int k z) e false)] g=zs.length:=by simp[xu,lk,hb]
  rw[hl];refine⟨_,lo,hi,h,by simp,by simp,fun j v hv=>?_,fun j x hj hx=>?_,fun h=>by cases h⟩
  ·rw[eH]at hv;cases hz:zs[j]? with
   |none=>rw[hz]at hv;cases hv
   |some z=> rw[hz]at hv;simp only[qO,au]at hv;subst hv;exact⟨.int k z,by simp[hz],by simp[VR]⟩
  simp only[yR,List.getElem?_toArray,eH,mP]at hx;obtain⟨z,_,rfl⟩:=hx;rfl
 cases ho
structure uO (P:Program) (W:World) (μ:Mu) (S:St):Prop where
 hr:bp P μ W S
 w:S.w=[]
 ro:∀i l o,μ i=some l->S.h.get i=some o->o.wr=false
structure wE (μ:Mu) (S:St) (μ':Mu) (S':St):Prop where
 mu:∀i l,μ i=some l->μ' i=some l
 ad:ab S.h S.n S'.h S'.n
def wE.refl:wE μ S μ S:=⟨fun _ _ h=>h,ab.refl⟩
def wE.trans{μ1 μ2:Mu}{S1 S2:St}(a:wE μ S μ1 S1)(b:wE μ1 S1 μ2 S2):wE μ S μ2 S2:=⟨fun i l h=>b.mu i l (a.mu i l h),a.ad.trans b.ad⟩
def Yr9(hG:P.globals.size=G)(hW:G<=W.heap.size)(oG:Om G tb=true)(CW:ke P W tb):∃μ,uO P W μ (Ga G tb):=by
 subst hG;have get:∀i,i<P.globals.size->(Ga P.globals.size tb).h.get i=some (match lk tb i with|some o=>o|none=>.dead):=fun i hi=>by
  show (vA (AE P.globals.size) tb).get i=_;rw[Db];cases lk tb i with
  |some o=>rfl
  |none=>exact TF _ _ hi
 have hwr:∀i o,i<P.globals.size->(Ga P.globals.size tb).h.get i=some o->o.wr=false:=fun i o hi ho=>by
  rw[get i hi]at ho;simp only[au]at ho;cases hl:lk tb i with
  |none=>rw[hl]at ho;subst ho;rfl
  |some o'=>
   rw[hl]at ho;simp only at ho;subst ho;have:=(Zo7 oG hl).2;cases o' with
   |cells c e rw=>cases rw with
    |true=>cases this
    |false=>rfl
   |_=>cases this
 have TG:∀i l,(fun i=>if i<P.globals.size then some (⟨i,0,xu tb i⟩:L) else none) i=some l->i<P.globals.size/\l=⟨i,0,xu tb i⟩:=fun i l h=>by
  simp only at h;split at h
  ·rename_i hi;simp only[au]at h;exact⟨hi,h.symm⟩
  cases h
 refine⟨fun i=>if i<P.globals.size then some ⟨i,0,xu tb i⟩ else none,⟨fun i l hl=>?_,fun i l hl=>?_,fun i j l l' o o' hi hj aZ ho yS hw rn=>?_,fun g hg=>⟨xu tb g,by simp[hg]⟩⟩,rfl,fun i l o hl ho=>?_⟩
 ·obtain⟨h,rfl⟩:=TG i l hl;exact⟨h,by simp only;omega⟩
 ·obtain⟨h,rfl⟩:=TG i l hl;refine⟨_,get i h,?_⟩;cases fO:lk tb i with
  |none=>trivial
  |some o=>exact CW i o fO _
 ·rw[hwr i o (TG i l hi).1 ho]at hw;cases hw
 exact hwr i o (TG i l hl).1 ho
def Yre{o:O}(h:lk tb g=some o):(Ga G tb).h.get g=some o:=by show (vA (AE G) tb).get g=_;rw[Db,h]
def uO.row(s:uO P W μ S){r:TD}(oG:r.ok W)(hv:∀i,i<r.n->VR μ (r.g i) (r.f i)):
  ∃μ' S',uO P W μ' S'/\wE μ S μ' S'/\S'.n=S.n+1/\μ' S.n=some ⟨r.a.block,r.a.off,r.n⟩/\S'.h.get S.n=some (.cells ((List.range r.n).map r.g) (Eo W r.a) false):=by
 obtain⟨g1,g2,g3⟩:=oG;obtain⟨c',lo,hi,hb,hs,ic,fm,aE⟩:=Ybu g1 g2;have dT:∀i l,μ i=some l->(fun i=>if i=S.n then some (⟨r.a.block,r.a.off,r.n⟩:L) else μ i) i=some l:=fun i l hl=>by have:=(s.hr.dq i l hl).1;simp only;rw[ak (by omega)];exact hl
 have xw:∀i l,(fun i=>if i=S.n then some (⟨r.a.block,r.a.off,r.n⟩:L) else μ i) i=some l->(i=S.n/\l=⟨r.a.block,r.a.off,r.n⟩)\/(i≠S.n/\μ i=some l):=fun i l h=>by
  simp only at h;split at h
  ·rename_i e;simp only[au]at h;exact .inl ⟨e,h.symm⟩
  rename_i e;exact .inr ⟨e,h⟩
 have tk:(S.h.set S.n (.cells ((List.range r.n).map r.g) (Eo W r.a) false)).get S.n=some (.cells ((List.range r.n).map r.g) (Eo W r.a) false):=by simp[T.ag]
 have hold:∀i,i≠S.n->(S.h.set S.n (.cells ((List.range r.n).map r.g) (Eo W r.a) false)).get i=S.h.get i:=fun i hi=>by simp[T.ag,hi]
 have qY:∀i l o,(fun i=>if i=S.n then some (⟨r.a.block,r.a.off,r.n⟩:L) else μ i) i=some l->(S.h.set S.n (.cells ((List.range r.n).map r.g) (Eo W r.a) false)).get i=some o->o.wr=false:=fun i l o hl ho=>by
  rcases xw i l hl with⟨rfl,rfl⟩|⟨h1,h2⟩
  ·rw[tk]at ho;simp only[au]at ho;subst ho;rfl
  rw[hold i h1]at ho;exact s.ro i l o h2 ho
 refine⟨_,⟨S.h.set S.n (.cells ((List.range r.n).map r.g) (Eo W r.a) false),S.n+1,[]⟩,⟨⟨fun i l hl=>?_,fun i l hl=>?_,fun i j l l' o o' kf hj aZ ho yS hw rn=>?_,fun g hg=>?_⟩,rfl,qY⟩,⟨dT,by simp,fun i hi=>hold i (by omega)⟩,rfl,by simp,tk⟩
 ·rcases xw i l hl with⟨rfl,rfl⟩|⟨h1,h2⟩
  ·exact⟨by simp,aE⟩
  obtain⟨q1,q2⟩:=s.hr.dq i l h2;exact⟨by simp only;omega,q2⟩
 ·rcases xw i l hl with⟨rfl,rfl⟩|⟨h1,h2⟩
  ·refine⟨_,tk,c',lo,hi,hb,fm,by simp,fun j v hvj=>?_,fun j x hj hx=>?_,fun h=>by cases h⟩
   ·have hj:j<r.n:=by have:=(yK.1 hvj).1;simpa using this
    have IM:v=r.g j:=by simpa[hj]using hvj.symm
    subst IM;exact⟨_,ic j hj,VR.mono dT _ _ (hv j hj)⟩
   have hj:j<r.n:=hj;rw[ic j hj]at hx;simp only[au]at hx;subst hx;exact g3 j hj
  obtain⟨o,q1,q2⟩:=s.hr.obj i l h2;exact⟨o,by rw[hold i h1];exact q1,q2.mono dT⟩
 ·rw[qY i l o kf ho]at hw;cases hw
 obtain⟨t,ht⟩:=s.hr.iO g hg;exact⟨t,dT _ _ ht⟩
def uO.slice(s:uO P W μ S){r:TD}(oG:r.ok W)(hv:∀i,i<r.n->VR μ (r.g i) (r.f i)){len cap z:Nat}(hn:r.n=cap*z)(hl:len<=cap)(hz:0<z):
  ∃μ' S' i,uO P W μ' S'/\wE μ S μ' S'/\VR μ' (.slice i 0 len (some cap) z) (.slice (some r.a) len cap)/\i<S'.n/\S'.h.get i=some (.cells ((List.range r.n).map r.g) (Eo W r.a) false):=by obtain⟨μ',S',q1,q2,q3,q4,q5⟩:=s.row oG hv;refine⟨μ',S',S.n,q1,q2,?_,by omega,q5⟩;obtain⟨⟨b,off,sp⟩,n,f,g⟩:=r;obtain⟨g1,g2,_⟩:=oG;obtain⟨_,_,_,_,hs,_,_,_⟩:=Ybu g1 g2;simp only at hs hn q4;subst hs;simp only[VR];exact⟨⟨b,off,n⟩,cap,q4,by simp,hl,by simp[hn],fun k hk=>by simpa using hk,fun h=>by cases h⟩
def uO.list(s:uO P W μ S){i:jR}(hi:i.ok W):
  ∃μ' S' v,uO P W μ' S'/\wE μ S μ' S'/\VR μ' v i.val/\Sl S'.h S'.n v (strs i.strs):=by
 cases i with
 |nil=>exact⟨μ,S,.aa,s,wE.refl,by simp[jR.val,VR],Sl.nil⟩
 |emp b=>exact⟨μ,S,.empty,s,wE.refl,by simp[jR.val,VR],.inl ⟨rfl,.inr rfl⟩⟩
 |sl b l c f=>
  obtain⟨h1,h2,h3⟩:=hi;obtain⟨μ',S',k,q1,q2,q3,q4,q5⟩:=s.slice (r:=⟨b,c,fun i=>.string (f i),fun i=>.str (f i).data.toList⟩) ⟨h2,h3,fun _ _=>rfl⟩ (fun i _=>by simp[VR]) (len:=l) (cap:=c) (z:=1) (by simp) h1 (by decide);refine⟨μ',S',_,q1,q2,q3,.inr ⟨k,0,some c,_,_,false,by simp[strs,jR.strs],q4,q5,fun j hj=>?_,by simp[strs,jR.strs];omega,fun k hk=>by simp[strs,jR.strs]at hk ⊢;omega⟩⟩;have pT:j<l:=by simpa[strs,jR.strs]using hj
  simp[strs,jR.strs,pT,show j<c by omega]
inductive TH where
 |nil
 |emp (b:Addr)
 |sl (b:Addr) (l c:Nat) (f:Nat->Int)
def TH.val:TH->Value
 |.nil=>.slice none 0 0
 |.emp b=>.slice (some b) 0 0
 |.sl b l c f=>.slice (some b) l c
def TH.ok(W:World):TH->Prop
 |.sl b l c f=>l<=c/\0<c/\∀i,i<c->W.cell? (b.add i)=some (.int .i64 (f i))
 |_=>True
def uO.lists{P:Program}{W:World}{F:Nat->jR}:∀(n:Nat),(∀i,i<n->(F i).ok W)->∀{μ:Mu} {S:St},uO P W μ S->
  ∃μ' S',uO P W μ' S'/\wE μ S μ' S'/\∀i,i<n->∃v,VR μ' v (F i).val/\Sl S'.h S'.n v (strs (F i).strs)
 |0,_,μ,S,s=>⟨μ,S,s,wE.refl,fun i hi=>absurd hi (by omega)⟩
 |n+1,hF,μ,S,s=>by
  obtain⟨μ1,S1,s1,g1,a1⟩:=uO.lists n (fun i hi=>hF i (by omega)) s
  obtain⟨μ2,S2,v,s2,g2,a2,a3⟩:=s1.list (hF n (by omega))
  refine⟨μ2,S2,s2,g1.trans g2,fun i hi=>?_⟩
  by_cases e:i=n
  ·subst e;exact⟨v,a2,a3⟩
  ·obtain⟨u,b1,b2⟩:=a1 i (by omega)
   exact⟨u,VR.mono g2.mu _ _ b1,b2.ad g2.ad⟩
inductive se where
 |nil
 |emp (b:Addr)
 |sl (b:Addr) (l c:Nat) (F:Nat->jR)
def se.val:se->Value
 |.nil=>.slice none 0 0
 |.emp b=>.slice (some b) 0 0
 |.sl b l c f=>.slice (some b) l c
def se.ok(W:World):se->Prop
 |.sl b l c F=>l<=c/\0<c/\∀i,i<c->W.cell? (b.add i)=some (F i).val/\(F i).ok W
 |_=>True
def se.rows:se->List (List aG)
 |.sl b l c F=>(List.range l).map fun i=>(F i).strs
 |_=>[]
def jR.one{i:jR}:i.val.oneCell'=true:=by cases i<;>rfl
def uO.mat(s:uO P W μ S){m:se}(hm:m.ok W):
  ∃μ' S' v,uO P W μ' S'/\wE μ S μ' S'/\VR μ' v m.val/\∃us:List V,Sl S'.h S'.n v us/\us.length=m.rows.length/\∀(j:Nat) (l:List aG),m.rows[j]?=some l->∃u,us[j]?=some u/\Sl S'.h S'.n u (strs l):=by
 cases m with
 |nil=>exact⟨μ,S,.aa,s,wE.refl,by simp[se.val,VR],[],Sl.nil,rfl,fun j l h=>by simp[se.rows]at h⟩
 |emp b=>exact⟨μ,S,.empty,s,wE.refl,by simp[se.val,VR],[],.inl ⟨rfl,.inr rfl⟩,rfl,fun j l h=>by simp[se.rows]at h⟩
 |sl b l c F=>
  obtain⟨h1,h2,h3⟩:=hm;obtain⟨μ1,S1,s1,g1,a1⟩:=uO.lists c (fun i hi=>(h3 i hi).2) s;have hex:∀i,∃v:V,i<c->VR μ1 v (F i).val/\Sl S1.h S1.n v (strs (F i).strs):=fun i=>by
   by_cases hi:i<c
   ·obtain⟨v,hv⟩:=a1 i hi;exact⟨v,fun _=>hv⟩
   exact⟨.aa,fun h=>absurd h hi⟩
  obtain⟨g,hg⟩:=Classical.axiomOfChoice hex;obtain⟨μ',S',k,q1,q2,q3,q4,q5⟩:=s1.slice (r:=⟨b,c,fun i=>(F i).val,g⟩) ⟨h2,fun i hi=>(h3 i hi).1,fun _ _=>jR.one⟩ (fun i hi=>(hg i hi).1) (len:=l) (cap:=c) (z:=1) (by simp) h1 (by decide);refine⟨μ',S',_,q1,g1.trans q2,q3,(List.range l).map g,.inr ⟨k,0,some c,_,_,false,by simp,q4,q5,fun j hj=>?_,by simp;omega,fun k hk=>by simp at hk ⊢;omega⟩,by simp[se.rows],fun j x hj=>?_⟩
  ·have pT:j<l:=by simpa using hj
   simp[pT,show j<c by omega]
  have IN:j<l:=by apply vC;intro hc;rw[fy (by simp[se.rows];omega)]at hj;cases hj
  have hx:x=(F j).strs:=by simpa[se.rows,IN]using hj.symm
  subst hx;exact⟨g j,by simp[IN],((hg j (by omega)).2).ad q2.ad⟩
open Go Go.ChangeShapes Go.WideShapes Go.RowKit Go.Deep
variable {P:Program}
def i_{t:TypeId}(ht:P.underlying t=some (.slice s))(hs:P.underlying s=some .string)(hc:P.cellsOf s=1){enc:TypeId×Value->H}{c:Value}{x:DataW H×List MemPlace}
  (h:DataW.trod enc P W 0 (fun _=>true) true fuel t [c]=some x):∃i:jR,c=i.val/\i.ok W/\i.strs.length<9223372036854775808:=by
 rcases open_slice1 ht hc h with⟨hc,_⟩|⟨a,len,cap,m,n,Vf,D,Pl,hc,_,hl,cU,hm,_,hx⟩
 ·have nF:c=.slice none 0 0:=by simpa using hc
  exact⟨.nil,nF,trivial,by simp[jR.strs]⟩
 simp only[if_true]at hm;subst hm;have nF:c=.slice (some a) len m:=by simpa using hc
 rcases Gb m with h0|h0
 ·subst h0;have:len=0:=by omega
  subst this;exact⟨.emp a,nF,trivial,by simp[jR.strs]⟩
 refine⟨.sl a len m fun i=>match Vf i with|.string s=>s|_=>⟨#[]⟩,nF,⟨hl,h0,fun i hi=>?_⟩,by simp only[jR.strs,di,List.length_range];unfold maxLen at cU;omega⟩;obtain⟨g1,g2⟩:=hx i hi;obtain⟨s,e0,_⟩:=DataW.trod_string hs g2;simp only[jc,and_true]at e0;rw[g1];simp only[e0]
def Br{t:TypeId}(ht:P.underlying t=some (.slice l))(aE:P.underlying l=some (.slice s))(hs:P.underlying s=some .string)(cM:P.cellsOf l=1)(hc:P.cellsOf s=1){enc:TypeId×Value->H}{c:Value}{x:DataW H×List MemPlace}
  (h:DataW.trod enc P W 0 (fun _=>true) true fuel t [c]=some x):∃m:se,c=m.val/\m.ok W/\m.rows.length<9223372036854775808/\∀r∈m.rows,r.length<9223372036854775808:=by
 rcases open_slice1 ht cM h with⟨hc,_⟩|⟨a,len,cap,m,n,Vf,D,Pl,nF,_,hl,cU,hm,_,hx⟩
 ·have nF:c=.slice none 0 0:=by simpa using hc
  exact⟨.nil,nF,trivial,by simp[se.rows],fun r hr=>by simp[se.rows]at hr⟩
 simp only[if_true]at hm;subst hm;have nF:c=.slice (some a) len m:=by simpa using nF
 rcases Gb m with h0|h0
 ·subst h0;have:len=0:=by omega
  subst this;exact⟨.emp a,nF,trivial,by simp[se.rows],fun r hr=>by simp[se.rows]at hr⟩
 have fj:∀i,∃s:jR,i<m->Vf i=s.val/\s.ok W/\s.strs.length<9223372036854775808:=fun i=>by
  by_cases hi:i<m
  ·obtain⟨g1,g2⟩:=hx i hi;obtain⟨s,q⟩:=i_ aE hs hc g2;exact⟨s,fun _=>q⟩
  exact⟨.nil,fun h=>absurd h hi⟩
 obtain⟨F,hF⟩:=Classical.axiomOfChoice fj;refine⟨.sl a len m F,nF,⟨hl,h0,fun i hi=>⟨?_,(hF i hi).2.1⟩⟩,by simp only[se.rows,di,List.length_range];unfold maxLen at cU;omega,fun r hr=>?_⟩
 ·rw[(hx i hi).1,(hF i hi).1]
 obtain⟨i,hi,rfl⟩:=bK.1 hr;exact(hF i (by have:=iL.1 hi;omega)).2.2
def tl{laid:List (String×DataW Unit)}{name:String}{t e:TypeId}{z:Array Value}
  (hg:P.globalNamed name=some g) (On:(P.globals[g]?).map (·.type)=some t) (ht:P.underlying t=some (.array n e)) (he:P.underlying e=some (.int k)) (hce:P.cellsOf e=1) (hct:P.cellsOf t=n)
  (hf:laid.filter (fun x=>x.1==name)=[(name,Lib.tabData k zs)]) (aE:g<P.globals.size) (hz:((begin P (fun _ _=>0) default).world.heap[g]?).bind Obj.row?=some (z,t))
  (hl:laidMet P laid W) (hs:W.ShapedOpen P):ke P W [(g,.cells (zs.map fun z=>V.int k z) t false)]:=by have h1:=laidMet.filter (fun x=>x.1==name) hl;rw[hf]at h1;have h2:=Lib.tabIs_of_head hg On ht he hce hct h1;unfold Lib.TabIs World.var? at h2;rw[hg]at h2;obtain⟨cs,h3,_⟩:=hs.1 g z t aE hz;simp only[Option.bind_some,h3,au]at h2;subst h2;exact ke.one h3
def xx{t:TypeId}(ht:P.underlying t=some (.slice s))(hs:P.underlying s=some .string)(hc:P.cellsOf s=1){enc:TypeId×Value->H}{c:Value}{x:DataW H×List MemPlace}
  (h:DataW.trod enc P W 0 (fun _=>true) true fuel t [c]=some x):∃i:jR,c=i.val/\i.ok W/\i.strs.length<9223372036854775808/\∀t∈i.strs,t.length<9223372036854775808:=by
 rcases open_slice1 ht hc h with⟨hc,_⟩|⟨a,len,cap,m,n,Vf,D,Pl,hc,_,hl,cU,hm,_,hx⟩
 ·have nF:c=.slice none 0 0:=by simpa using hc
  exact⟨.nil,nF,trivial,by simp[jR.strs],by simp[jR.strs]⟩
 simp only[if_true]at hm;subst hm;have nF:c=.slice (some a) len m:=by simpa using hc
 rcases Gb m with h0|h0
 ·subst h0;have:len=0:=by omega
  subst this;exact⟨.emp a,nF,trivial,by simp[jR.strs],by simp[jR.strs]⟩
 refine⟨.sl a len m fun i=>match Vf i with|.string s=>s|_=>⟨#[]⟩,nF,⟨hl,h0,fun i hi=>?_⟩,by simp only[jR.strs,di,List.length_range];unfold maxLen at cU;omega,fun t ht=>?_⟩
 ·obtain⟨g1,g2⟩:=hx i hi;obtain⟨s,e0,_⟩:=DataW.trod_string hs g2;simp only[jc,and_true]at e0;rw[g1];simp only[e0]
 simp only[jR.strs]at ht;obtain⟨i,hi,rfl⟩:=bK.1 ht;obtain⟨g1,g2⟩:=hx i (by have:=iL.1 hi;omega);obtain⟨s,e0,_,e1⟩:=DataW.trod_string hs g2;simp only[jc,and_true]at e0;simp only[e0];unfold maxLen at e1;rw[Array.length_toList];have:s.data.size=s.size:=rfl;omega
end Go.Mx
