/-lensletref01-/
import Derived.Test.YtjjmkflbfpeagaaGreatDoorLrC
set_option linter.all false
namespace Go.Mx
noncomputable section
open Go Go.Proofs
set_option maxRecDepth 1000000
def A.b49:=A.q Tryz.f49
def A.k49:=@A.kk 49 31 [.tmp 4] A.b49 (by kernel_rfl) rfl
def A.Xa:=A.q Tryz.f18
def A.rR:=A.ql A.Xa 0 []
def A.b18:=(fun x0=>A.qb A.Xa [x0]) A.rR
def A.k18:=@A.kk 18 25 [.tmp 6] A.b18 (by kernel_rfl) rfl
def HU(q:Rat)(d:Nat):Bool:=decide ((aj q.num.natAbs).length<=d)&&decide ((aj q.den).length<=d)
def rS(s:aU)(d:Nat):Bool:=decide (s.length<=2*d+2)&&(decide (aN s=0)&&HU (bu s) d)
def yY(l:List aU)(n d:Nat):Bool:=decide (l.length<=n)&&l.all fun s=>rS s d
def Zss(q:Rat):(aK q.num).length<=(av q).length:=by
 unfold av
 split<;>simp
def Ynx{h:T O}{N d:Nat}{s:aU}(hd:d<=100):Fn A.C 49 [.str s,.int .i64 (d:Nat)] h N (fun u _ _=>u=.bool (rS s d)):=by
 intro w
 rw[aQ,A.k49 (by simp)]
 by_cases c1:s.length<=2*d+2
 ·have c1':(s.length:Int)<=2*(d:Int)+2:=by omega
  simp(disch:=omega) [A.b49,c1']
  refine au (Xb (s:=s) (by omega)) ?_
  rintro _ h1 n1 k1 rfl
  by_cases c2:aN s=0
  ·have et:=(q8 c2).1
   obtain⟨q,hq⟩:∃q,bu s=q:=⟨_,rfl⟩
   rw[hq]at et
   have hl:(av q).length<1000000000:=by rw[et];omega
   have e1:=fun st=>Yj6 (q:=q) (st:=st) hl
   have e2:=fun st=>Ylo (q:=q) (st:=st) hl
   rw[et]at e1 e2
   have xd:(aK q.num).length<1000000000:=by
    have:=Zss q
    rw[et]at this
    omega
   have e3:=fun st=>Yl7 (z:=q.num) (st:=st) xd
   by_cases c3:(aj q.num.natAbs).length<=d
   ·have c3':((aj q.num.natAbs).length:Int)<=(d:Int):=by omega
    by_cases c4:(aj q.den).length<=d
    ·have c4':((aj q.den).length:Int)<=(d:Int):=by omega
     simp[c2,e1,e2,e3,c3',c4',aA]
     exact⟨k1,by simp[rS,HU,c1,c2,hq,c3,c4]⟩
    ·have c4':¬((aj q.den).length:Int)<=(d:Int):=by omega
     simp[c2,e1,e2,e3,c3',c4',aA]
     exact⟨k1,by simp[rS,HU,c1,c2,hq,c3,c4]⟩
   ·have c3':¬((aj q.num.natAbs).length:Int)<=(d:Int):=by omega
    simp[c2,e1,e3,c3',aA]
    exact⟨k1,by simp[rS,HU,c1,c2,hq,c3]⟩
  ·have c2':¬((aN s:Nat):Int)=0:=by omega
   simp[c2,aA]
   exact⟨k1,by simp[rS,c2]⟩
 ·have c1':¬(s.length:Int)<=2*(d:Int)+2:=by omega
  simp(disch:=omega) [A.b49,c1',aA]
  exact⟨ad.refl,by simp[rS,c1]⟩
def Yla{h:T O}{N d n:Nat}{v:V}{l:List aU}(hs:Sl h N v (jV l))(hl:l.length<9223372036854775808)(hd:d<=100)(hn:n<=1000):Fn A.C 18 [v,.int .i64 (n:Nat),.int .i64 (d:Nat)] h N (fun u _ _=>u=.bool (yY l n d)):=by
 intro w
 have hlen:=hs.len
 rw[F4]at hlen
 rw[aQ,A.k18 (by simp)]
 by_cases c0:l.length<=n
 ·have c0':¬(n:Int)<(l.length:Int):=by omega
  have e0:yY l n d=l.all fun s=>rS s d:=by simp[yY,c0]
  rw[e0]
  simp[A.b18,hlen,c0']
  refine cX [(6,7),(12,24)] (fun e r st=>aB N st.w=[]/\ad h N st.h st.n/\((e=.exit 0/\(l.all fun s=>rS s d)=true)\/(e=.ret/\(l.all fun s=>rS s d)=false/\r.get 6=some (.bool false)))) (fun m r st=>aB N st.w=[]/\ad h N st.h st.n/\∃k,k+m=l.length/\r.get 7=some (.int .i64 k)/\(l.all fun s=>rS s d)=((l.drop k).all fun s=>rS s d)) l.length ?_ ?_ ?_
  ·exact⟨by simp,ad.refl,0,by omega,by simp,by simp⟩
  ·rintro m r ⟨H,n1,W⟩ hr hf ⟨hW,hK,k,hk,h7,hz⟩
   simp only at hW hK
   rw[cm]
   cases m with
   |zero=>
    obtain rfl:k=l.length:=by omega
    rw[vS,List.all_nil]at hz
    simp[A.rR,hr,hf,h7,hlen,hW,hK]
    simpa using hz
   |succ m=>
    have aO:k<l.length:=by omega
    have dB:(k:Int)<(l.length:Int):=by omega
    obtain⟨s,Xc⟩:=eA aO
    obtain⟨i,o,cc,e,rw,q1,q2,q3,q4⟩:=(hs.ae hK).at (HV Xc)
    rw[qm Xc,List.all_cons]at hz
    simp[A.rR,hr,h7,hlen,dB,q1,q3,q4]
    refine au (Ynx (s:=s) hd) ?_
    rintro _ h3 n3 k3 rfl
    have kk:=hK.trans k3
    cases vX:rS s d with
    |true=>
     rw[vX,Bool.true_and]at hz
     simp(disch:=first|(simp;done)|omega|rfl) [hf,h7,hW]
     exact⟨m,by omega,kk,k+1,by omega,by simp,by simpa using hz⟩
    |false=>
     rw[vX,Bool.false_and]at hz
     simp[hf,hW]
     exact⟨kk,by simpa using hz⟩
  ·rintro e r ⟨H,n1,W⟩ hr ⟨hW,hK,⟨rfl,hz⟩|⟨rfl,hz,h6⟩⟩
   ·simp only at hW hK
    simp[aA,hW,hK]
    simpa using hz
   ·simp only at hW hK
    simp[h6,aA,hW,hK]
    simpa using hz
 ·have c0':(n:Int)<(l.length:Int):=by omega
  simp[A.b18,hlen,c0',aA]
  exact⟨ad.refl,by simp[yY,c0]⟩
variable {n:Nat}
set_option maxHeartbeats 2000000
def A.b4:=A.q Tryz.f4
def A.k4:=@A.kk 4 31 [.tmp 6] A.b4 (by kernel_rfl) rfl
def A.w6:=A.q Tryz.f6
def A.tS:=A.ql A.w6 0 []
def A.b6:=(fun x0=>A.qb A.w6 [x0]) A.tS
def A.k6:=@A.kk 6 45 [.tmp 4,.tmp 5] A.b6 (by kernel_rfl) rfl
def Zy2{g l p:aU}{D:Int}{dd:Nat}{h:T O}{N:Nat}(hg:g.length<=40)(hl:l.length<=40)(hp:p.length<=40)(hd:dd<=100)(hn:n<=1000):Fn A.C 4 [.agg [.str g,.str l,.str p,.int .i64 D],.int .i64 (dd:Nat),.int .i64 (n:Nat)] h N (fun u _ _=>u=.bool (decide (kj g l p D=0)&&(yY [g,l,p] 3 dd&&decide (D<=(n:Int))))):=by
 intro w
 have kB:ad h N (h.set N (.cells [.str g,.str l,.str p,.int .i64 D] 25 true)) (N+1):=ad.refl.new _
 have b0:(h.set N (.cells [.str g,.str l,.str p,.int .i64 D] 25 true)).get N=some (.cells [.str g,.str l,.str p,.int .i64 D] 25 true):=by simp
 rw[aQ,A.k4 (by simp)]
 simp(disch:=first|(simp;done)|omega|rfl) [-getElem?_pos,A.b4,aL,aM]
 generalize h.set N (.cells [.str g,.str l,.str p,.int .i64 D] 25 true)=HB at*
 refine au (WZ (by omega) (by omega) (by omega)) ?_
 rintro _ h1 n1 k1 rfl
 have tU:=k1.le
 have b1:=(k1.get N (by omega)).trans b0
 have l1:N<n1:=by omega
 simp(disch:=first|(simp;done)|omega|rfl) [-getElem?_pos,hg,hl,hp,b1,l1,aL,aM]
 refine au (Yjq (by omega) (by omega) (by omega)) ?_
 rintro _ h2 n2 k2 rfl
 have nk:=k2.le
 have b2:=(k2.get N (by omega)).trans b1
 have l2:N<n2:=by omega
 by_cases c:kj g l p D=0
 ·have kS:ad h2 n2 (h2.set n2 (.cells [.str g,.str l,.str p] 22 true)) (n2+1):=ad.refl.new _
  have sl3:Sl (h2.set n2 (.cells [.str g,.str l,.str p] 22 true)) (n2+1) (.slice n2 0 3 (some 3) 1) (jV [g,l,p]):=Sl.row (e:=22) (rw:=true) (cp:=some 3) (by omega) (by simp[jV]) rfl (by simp)
  have b3:=(kS.get N (by omega)).trans b2
  simp(disch:=first|(simp;done)|omega|rfl) [-getElem?_pos,c,aW,b2,l2,ag]
  have fl:=Yla (d:=dd) (n:=3) sl3 (by simp) hd (by decide)
  refine au fl ?_
  rintro _ h3 n3 k3 rfl
  have vY:=k3.le
  have b4:=(k3.get N (by omega)).trans b3
  have l3:N<n3:=by omega
  by_cases c2:yY [g,l,p] 3 dd=true
  ·simp(disch:=first|(simp;done)|omega|rfl) [-getElem?_pos,c2,b4,l3,aA]
   exact((kB.trans k1).trans k2).trans (kS.trans k3)
  ·have c2':yY [g,l,p] 3 dd=false:=by simpa using c2
   simp(disch:=first|(simp;done)|omega|rfl) [-getElem?_pos,c2',b4,l3,aA]
   exact((kB.trans k1).trans k2).trans (kS.trans k3)
 ·simp(disch:=first|(simp;done)|omega|rfl) [-getElem?_pos,c,aW,aA]
  exact(kB.trans k1).trans k2
def eH(n:Nat):List Rat:=(List.range n).map fun i=>if i=0 then 1 else 0
def xe{n:Nat}:(eH n).length=n:=by simp[eH]
def MF{j:Nat}(h:j<n):pg (eH n) j=if j=0 then 1 else 0:=by simp[pg,eH,h]
def MG{n:Nat}:∀y∈eH n,Qb 1 y:=fun y hy=>by
 obtain⟨j,_,rfl⟩:=tV.1 hy
 split
 ·exact Qb.int (z:=1) (k:=1) (by decide) (by decide)
 ·exact Qb.int (z:=0) (k:=1) (by decide) (by decide)
def Yjy{h:T O}{N:Nat}{g l p:aU}{D z:Int}(hP:jB h N)(lg:g.length<=40)(ll:l.length<=40)(lp:p.length<=40)(hq:kj g l p D=0->Qb 40 (bu g)/\Qb 40 (bu l)/\Qb 40 (bu p))(hz:0<=z->z<=64->z<=12):Fn A.C 6 [.agg [.str g,.str l,.str p,.int .i64 D],.int .i64 z] h N (fun x h' n'=>Ysc h' n' x (cN [kj g l p D,if z<0\/64<z then 3 else 0]) (eC (bu g) (bu l) (bu p) D.toNat (eH z.toNat))):=by
 intro w
 have e0:zF=[V.int .i64 0,.aa,.int .i64 0,.aa]:=rfl
 have pY:∀c:List V,(V.agg c).cells=c:=fun _=>rfl
 have kB:ad h N (h.set N (.cells [.str g,.str l,.str p,.int .i64 D] 24 true)) (N+1):=ad.refl.new _
 have b0:(h.set N (.cells [.str g,.str l,.str p,.int .i64 D] 24 true)).get N=some (.cells [.str g,.str l,.str p,.int .i64 D] 24 true):=by simp
 rw[aQ,A.k6 (by simp)]
 simp(disch:=first|(simp;done)|omega|rfl) [-getElem?_pos,A.b6,aL,aM]
 generalize h.set N (.cells [.str g,.str l,.str p,.int .i64 D] 24 true)=HB at*
 refine au (WV lg ll lp (by omega)) ?_
 rintro _ h2 n2 k2 rfl
 have hi:n2<n2+1:=by omega
 have kS:ad HB (N+1) (h2.set n2 (.cells [.int .i64 (kj g l p D),.int .i64 (if z<0\/64<z then 3 else 0)] 29 true)) (n2+1):=k2.trans (aG ad.refl _)
 have kD:=kB.trans kS
 have nk:=k2.le
 have b1:=(kS.get N (by omega)).trans b0
 have lN:N<n2+1:=by omega
 simp(disch:=first|(simp;done)|omega|rfl) [-getElem?_pos,QD,ag,cD.cG,WX hi]
 generalize h2.set n2 (.cells [.int .i64 (kj g l p D),.int .i64 (if z<0\/64<z then 3 else 0)] 29 true)=H2 at*
 by_cases c:cN [kj g l p D,if z<0\/64<z then 3 else 0]=0
 ·obtain⟨c1,c2⟩:=CT c
  have Af:0<=z/\z<=64:=by
   split at c2
   ·omega
   ·rename_i hc;omega
  obtain⟨n,rfl⟩:∃n:Nat,z=(n:Int):=⟨z.toNat,by omega⟩
  have zah:n<=12:=by have:=hz Af.1 Af.2;omega
  obtain⟨cg,cl,cp,dn,rfl,dl,_⟩:=Xd c1
  obtain⟨bg,bl,bp⟩:=hq c1
  have eg:=(q8 cg).1
  have el:=(q8 cl).1
  have ep:=(q8 cp).1
  rw[c,Int.toNat_natCast,Int.toNat_natCast]
  simp(disch:=first|(simp;done)|omega|rfl) [-getElem?_pos,c,aW]
  generalize bu g=qg at*
  generalize bu l=ql at*
  generalize bu p=qp at*
  subst eg el ep
  refine cX [(7,8),(21,34)] (fun e r st=>e=.exit 0/\aB N st.w=[]/\ad h N st.h st.n/\N<st.n/\st.h.get N=some (.cells [.str (av qg),.str (av ql),.str (av qp),.int .i64 dn] 24 true)/\∃vu,r.get 7=some vu/\mq st.h st.n vu (eH n)) (fun m r st=>aB N st.w=[]/\ad h N st.h st.n/\N<st.n/\st.h.get N=some (.cells [.str (av qg),.str (av ql),.str (av qp),.int .i64 dn] 24 true)/\∃t,t+m=n/\r.get 21=some (.int .i64 t)/\∃vu,r.get 7=some vu/\∃out:List (List V),Own 4 72 (N+1) st.h st.n vu out/\out.length=t/\(out=[]->vu=.aa)/\(∀c∈out,∀y∈c,NW y)/\∀j,j<t->∃c,out[j]?=some c/\dX st.h st.n c (pg (eH n) j)) n ?_ ?_ ?_
  ·exact⟨by simp,kD,lN,b1,0,by omega,by simp,.aa,by simp,[],Own.nil,rfl,fun _=>rfl,by simp,fun j hj=>by omega⟩
  ·rintro m r ⟨H,n1,W⟩ hr hf ⟨hW,nG,oT,m0,t,ht,HW,vu,h7,out,o1,o2,o3,o4,o5⟩
   simp only at hW nG oT m0 o1 o5
   rw[cm]
   cases m with
   |zero=>
    obtain rfl:t=n:=by omega
    have fu:mq H n1 vu (eH t):=HX o1 (by rw[o2,xe]) fun j hj=>by
     rw[xe]at hj
     obtain⟨c,x1,x2⟩:=o5 j hj
     refine⟨c,x1,fun q hq=>?_⟩
     rw[gH (by rw[xe];exact hj)]at hq
     simp only[ak]at hq
     rw[<-hq];exact x2
    simp(disch:=first|(simp;done)|omega|rfl) [-getElem?_pos,A.tS,hr,hf,HW,h7,hW,nG,oT,m0]
    exact fu
   |succ m=>
    have aO:t<n:=by omega
    have dB:(t:Int)<(n:Int):=by omega
    have F5:=nG.le
    have xf:=o1.lt
    have Xe:=MF aO
    have step:∀(zz:Int),dX H n1 [] 0\/((zz:Int):Rat)=pg (eH n) t->True:=fun _ _=>trivial
    clear step
    by_cases t0:t=0
    ·have QF:(t:Int)=0:=by omega
     have n0:0<n:=by omega
     simp(disch:=first|(simp;done)|omega|rfl) [-getElem?_pos,A.tS,hr,hf,HW,h7,aO,dB,t0,QF,n0,aW]
     refine au (BB (z:=1) (by decide) (by decide)) ?_
     rintro _ h3 n3 k3 u_
     obtain⟨c3,rfl,f3⟩:=u_.c
     obtain⟨g1,g2⟩:=f3.len
     have vY:=k3.le
     have e4:=tW (d:=zF) g1 rfl
     rw[e0]at e4
     have kN:ad h3 n3 (h3.set n3 (.cells c3 72 true)) (n3+1):=ad.refl.new _
     have k3N:=k3.trans kN
     have CW:(h3.set n3 (.cells c3 72 true)).get n3=some (.cells c3 72 true):=by rw[T.ai,aJ rfl]
     obtain⟨QG,h4,w4,j1,j2,j3,j4,jD,j5⟩:=HY (Y:=NW) (x:=c3) (u:=.slice n3 0 1 (some 1) 4) (bytes:=64) (w:=W) (o1.ae k3N) o3 o4 (by omega) (by decide) g1 (by simp only[iQ,St.row,CW,if_true];unfold aM;simp[g1];exact gI (by omega)) (by omega)
     have ow:aB N w4=[]:=QH j2 (by omega) hW
     simp(disch:=first|(simp;done)|omega|rfl) [-getElem?_pos, -aB, -V.cells, -V.one,hr,hf,HW,h7,pY,g1,g2,e4,j1]
     refine⟨m,by omega,ow,⟨by omega,fun i hi=>by rw[j4.get i (by omega) (fun hc=>by have:=xf _ hc;omega),k3N.get i (by omega),nG.get i hi]⟩,by omega,by rw[j4.get N (by omega) (fun hc=>by have:=xf _ hc;omega),k3N.get N (by omega)];exact m0,t+1,by omega,by first|(simp;done)|omega|(simp;omega),out++[c3],j5,by simp[o2],by simp,fun c hc y hy=>?_,fun j hj=>?_⟩
     ·rcases kl.1 hc with hc|hc
      ·exact o4 c hc y hy
      ·simp only[tX]at hc;subst hc;exact f3.CX y hy
     ·by_cases hjt:j<t
      ·obtain⟨c,x1,x2⟩:=o5 j hjt
       exact⟨c,by rw[nj (by omega)];exact x1,(x2.ae k3N).dh j4 jD⟩
      ·obtain rfl:j=t:=by omega
       refine⟨c3,by rw[qu (by omega),o2];simp,?_⟩
       rw[Xe,aJ t0]
       exact(f3.ae kN).dh j4 jD
    ·have QF:¬(t:Int)=0:=by omega
     simp(disch:=first|(simp;done)|omega|rfl) [-getElem?_pos,A.tS,hr,hf,HW,h7,aO,dB,t0,QF,aW]
     refine au (BB (z:=0) (by decide) (by decide)) ?_
     rintro _ h3 n3 k3 u_
     obtain⟨c3,rfl,f3⟩:=u_.c
     obtain⟨g1,g2⟩:=f3.len
     have vY:=k3.le
     have e4:=tW (d:=zF) g1 rfl
     rw[e0]at e4
     have kN:ad h3 n3 (h3.set n3 (.cells c3 72 true)) (n3+1):=ad.refl.new _
     have k3N:=k3.trans kN
     have CW:(h3.set n3 (.cells c3 72 true)).get n3=some (.cells c3 72 true):=by rw[T.ai,aJ rfl]
     obtain⟨QG,h4,w4,j1,j2,j3,j4,jD,j5⟩:=HY (Y:=NW) (x:=c3) (u:=.slice n3 0 1 (some 1) 4) (bytes:=64) (w:=W) (o1.ae k3N) o3 o4 (by omega) (by decide) g1 (by simp only[iQ,St.row,CW,if_true];unfold aM;simp[g1];exact gI (by omega)) (by omega)
     have ow:aB N w4=[]:=QH j2 (by omega) hW
     simp(disch:=first|(simp;done)|omega|rfl) [-getElem?_pos, -aB, -V.cells, -V.one,hr,hf,HW,h7,pY,g1,g2,e4,j1]
     refine⟨m,by omega,ow,⟨by omega,fun i hi=>by rw[j4.get i (by omega) (fun hc=>by have:=xf _ hc;omega),k3N.get i (by omega),nG.get i hi]⟩,by omega,by rw[j4.get N (by omega) (fun hc=>by have:=xf _ hc;omega),k3N.get N (by omega)];exact m0,t+1,by omega,by first|(simp;done)|omega|(simp;omega),out++[c3],j5,by simp[o2],by simp,fun c hc y hy=>?_,fun j hj=>?_⟩
     ·rcases kl.1 hc with hc|hc
      ·exact o4 c hc y hy
      ·simp only[tX]at hc;subst hc;exact f3.CX y hy
     ·by_cases hjt:j<t
      ·obtain⟨c,x1,x2⟩:=o5 j hjt
       exact⟨c,by rw[nj (by omega)];exact x1,(x2.ae k3N).dh j4 jD⟩
      ·obtain rfl:j=t:=by omega
       refine⟨c3,by rw[qu (by omega),o2];simp,?_⟩
       rw[Xe,aq t0]
       exact(f3.ae kN).dh j4 jD
  ·rintro _ r ⟨H,n1,W⟩ hr ⟨rfl,hW,nG,oT,m0,vu,h7,fu⟩
   simp only at hW nG oT m0 fu
   have pl:=@xe n
   have hK:(3*40+3)*(eH n).length+1*((eH n).length+1)+2<=5000:=by rw[pl];omega
   simp(disch:=first|(simp;done)|omega|rfl) [-getElem?_pos,hr,m0,oT,h7,aL,aM]
   refine au (Yjw (K:=5000) fu bg bl bp MG (by decide) dl (by rw[pl];omega) hK (by decide) (by decide)) ?_
   rintro _ h4 n4 k4 ⟨a,b,rfl,fa,fb⟩
   have rl:=@BF qg ql qp dn (eH n) (eH n).length
   have rq:=MH (D:=dn) bg bl bp (@MG n) (k:=(eH n).length) (aR _)
   have K4:=nG.trans k4
   simp(disch:=first|(simp;done)|omega|rfl) [-getElem?_pos,]
   refine au (Xf (k:=5000) fa.1 (hP.ae K4) (by unfold eC;rw[rl.1,pl];omega) (fun y hy=>(rq.2 y hy).mono hK) (by decide)) ?_
   rintro x5 h5 n5 k5 hx5
   rcases hx5 with⟨hb,rfl⟩|⟨hb,a5,rfl,ta⟩
   ·simp(disch:=first|(simp;done)|omega|rfl) [-getElem?_pos,hW,aA]
    exact⟨K4.trans k5,.inr ⟨rfl,.inl ⟨hb,rfl⟩⟩⟩
   ·simp(disch:=first|(simp;done)|omega|rfl) [-getElem?_pos,hW,aA]
    exact⟨K4.trans k5,.inr ⟨rfl,.inr ⟨hb,a5,rfl,ta⟩⟩⟩
 ·simp(disch:=first|(simp;done)|omega|rfl) [-getElem?_pos,c,aW,aA]
  exact⟨kD,.inl ⟨c,rfl⟩⟩
def A.Xg:=A.q Tryz.f80
def A.rT:=A.ql A.Xg 0 []
def A.b80:=(fun x0=>A.qb A.Xg [x0]) A.rT
def A.k80:=@A.kk 80 18 [.tmp 2] A.b80 (by kernel_rfl) rfl
def Yfj{h:T O}{N:Nat}{v:V}{l:List aU}(hs:Sl h N v (jV l))(hl:l.length<100000)(ra:∀s∈l,s.length<=100000):Fn A.C 80 [v] h N (fun u _ _=>u=.int .i64 (qw l)):=by
 intro w
 have hlen:=hs.len
 rw[F4]at hlen
 unfold qw
 rw[aQ,A.k80 (by simp)]
 simp(disch:=first|(simp;done)|omega|rfl) [-getElem?_pos,A.b80,hlen]
 refine cX [(2,2),(4,5),(8,17)] (fun e r st=>aB N st.w=[]/\ad h N st.h st.n/\((e=.exit 0/\cN (l.map (fun s=>((aN s:Nat):Int)))=0)\/(e=.ret/\r.get 2=some (.int .i64 (cN (l.map (fun s=>((aN s:Nat):Int)))))))) (fun m r st=>aB N st.w=[]/\ad h N st.h st.n/\∃k,k+m=l.length/\r.get 8=some (.int .i64 k)/\cN (l.map (fun s=>((aN s:Nat):Int)))=cN ((l.drop k).map (fun s=>((aN s:Nat):Int)))) l.length ?_ ?_ ?_
 ·exact⟨by simp,ad.refl,0,by omega,by simp,by simp⟩
 ·rintro m r ⟨H,n1,W⟩ hr jU ⟨hW,hK,k,hk,h7,hz⟩
  simp only at hW hK
  rw[cm]
  cases m with
  |zero=>
   obtain rfl:k=l.length:=by omega
   rw[vS,rV,cN]at hz
   simp(disch:=first|(simp;done)|omega|rfl) [-getElem?_pos,A.rT,hr,jU,h7,hz,hW,hK]
  |succ m=>
   have aO:k<l.length:=by omega
   obtain⟨s,hc⟩:=eA aO
   obtain⟨i,o,cc,e,rw,q1,q2,q3,q4⟩:=(hs.ae hK).at (HV hc)
   rw[qm hc,km,cN]at hz
   have ew:(k:Int)<(l.length:Int):=by omega
   simp(disch:=first|(simp;done)|omega|rfl) [-getElem?_pos,A.rT,hr,jU,h7,ew,aO,hlen,q1,q2,q3,q4]
   refine au (Qx (ra s (fW hc))) ?_
   rintro _ h3 n3 k3 rfl
   have kk:=hK.trans k3
   by_cases h0:aN s=0
   ·rw[aJ (by omega)]at hz
    simp(disch:=first|(simp;done)|omega|rfl) [-getElem?_pos,hr,jU,h7,h0,hW,aW]
    exact⟨m,by omega,kk,k+1,by omega,by simp,by simpa using hz⟩
   ·rw[aq (by omega)]at hz
    simp(disch:=first|(simp;done)|omega|rfl) [-getElem?_pos,hr,jU,h7,h0,hW,aW,hz]
    exact kk
 ·rintro _ r ⟨H,n1,W⟩ hr ⟨hW,hK,⟨rfl,hz⟩|⟨rfl,h2⟩⟩
  ·simp only at hW hK
   simp(disch:=first|(simp;done)|omega|rfl) [-getElem?_pos,hr,hz,aA,hW,hK]
  ·simp only at hW hK
   simp(disch:=first|(simp;done)|omega|rfl) [-getElem?_pos,hr,h2,aA,hW,hK]
def Yjc{a b:Rat}:cY (a-b).num<0↔a<b:=by
 rw[Ac]
 constructor<;>intro h<;>grind
def Ymv{a b:Rat}:0<cY (a-b).num↔b<a:=by
 have e:b<a↔0<a-b:=by constructor<;>intro h<;>grind
 have e2:0<a-b↔0<(a-b).num:=by rw[Rat.lt_iff];simp
 rw[e,e2]
 unfold cY
 split
 ·constructor<;>intro h<;>omega
 ·split<;>constructor<;>intro h<;>omega
variable {D:Nat} {d:List Rat} {g l:Rat}
def BG(g l p:Rat)(D:Nat)(d:List Rat)(k:Nat):Rat:=(dS g l p D d k).2.2
def qx(g l p:Rat)(D:Nat)(d:List Rat)(k:Nat):Rat:=pg d k-BG g l p D d k
def xg(g l p:Rat)(D:Nat)(d:List Rat)(E k:Nat):Rat:=if E<=k then qx g l p D d (k-E) else 0
def QI{g l p:Rat}{D:Nat}{d:List Rat}:∀{k j:Nat},j<k->pg (dS g l p D d k).1 j=qx g l p D d j/\pg (dS g l p D d k).2.1 j=BG g l p D d j
 |0,j,h=>by omega
 |k+1,j,h=>by
  have rl:=@BF g l p D d k
  have e1:(dS g l p D d (k+1)).1=(dS g l p D d k).1++[pg d k-(dS g l p D d k).2.2]:=rfl
  have e2:(dS g l p D d (k+1)).2.1=(dS g l p D d k).2.1++[(dS g l p D d k).2.2]:=rfl
  rw[e1,e2]
  by_cases hj:j<k
  ·have ih:=QI (g:=g) (l:=l) (p:=p) (D:=D) (d:=d) hj
   unfold pg at ih ⊢
   rw[nj (by omega),nj (by omega)]
   exact ih
  ·obtain rfl:j=k:=by omega
   unfold pg
   rw[qu (by omega),qu (by omega),rl.1,rl.2,Nat.sub_self]
   exact⟨rfl,rfl⟩
def MI{p:Rat}:BG g l p D d 0=0:=rfl
def QJ{p:Rat}{k:Nat}:BG g l p D d (k+1)=l*BG g l p D d k+(g*xg g l p D d D k+p*(xg g l p D d D k-xg g l p D d (D+1) k)):=by
 have e:∀E,qy ((dS g l p D d k).1++[pg d k-(dS g l p D d k).2.2]) E k=xg g l p D d E k:=fun E=>by
  unfold qy xg
  split
  ·exact(QI (g:=g) (l:=l) (p:=p) (D:=D) (d:=d) (k:=k+1) (j:=k-E) (by omega)).1
  ·rfl
 show l*(dS g l p D d k).2.2+(g*qy _ D k+p*(qy _ D k-qy _ (D+1) k))=_
 rw[e,e]
 rfl
def Ydt{p:Rat}{k:Nat}(hk:k<=D+2):pg (iR g l p D) (D+2-k)=(if k=0 then 1 else 0)+(if k=1 then -l else 0)+(if k=D+1 then g+p else 0)+(if k=D+2 then -p else 0):=by
 unfold iR pg
 by_cases h2:k=D+2
 ·subst h2
  rw[show D+2-(D+2)=0 by omega,nF (by simp)]
  rw[aq (by omega),aq (by omega),aq (by omega),aJ rfl]
  simp only[BH];grind
 ·rw[eB (by omega)]
  by_cases h1:k=D+1
  ·subst h1
   rw[show D+2-(D+1)=1 by omega,nF (by simp)]
   simp only[BH]
   by_cases hD:D=0
   ·subst hD
    simp
    grind
   ·rw[aq hD,aq (show ¬D+1=0 by omega),aq (show ¬D+1=1 by omega),aJ True.intro,aq (show ¬D+1=D+2 by omega)]
    grind
  ·rw[eB (by omega),aq h1,aq h2]
   by_cases ew:k=1
   ·subst ew
    rw[show D+2-1=D+1 by omega,nF (by simp),aq (by omega),aJ rfl]
    simp only[BH];grind
   ·rw[eB (by omega),aq ew]
    by_cases rb:k=0
    ·subst rb
     rw[Nat.sub_zero,nF (by simp),aJ rfl]
     simp only[BH];grind
    ·rw[eB (by omega),aq rb]
     have aO:D+2-k<D+3:=by omega
     simp[aO]
     grind
def Xh{q:Rat}:0<=dL q:=by unfold dL;split<;>grind
def Xi{a b:Rat}:dL (a*b)=dL a*dL b:=by
 unfold dL
 by_cases ha:a<0
 ·by_cases hb:b<0
  ·have h:=Rat.mul_pos (show (0:Rat)< -a by grind) (show (0:Rat)< -b by grind)
   rw[aJ ha,aJ hb,aq (by grind)]
   grind
  ·have h:=Rat.mul_nonneg (show (0:Rat)<= -a by grind) (show (0:Rat)<=b by grind)
   rw[aJ ha,aq hb]
   split<;>grind
 ·by_cases hb:b<0
  ·have h:=Rat.mul_nonneg (show (0:Rat)<=a by grind) (show (0:Rat)<= -b by grind)
   rw[aq ha,aJ hb]
   split<;>grind
  ·have h:=Rat.mul_nonneg (show (0:Rat)<=a by grind) (show (0:Rat)<=b by grind)
   rw[aq ha,aq hb,aq (by grind)]
def Xj{p q:List Rat}(hl:p.length=q.length)(h:∀i,i<p.length->pg p i=pg q i):p=q:=by
 apply nX 
 intro i
 by_cases hi:i<p.length
 ·rw[gH hi,gH (by omega),h i hi]
 ·rw[jC (by omega),jC (by omega)]
def Yi7{g l:Rat}:MJ g l 0 0=true↔dL (l-g)<1:=by
 have e:iR g l 0 0=[0,g-l,1]:=by
  refine Xj (by rw[(@MK g l 0 0).1];rfl) fun i hi=>?_
  rw[(@MK g l 0 0).1]at hi
  obtain⟨k,rfl,hk⟩:∃k,i=0+2-k/\k<=0+2:=⟨2-i,by omega,by omega⟩
  rw[Ydt hk]
  match k,hk with
  |0,_=>simp[pg];grind
  |1,_=>simp[pg];grind
  |2,_=>simp[pg];grind
 have r1:iz [0,g-l,1]=0:=by simp[iz,pg];grind
 have n1:oU [0,g-l,1]=[g-l,1]:=by
  refine Xj (by rw[HZ];rfl) fun i hi=>?_
  rw[HZ]at hi
  rw[QK hi,r1]
  match i,hi with
  |0,_=>simp[pg];grind
  |1,_=>simp[pg];grind
 have r2:iz [g-l,1]=g-l:=by simp[iz,pg];grind
 have ab:dL (l-g)=dL (g-l):=by unfold dL;split<;>split<;>grind
 have z:¬1<=dL 0:=by decide+kernel
 rw[MJ,e,Zip,aq (by simp),r1,aq z,n1,Zip,aq (by simp),r2,ab]
 by_cases h:1<=dL (g-l)
 ·rw[aJ h]
  constructor
  ·intro h';cases h'
  ·intro h';grind
 ·rw[aq h]
  have:Zip 1 (oU [g-l,1])=true:=Xk (by rw[HZ];simp)
  rw[this]
  exact⟨fun _=>by grind,fun _=>rfl⟩
def QL(E:Int)(b:Bool):V:=if E≠0 then .aY [.bool false,.int .i64 E] else .aY [.bool b,.int .i64 0]
def A.b8:=A.q Tryz.f8
def A.k8:=@A.kk 8 13 [.tmp 2,.tmp 3] A.b8 (by kernel_rfl) rfl
def Zxj{h:T O}{N k:Nat}{u:V}{a:List aU}(hu:Sl h N u (jV a))(la:a.length<100000)(fa:∀s∈a,s.length<=20000)(hk:1<=k)(ew:k<=4000)(hq:rf a=0->(∀q∈jK a,Qb k q)/\k*5^(a.length-1)<=400000000):Fn A.C 8 [u] h N (fun x _ _=>x=QL (rf a) (Zip a.length (jK a))):=by
 intro w
 rw[aQ,A.k8 (by simp)]
 simp(disch:=first|(simp;done)|omega|rfl) [-getElem?_pos,A.b8]
 refine au (Ym5 hu la fun s hs=>by have:=fa s hs;omega) ?_
 rintro _ h1 n1 k1 rfl
 by_cases c:rf a=0
 ·obtain⟨a0,a1,a2,a3⟩:=Yqd c
  obtain⟨q1,q2⟩:=hq c
  have ta:=Yjr a2
  have lra:=@Yfe a
  have CY:Sl h1 n1 u (tx (jK a)):=by rw[<-ta];exact hu.ae k1
  rw[c]
  rw[<-lra]at a0 a1 a3 q2 ⊢
  generalize jK a=p at*
  simp(disch:=first|(simp;done)|omega|rfl) [-getElem?_pos,aW]
  refine au (Yfd CY (by omega) q1 ew) ?_
  rintro _ h2 n2 k2 ⟨rfl,rq⟩
  simp(disch:=first|(simp;done)|omega|rfl) [-getElem?_pos,]
  refine au (Yaa (k:=k) rq.W9 (by omega) (by omega) a3 q1 hk q2) ?_
  rintro _ h3 n3 k3 rfl
  simp(disch:=first|(simp;done)|omega|rfl) [-getElem?_pos,aA,QL]
  exact(k1.trans k2).trans k3
 ·simp(disch:=first|(simp;done)|omega|rfl) [-getElem?_pos,c,aW,QL,aA]
  exact k1
def Mm(z:Int):Int:=if z<1\/2<z then 3 else 0
variable {K:Nat}
structure H9 (A B:Nat) (q:Rat):Prop where
 num:q.num.natAbs<=A
 den:q.den<=B
def H9.txt{A B a b:Nat}{q:Rat}(h:H9 A B q)(hA:A<10^a)(hB:B<10^b)(ha:0<a)(hb:0<b):(av q).length<=a+b+2:=by
 have h1:=(yZ (n:=q.num.natAbs) ha).2 (mr h.num hA)
 have h2:=(yZ (n:=q.den) hb).2 (mr h.den hB)
 have h3:(aK q.num).length<=(aj q.num.natAbs).length+1:=by
  unfold aK
  split<;>simp
 unfold av
 split
 ·omega
 ·simp
  omega
def H9.big{A B:Nat}{q:Rat}(h:H9 A B q)(hA:A<10^600)(hB:B<10^600):vZ q=false:=by
 have h1:=(yZ (n:=q.num.natAbs) (k:=600) (by decide)).2 (mr h.num hA)
 have h2:=(yZ (n:=q.den) (k:=600) (by decide)).2 (mr h.den hB)
 unfold vZ
 simp
 omega
def Yq1{c:Nat}(h:K<=3*c):2^K<=8^c:=qz (nY (by decide) h) (Nat.le_of_eq (Nat.pow_mul 2 3 c))
def Yo4{c:Nat}(h:c≠0):8^c<10^c:=Nat.pow_lt_pow_left (by decide) h
def Ym1{c:Nat}{q:Rat}(h:Qb K q)(hK:K<=3*c)(hc:c≠0):q.num.natAbs<10^c/\q.den<10^c:=by
 have e:=mr (Yq1 hK) (Yo4 hc)
 exact⟨Nat.lt_trans h.1 e,Nat.lt_trans h.2 e⟩
def vc{q:Rat}(h:Qb K q)(hK:K<=1800):vZ q=false/\(av q).length<=1202:=by
 obtain⟨e1,e2⟩:=Ym1 (c:=600) h (by omega) (by decide)
 have hb:H9 q.num.natAbs q.den q:=⟨aR _,aR _⟩
 exact⟨hb.big e1 e2,by have:=hb.txt (a:=600) (b:=600) e1 e2 (by decide) (by decide);omega⟩
def ML:∀{l:List Int},(∀x∈l,x=0)->cN l=0
 |[],_=>rfl
 |x::l,h=>by
  rw[h x (by simp)]
  exact ML (l:=l) fun y hy=>h y (by simp[hy])
def Xl{s:aU}(h:rS s 4=true):aN s=0/\s.length<=10/\Qb 14 (bu s):=by
 simp only[rS,HU,iS,decide_eq_true_eq]at h
 obtain⟨h0,h1,h2,h3⟩:=h
 rw[yZ (by decide)]at h2 h3
 have e:(10:Nat)^4<2^14:=by decide
 exact⟨h1,by omega,by omega,by omega⟩
variable {K dn:Nat} {h:T O} {qp x:Rat}
def Xm{q:Rat}(h:Qb K q)(hK:K<=1800):aN (av q)=0:=by rw[Ia,(vc h hK).1];rfl
def F6{q:Rat}(h:Qb 40 q):(av q).length<=40:=by
 have e:(2:Nat)^40<10^13:=by decide
 have h1:(aj q.num.natAbs).length<=13:=(yZ (by decide)).2 (by have:=h.1;omega)
 have h2:(aj q.den).length<=13:=(yZ (by decide)).2 (by have:=h.2;omega)
 have h3:(aK q.num).length<=14:=by
  unfold aK
  split
  ·simp
   omega
  ·omega
 unfold av
 split
 ·omega
 ·simp
  omega
def QM{q:Rat}(h:Qb K q)(hK:K<=1800)(h0:0<=q):iG (av q)=0:=by
 rw[iG,aJ (Xm h hK),v_,aq (Rat.not_lt.2 h0)]
def Xn{ql:Rat}(hx:Qb K x)(hl:Qb K ql)(hp:Qb K qp)(hK:K<=1800)(x0:0<=x)(l0:0<=ql)(l1:ql<=1)(p0:0<=qp)(hd:dn<=6):kj (av x) (av ql) (av qp) dn=0:=by
 have h0:∀y:Int,cN [0,y]=y:=fun y=>by
  by_cases h:y=0<;>simp[cN,h]
 rw[kj,QM hx hK x0,QM hl hK l0,QM hp hK p0,v_,aq (Rat.not_lt.2 l1),aq (show ¬((dn:Int)<0\/6<(dn:Int)) by omega)]
 rfl
def Yoe{l:List Rat}(h:∀q∈l,Qb K q)(hK:K<=1800):vd l=false:=by
 unfold vd
 rw[List.any_eq_false]
 exact fun q hq=>by rw[(vc (h q hq) hK).1];decide
def Xo{l:List Rat}:jK (l.map av)=l:=by
 unfold jK
 rw[List.map_map]
 conv=>rhs;rw[<-List.map_id l]
 exact List.map_congr_left fun q _=>v_ q
def Zzh{ql:Rat}(hx:Qb K x)(hl:Qb K ql)(hp:Qb K qp)(h1:1<=K)(hK:K<=500)(hd:dn<=6):rf ((iR x ql qp dn).map av)=0:=by
 have cl:=@MK x ql qp dn
 have qc:=MM (d:=dn) hx hl hp h1
 have ca:qw ((iR x ql qp dn).map av)=0:=by
  unfold qw
  refine ML fun y hy=>?_
  obtain⟨s,hs,rfl⟩:=tV.1 hy
  obtain⟨q,hq,rfl⟩:=tV.1 hs
  rw[Xm (qc q hq) (by omega)]
  rfl
 have tY:((iR x ql qp dn).map av).length=dn+3:=by rw[List.length_map,cl.1]
 have e:((iR x ql qp dn).map av)[dn+3-1]?=some (av 1):=by
  rw[ko,gH (by rw[cl.1];omega)]
  show some (av (pg _ (dn+2)))=_
  rw[cl.2]
 rw[rf,aq (by omega),aq (by omega),aJ ca,tY,e,aq]
 intro h
 have:av 1=av 0:=by rw[MN];simpa using h
 exact absurd (Xp this) (by decide)
def Fn.imp{C:Cx}{f:Nat}{args:List V}{n:Nat}{P Q:V->T O->Nat->Prop}(hf:Fn C f args h n P)(hi:∀v h' n',P v h' n'->Q v h' n'):Fn C f args h n Q:=fun w=>(hf w).mono fun v st=>by
 rintro⟨hw,hk,hp⟩
 exact⟨hw,hk,hi _ _ _ hp⟩
def Zzi{N:Nat}{ql:Rat}(hP:jB h N)(hx:Qb 40 x)(bl:Qb 40 ql)(bp:Qb 40 qp)(x0:0<=x)(l0:0<=ql)(l1:ql<=1)(p0:0<=qp)(hd:dn<=6):Fn A.C 7 [.agg [.str (av x),.str (av ql),.str (av qp),.int .i64 dn]] h N (fun v h' n'=>∃y,v=.aY [y,.int .i64 0]/\Sl h' n' y (jV ((iR x ql qp dn).map av))):=by
 have ck:=Xn (dn:=dn) hx bl bp (by decide) x0 l0 l1 p0 hd
 have qc:=MM (d:=dn) hx bl bp (by decide)
 refine Fn.imp (Zzj hP (n:=40) (F6 hx) (F6 bl) (F6 bp) (by decide)) fun v h' n' hv=>?_
 rw[v_,v_,v_,Int.toNat_natCast,Yoe qc (by decide)]at hv
 rcases hv with⟨c,_⟩|⟨_,⟨c,_⟩|⟨_,y,hy,ht⟩⟩
 ·exact absurd ck c
 ·cases c
 ·exact⟨y,hy,ht.1⟩
def Yex{N:Nat}{y:V}{ql:Rat}(hy:Sl h N y (jV ((iR x ql qp dn).map av)))(hx:Qb 40 x)(bl:Qb 40 ql)(bp:Qb 40 qp)(hd:dn<=2):Fn A.C 8 [y] h N (fun v _ _=>v=.aY [.bool (MJ x ql qp dn),.int .i64 0]):=by
 have qc:=MM (d:=dn) hx bl bp (by decide)
 have cl:=@MK x ql qp dn
 have cc:=Zzh (dn:=dn) hx bl bp (by decide) (by decide) (by omega)
 have hl:((iR x ql qp dn).map av).length=dn+3:=by rw[List.length_map,cl.1]
 have hp:5^(dn+3-1)<=5^4:=nY (by decide) (by omega)
 have h5:(5:Nat)^4=625:=by decide
 refine Fn.imp (Zxj (k:=3*40+2) hy (by omega) (fun s hs=>?_) (by decide) (by decide) (fun _=>?_)) fun v h' n' hv=>?_
 ·obtain⟨q,hq,rfl⟩:=tV.1 hs
  have:=(vc (qc q hq) (by decide)).2
  omega
 ·rw[Xo,hl]
  exact⟨qc,by omega⟩
 ·rw[hv,cc,Xo,hl]
  rfl
end
end Go.Mx
