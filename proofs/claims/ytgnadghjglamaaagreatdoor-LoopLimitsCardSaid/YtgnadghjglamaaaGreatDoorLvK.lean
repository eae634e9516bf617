/-loop-/
import Derived.Test.YtgnadghjglamaaaGreatDoorLvH
set_option linter.all false
set_option maxHeartbeats 8000000
namespace Go.Mx
open Go Go.Proofs
set_option maxRecDepth 1000000
structure CpI (h:T O) (N:Nat) (l:List (Rat×Rat)) (k m:Nat) (r:T V) (st:St):Prop where
 w:aD N st.w=[]
 ah:ae h N st.h st.n
 ex:∃(v:V) (p:List (Rat×Rat)),r.get 7=some v/\BpS st.h st.n v p/\p.length=m+1/\m+1<=l.length/\(∀x∈p,QbI (k*5^(l.length-1-m)) x)/\Zs8 (m+1) p=Zs8 l.length l
noncomputable def Zpk(E:Int)(b:Bool):V:=if E≠0 then .aS [.bool false,.int .i64 E] else .aS [.bool b,.int .i64 0]
def Yvp{h:T O}{N k:Nat}{g l' p' slo shi:aU}{D':Int}(lg:g.length<=40)(ll:l'.length<=40)(lp:p'.length<=40)(s1:slo.length<=40)(s2:shi.length<=40)(hk:1<=k)(ew:k<=1000)(hB:cY [ki g l' p' D',Zfp slo shi]=0->∃(l p lo hi:Rat) (D:Nat),l'=ax l/\p'=ax p/\slo=ax lo/\shi=ax hi/\D'=(D:Int)/\bJ l'=l/\bJ p'=p/\bJ slo=lo/\bJ shi=hi/\Qb k l/\Qb k p/\Qb k lo/\Qb k hi/\D<=6/\(4*k+3)*5^(D+2)<=40000000):Fn A.C 32 [.agg [.str g,.str l',.str p',.int .i64 D'],.agg [.str slo,.str shi]] h N (fun x _ _=>x=Zpk (cY [ki g l' p' D',Zfp slo shi]) (Zs8 (D'.toNat+3) (zgs (bJ l') (bJ p') D'.toNat (bJ slo) (bJ shi)))):=by
 intro w;have lY:∀c:List V,(V.agg c).cells=c:=fun _=>rfl;have z0:zF=[V.int .i64 0,.aa,.int .i64 0,.aa]:=rfl;have kB:ae h N ((h.set N (.cells [.str g,.str l',.str p',.int .i64 D'] 24 true)).set (N+1) (.cells [.str slo,.str shi] 52 true)) (N+1+1):=(ae.refl.new _).new _;have b0:((h.set N (.cells [.str g,.str l',.str p',.int .i64 D'] 24 true)).set (N+1) (.cells [.str slo,.str shi] 52 true)).get N=some (.cells [.str g,.str l',.str p',.int .i64 D'] 24 true):=by simp
 have b1:((h.set N (.cells [.str g,.str l',.str p',.int .i64 D'] 24 true)).set (N+1) (.cells [.str slo,.str shi] 52 true)).get (N+1)=some (.cells [.str slo,.str shi] 52 true):=by simp
 rw[aV,A.k32 (by simp)];simp(disch:=first|(simp;done)|omega|rfl) [-getElem?_pos,A.b32,aJ,aE];generalize (h.set N (.cells [.str g,.str l',.str p',.int .i64 D'] 24 true)).set (N+1) (.cells [.str slo,.str shi] 52 true)=HB at*;refine az (Ydh lg ll lp (by omega)) ?_;rintro _ h1 n1 k1 rfl;have l1:=k1.le;have b01:=(k1.get N (by omega)).trans b0;have b11:=(k1.get (N+1) (by omega)).trans b1;have e01:N<n1:=by omega
 have RG:N+1<n1:=by omega
 simp(disch:=first|(simp;done)|omega|rfl) [-getElem?_pos,b11,RG,aJ,aE];refine az (Yjb s1 s2 (by omega)) ?_;rintro _ h2 n2 k2 rfl;have l2:=k2.le;have Bu:n2<n2+1:=by omega
 have kS:=aI (ae.refl (h:=h2) (n:=n2)) (.cells [.int .i64 (ki g l' p' D'),.int .i64 (Zfp slo shi)] 31 true);have b03:=(kS.get N (by omega)).trans ((k2.get N (by omega)).trans b01);have b13:=(kS.get (N+1) (by omega)).trans ((k2.get (N+1) (by omega)).trans b11);have K3:=((kB.trans k1).trans k2).trans kS;have e03:N<n2+1:=by omega
 have e13:N+1<n2+1:=by omega
 simp(disch:=first|(simp;done)|omega|rfl) [-getElem?_pos,ag,bU.bZ,Lk Bu];generalize h2.set n2 (.cells [.int .i64 (ki g l' p' D'),.int .i64 (Zfp slo shi)] 31 true)=H3 at*;by_cases c:cY [ki g l' p' D',Zfp slo shi]=0
 ·obtain⟨l,p,lo,hi,D,rfl,rfl,rfl,rfl,rfl,el,ep,elo,ehi,ql,qp,q1,q2,hD,gO⟩:=hB c;rw[c,el,ep,elo,ehi,Int.toNat_natCast];have q0:Qb k 0:=(Qb.int (z:=0) (k:=1) (by decide) (by decide)).mono hk;simp(disch:=first|(simp;done)|omega|rfl) [-getElem?_pos,c,aL,b03,e03,aJ,aE];refine az (xj (z:=0) (by decide) (by decide)) ?_;rintro v4 h4 n4 k4 f4;simp(disch:=first|(simp;done)|omega|rfl) [-getElem?_pos,];refine az (Ydf (gs:=g) (g:=0) f4 q0 ql qp (by omega) hD) ?_;rintro v5 h5 n5 k5 t5;have k45:=k4.trans k5;have l45:=k45.le;have K5:=K3.trans k45;have b15:=(k45.get (N+1) e13).trans b13;have e15:N+1<n5:=by omega
  have lv:=t5.1.len;have cl:=(@Zi1 0 l p D).1;have qB:=Yv9 (D:=D) ql qp q1 q2 hk;have bl:=@Ypp l p lo hi D;have eB:zgs l p D lo hi=(Ztk (zgn 0 l p D)).set 1 (pg (zgn 0 l p D) 1+lo,pg (zgn 0 l p D) 1+hi):=rfl;have qc:=Dv (d:=D) q0 ql qp hk;rw[cl]at lv;have sl:=@Zlu (zgn 0 l p D);rw[cl]at sl;have sg:∀j,j<D+3->pgI (Ztk (zgn 0 l p D)) j=(pg (zgn 0 l p D) j,pg (zgn 0 l p D) j):=fun j hj=>by unfold pgI Ztk;rw[mL,eL (by omega)];rfl
  generalize zgn 0 l p D=base at*;simp(disch:=first|(simp;done)|omega|rfl) [-getElem?_pos,lv];refine c_ [(7,7),(9,9),(28,37)] (fun e r st=>e=.exit 0/\aD N st.w=[]/\ae h5 n5 st.h st.n/\∃u out,r.get 7=some u/\BpO n5 st.h st.n u (pgI (Ztk base)) (D+3) out) (fun m r st=>aD N st.w=[]/\ae h5 n5 st.h st.n/\∃t,t+m=D+3/\r.get 28=some (.int .i64 t)/\∃u out,r.get 7=some u/\BpO n5 st.h st.n u (pgI (Ztk base)) t out) (D+3) ?_ ?_ ?_
  ·exact⟨by simp,ae.refl,0,by omega,by simp,.aa,[],by simp,BpO.zero⟩
  ·rintro m r ⟨H,n,W⟩ hr hf ⟨hW,hK,t,ht,h28,u,out,h7,ou⟩;simp only at hW hK ou;rw[dk];have Nj:=hK.le;cases m with
   |zero=>
    obtain rfl:t=D+3:=by omega
    simp(disch:=first|(simp;done)|omega|rfl) [-getElem?_pos,A.qC,hr,hf,h28,h7,lv,hW,hK];exact⟨out,ou⟩
   |succ m=>
    have aP:t<D+3:=by omega
    have dE:(t:Int)<(D:Int)+3:=by omega
    have fm:(t:Int)<((D+3:Nat):Int):=by omega
    obtain⟨i0,o0,y0,z0',q0',cx,a1,a2,a3,a4,a5⟩:=(t5.ah hK).1.at (eL (p:=base) (i:=t) (by omega));obtain⟨f1,f2⟩:=a5.len;have ex:=rT (d:=zF) f1 rfl;rw[z0]at ex;have sx:=tI f1;have kX:ae H n ((H.set n (.cells [.int .i64 0,.aa,.int .i64 0,.aa] 110 true)).set n (.cells cx 110 true)) (n+1):=(ae.refl.new _).set (aZ _);simp(disch:=first|(simp;done)|omega|rfl) [-getElem?_pos, -V.cells, -V.one,A.qC,hr,hf,h28,h7,aP,dE,fm,lv,a1,a2,a3,a4,lY,f1,f2,bE,ex,sx,aJ];generalize (H.set n (.cells [.int .i64 0,.aa,.int .i64 0,.aa] 110 true)).set n (.cells cx 110 true)=HX at*;refine az (Ydg (a5.ah kX).fc) ?_;rintro _ h9 n9 k9 hx9;obtain⟨c9,rfl,C9⟩:=hx9.c;obtain⟨g1,g2,g3⟩:=C9.len;have e8:ag [V.int .i64 0,.aa,.int .i64 0,.aa,.int .i64 0,.aa,.int .i64 0,.aa] 0 c9=c9:=Yxy g1 rfl;have K9:=kX.trans k9;have le9:=K9.le;rw[<-sg t aP]at C9;obtain⟨u',h',w',j1,j2,j3,j4⟩:=(ou.ah K9).push (w:=n::W) (by omega) (by omega) C9;have nN:¬n<N:=by have:=K5.le;omega
    have ow:aD N w'=[]:=Ir j2 (by have:=K5.le;omega) (by simp[aD,nN,hW]);simp(disch:=first|(simp;done)|omega|rfl) [-getElem?_pos, -aD, -V.cells, -V.one,hr,hf,h28,h7,lY,g1,g2,e8,j1];refine⟨m,by omega,ow,(hK.trans K9).then ⟨by have:=j3.le;omega,fun i hi=>j3.get i (by omega)⟩,t+1,by omega,by simp,out++[c9],j4⟩
  rintro _ r ⟨H,n,W⟩ hr ⟨rfl,hW,hK,u,out,h7,ou⟩;simp only at hW hK ou;have Nj:=hK.le;have ou':BpO n5 H n u (pgI (Ztk base)) (Ztk base).length out:=by rw[sl];exact ou
  obtain⟨i,FL,cA,e1,e2,e3,e4,e5,e6,e7,e8⟩:=ou'.zdG (by omega);have lu:=ou.own.len;rw[ou.len]at lu;rw[sg 1 (by omega)]at e6;obtain⟨Ds,It,gA3⟩:=e6.len;have b16:=(hK.get (N+1) e15).trans b15;have l16:N+1<n:=by omega
  have c1:(1:Int)<(D:Int)+3:=by omega
  have c2:(1:Int)<((D+3:Nat):Int):=by omega
  have c3:1<D+3:=by omega
  have Sd:=qc _ (eZ (eL (p:=base) (i:=1) (by omega)));simp(disch:=first|(simp;done)|omega|rfl) [-getElem?_pos, -V.cells, -V.one,hr,h7,lu,e1,e3,e4,e5,e7,b16,l16,c1,c2,c3,aJ];refine az (Df q1 (by omega)) ?_;rintro _ h6 n6 k6 ⟨a1,x1,a2,x2,rfl,r1,r2⟩;have b17:=(k6.get (N+1) l16).trans b16;have l17:N+1<n6:=by have:=k6.le;omega
  simp(disch:=first|(simp;done)|omega|rfl) [-getElem?_pos, -V.cells, -V.one,hr,b17,l17];refine az (Df q2 (by omega)) ?_;rintro _ h7' n7 k7 ⟨a3,x3,a4,x4,rfl,r3,r4⟩;have k67:=k6.trans k7;have o1:=de r1;have o2:=de r2;have o3:=de r3;have o4:=de r4;unfold V.one at o1 o2 o3 o4;have hG:Bc h7' n7 (.agg [.int .i64 a1,x1,.int .i64 a2,x2,.int .i64 a3,x3,.int .i64 a4,x4]) lo hi:=⟨a1,x1,a2,x2,a3,x3,a4,x4,rfl,r1.ah k7,r2.ah k7,r3,r4⟩;simp(disch:=first|(simp;done)|omega|rfl) [-getElem?_pos,o1,o2,o3,o4,ag,bU.bZ];refine az (Yxd (K:=4*k+3) (e6.ah k67) hG (Sd.mono (by omega)) (Sd.mono (by omega)) (q1.mono (by omega)) (q2.mono (by omega)) (by omega)) ?_;rintro _ h8 n8 k8 hx8;obtain⟨c8,rfl,hc8⟩:=hx8.c;obtain⟨f81,f82,f83⟩:=hc8.len;have k68:=k67.trans k8;have zeX:=k68.le;have e48:=(k68.get i e3).trans e4;have e38:i<n8:=by omega
  have e98:=e8 h8 n8 c8 _ k68 hc8;rw[<-eB]at e98;have iN:¬i<N:=by have:=K5.le;omega
  have K8:ae h N (h8.set i (.cells (ag FL 8 c8) 128 true)) n8:=((K5.trans hK).trans k68).set (by omega);simp(disch:=first|(simp;done)|omega|rfl) [-getElem?_pos, -V.cells, -V.one,hr,h7,lu,e1,e38,e48,e7,c1,c2,c3,lY,f81,f82,bE];generalize h8.set i (.cells (ag FL 8 c8) 128 true)=H9 at*;generalize zgs l p D lo hi=P0 at*;refine c_ [(4,5),(7,7),(10,14),(51,95)] (fun e r st=>aD N st.w=[]/\ae h N st.h st.n/\((e=.exit 2/\Zs8 (D+3) P0=true)\/(e=.ret/\r.get 4=some (.bool false)/\r.get 5=some (.int .i64 0)/\Zs8 (D+3) P0=false))) (CpI h N P0 (4*k+3)) (D+2) ?_ ?_ ?_
  ·refine⟨by simp[iN,hW],K8,u,P0,by simp[h7],e98,by rw[bl],by rw[bl];omega,fun x hx=>?_,by rw[bl]⟩;rw[bl,show D+3-1-(D+2)=0 by omega,AH,tE];exact qB x hx
  ·rintro m r' ⟨H,n1,W⟩ rQ yV ⟨CY,hK',v,p,r7,hp,pl,Lg,pq,ps⟩;simp only at CY hK' hp;have lp:=hp.len;rw[pl]at lp;rw[bl]at Lg pq ps;rw[dk];cases m with
   |zero=> rw[Yx2 (by omega)]at ps;simp(disch:=first|(simp;done)|omega|rfl) [-getElem?_pos,A.zgA,rQ,yV,r7,lp,CY,hK',<-ps]
   |succ m=>
    obtain⟨i0,o0,x0,y0,w0,cs,a1,a2,a3,a4,a5⟩:=hp.at (j:=0) (by omega);obtain⟨i1,o1,x1,y1,w1,ct,d1,d2,d3,d4,d5⟩:=hp.at (j:=m+1) (by omega);rw[a1]at d1;obtain⟨rfl,rfl⟩:i0=i1/\o0=o1:=by simpa using d1
    rw[a3]at d3;obtain⟨rfl,rfl,rfl⟩:x0=x1/\y0=y1/\w0=w1:=by simpa using d3
    rw[Nat.zero_mul,tF]at a4;obtain⟨fs1,fs2,fs3⟩:=a5.len;obtain⟨ft1,ft2,ft3⟩:=d5.len;have uz:(4*k+3)*5^(D+3-1-(m+1))*5=(4*k+3)*5^(D+3-1-m):=by rw[uA,<-fO];congr 2;omega
    have Lh:(4*k+3)*5^(D+3-1-m)<=40000000:=sF (je _ (pc (by omega) (by omega))) gO;have hBk:1<=(4*k+3)*5^(D+3-1-(m+1)):=tH (by omega) (vU (by omega));generalize (4*k+3)*5^(D+3-1-(m+1))=KB at*;have qs:=pq _ (eZ (Zdt (p:=p) (i:=0) (by omega)));have qt:=pq _ (eZ (Zdt (p:=p) (i:=m+1) (by omega)));have qn:=Yar hBk pq;have g1:(1:Int)<((m+1+1:Nat):Int):=by omega
    have g2:(1:Int)<(m:Int)+1+1:=by omega
    have g3:((m:Int)+1+1-1).toNat=m+1:=by omega
    have g4:(0:Int)<(m:Int)+1+1:=by omega
    have g5:(0:Int)<=(m:Int)+1+1-1:=by omega
    have g6:(m:Int)+1+1-1<(m:Int)+1+1:=by omega
    have zdD:=hK'.le;have kS:ae H n1 ((((H.set n1 (.cells [.int .i64 0,.aa,.int .i64 0,.aa,.int .i64 0,.aa,.int .i64 0,.aa] 128 true)).set (n1+1) (.cells [.int .i64 0,.aa,.int .i64 0,.aa,.int .i64 0,.aa,.int .i64 0,.aa] 128 true)).set n1 (.cells cs 128 true)).set (n1+1) (.cells ct 128 true)) (n1+1+1):=(((ae.refl.new _).new _).set (by omega)).set (by omega);have s0:((((H.set n1 (.cells [.int .i64 0,.aa,.int .i64 0,.aa,.int .i64 0,.aa,.int .i64 0,.aa] 128 true)).set (n1+1) (.cells [.int .i64 0,.aa,.int .i64 0,.aa,.int .i64 0,.aa,.int .i64 0,.aa] 128 true)).set n1 (.cells cs 128 true)).set (n1+1) (.cells ct 128 true)).get n1=some (.cells cs 128 true):=by simp
    have s1:((((H.set n1 (.cells [.int .i64 0,.aa,.int .i64 0,.aa,.int .i64 0,.aa,.int .i64 0,.aa] 128 true)).set (n1+1) (.cells [.int .i64 0,.aa,.int .i64 0,.aa,.int .i64 0,.aa,.int .i64 0,.aa] 128 true)).set n1 (.cells cs 128 true)).set (n1+1) (.cells ct 128 true)).get (n1+1)=some (.cells ct 128 true):=by simp
    have ss:=Yx1 fs1;have st_:=Yx1 ft1;have es:ag [V.int .i64 0,.aa,.int .i64 0,.aa,.int .i64 0,.aa,.int .i64 0,.aa] 0 cs=cs:=Yxy fs1 rfl;have et:ag [V.int .i64 0,.aa,.int .i64 0,.aa,.int .i64 0,.aa,.int .i64 0,.aa] 0 ct=ct:=Yxy ft1 rfl;have NH:¬i0=n1:=by omega
    have Sf:¬i0=n1+1:=by omega
    have Sh:¬n1=i0:=by omega
    have NM:¬n1+1=i0:=by omega
    simp(disch:=first|(simp;done)|omega|rfl) [-getElem?_pos, -V.cells, -V.one,A.zgA,rQ,yV,r7,lp,a1,a2,a3,a4,d4,g1,g2,g3,g4,g5,g6,bE,aJ,NH,Sf,Sh,NM,bU.bZ,lY,fs1,fs2,ft1,ft2,es,et];refine(NA (by simp[iG,bU,bU.go,bU.bZ,FP.free,Nat.testBit,NH,Sf,Sh,NM])).2 ?_;simp(disch:=first|(simp;done)|omega|rfl) [-getElem?_pos, -V.cells, -V.one,ss,st_,aJ];generalize ((((H.set n1 (.cells [.int .i64 0,.aa,.int .i64 0,.aa,.int .i64 0,.aa,.int .i64 0,.aa] 128 true)).set (n1+1) (.cells [.int .i64 0,.aa,.int .i64 0,.aa,.int .i64 0,.aa,.int .i64 0,.aa] 128 true)).set n1 (.cells cs 128 true)).set (n1+1) (.cells ct 128 true))=HS at*;refine az (Yvz (a5.ah kS) qs.1 qs.2 (by omega)) ?_;rintro v7 h7' n7' k7' f7;have s17:=(k7'.get (n1+1) (by omega)).trans s1;have zdI:n1+1<n7':=by have:=k7'.le;omega
    simp(disch:=first|(simp;done)|omega|rfl) [-getElem?_pos, -V.cells, -V.one,s17,zdI,st_,aJ];refine az (Yoe ((d5.ah kS).ah k7') qt.1 qt.2 (by omega)) ?_;rintro v8 h8' n8' k8' f8;have qm:=Ya2 qs.1 qs.2;have qn':=Zyn hBk qt.1 qt.2;have wm:=qm.iC;have wn:=qn'.iC;simp(disch:=first|(simp;done)|omega|rfl) [-getElem?_pos, -V.cells, -V.one];refine az (Iq (f7.ah k8') f8 (by omega) (by omega) (by omega) (by omega)) ?_;rintro _ h9 n9 k9 rfl;have k79:=(k7'.trans k8').trans k9;have l79:=k79.le;have s09:=(k79.get n1 (by omega)).trans s0;have s19:=(k79.get (n1+1) (by omega)).trans s1;have K9:=(hK'.trans kS).trans k79;have NN:=(hp.ah kS).ah k79;have bs9:=(a5.ah kS).ah k79;have bt9:=(d5.ah kS).ah k79;have ec:df ((Zjp (pgI p 0).1 (pgI p 0).2).num*((Za5 (pgI p (m+1)).1 (pgI p (m+1)).2).den:Nat)-(Za5 (pgI p (m+1)).1 (pgI p (m+1)).2).num*((Zjp (pgI p 0).1 (pgI p 0).2).den:Nat))<0↔¬Za5 (pgI p (m+1)).1 (pgI p (m+1)).2<=Zjp (pgI p 0).1 (pgI p 0).2:=by rw[Ymg,Rat.not_le]
    generalize df ((Zjp (pgI p 0).1 (pgI p 0).2).num*((Za5 (pgI p (m+1)).1 (pgI p (m+1)).2).den:Nat)-(Za5 (pgI p (m+1)).1 (pgI p (m+1)).2).num*((Zjp (pgI p 0).1 (pgI p 0).2).den:Nat))=cz at*;have ps2:Zs8 (m+1+1) p=if Za5 (pgI p (m+1)).1 (pgI p (m+1)).2<=Zjp (pgI p 0).1 (pgI p 0).2 then false else Zs8 (m+1) (Zd8 p):=by
     conv=>lhs;unfold Zs8
     rw[aA (by omega),pl,show m+1+1-1=m+1 from rfl]
    rw[ps2]at ps;have Sp:¬n1<N:=by omega
    have nN2:¬n1+1<N:=by omega
    by_cases cc:Za5 (pgI p (m+1)).1 (pgI p (m+1)).2<=Zjp (pgI p 0).1 (pgI p 0).2
    ·have c1':0<=cz:=by apply Int.not_lt.1;intro hx;exact(ec.1 hx) cc
     rw[aQ cc]at ps;simp(disch:=first|(simp;done)|omega|rfl) [-getElem?_pos,rQ,yV,c1',Sp,nN2,CY,<-ps];exact K9
    have c1':¬0<=cz:=by have:=ec.2 cc;omega
    rw[aA cc]at ps;have nl:(Zd8 p).length=m+1:=by rw[Zwp,pl];rfl
    simp(disch:=first|(simp;done)|omega|rfl) [-getElem?_pos,rQ,yV,c1'];refine c_ [(13,14),(71,94)] (fun e r st=>e=.exit 4/\aD N st.w=[]/\ae h9 n9 st.h st.n/\∃u,r.get 13=some u/\BpS st.h st.n u (Zd8 p)) (fun i r st=>aD N st.w=[]/\ae h9 n9 st.h st.n/\∃t u out,t+i=m+1/\r.get 71=some (.int .i64 t)/\r.get 13=some u/\BpO n9 st.h st.n u (pgI (Zd8 p)) t out) (m+1) ?_ ?_ ?_
    ·exact⟨by simp[aD,Sp,nN2,CY],ae.refl,0,.aa,[],by omega,by simp,by simp,BpO.zero⟩
    ·rintro i2 r2 ⟨HI,nI,WI⟩ bK jv ⟨hWI,hKI,t,u2,oJ,hti,h71,Ix,ouI⟩;simp only at hWI hKI ouI;rw[dk];have leI:=hKI.le;cases i2 with
     |zero=>
      obtain rfl:t=m+1:=by omega
      rw[<-nl]at ouI;simp(disch:=first|(simp;done)|omega|rfl) [-getElem?_pos,A.zf7,bK,jv,rQ,yV,h71,Ix,hWI,hKI];exact ouI.fin
     |succ i2=>
      have aP:t<m+1:=by omega
      have dE:(t:Int)<(m:Int)+1:=by omega
      have hpI:=NN.ah hKI;have Ik:=hpI.len;rw[pl]at Ik;obtain⟨j0,u0,y0',z0',w0',d0,b1',b2',b3',b4',b5'⟩:=hpI.at (j:=t+1) (by omega);obtain⟨j1,u1,NJ,z1,w1',dd1,NI,La,AK,MM,x5'⟩:=hpI.at (j:=m-t) (by omega);rw[b1']at NI;obtain⟨rfl,rfl⟩:j0=j1/\u0=u1:=by simpa using NI
      rw[b3']at AK;obtain⟨rfl,rfl,rfl⟩:y0'=NJ/\z0'=z1/\w0'=w1':=by simpa using AK
      have NT:(0:Int)<=(t:Int)+1:=by omega
      have Se:(t:Int)+1<(m:Int)+1+1:=by omega
      have Sv:((t:Int)+1).toNat=t+1:=by omega
      have i4':(0:Int)<=(m:Int)-t:=by omega
      have i5':(m:Int)-t<(m:Int)+1+1:=by omega
      have i6':((m:Int)-t).toNat=m-t:=by omega
      have i7':(t:Int)<=(m:Int):=by omega
      have sI0:=(hKI.get n1 (by omega)).trans s09;have sI1:=(hKI.get (n1+1) (by omega)).trans s19;have lI1:n1+1<nI:=by omega
      have lI0:n1<nI:=by omega
      have qx:=pq _ (eZ (Zdt (p:=p) (i:=t+1) (by omega)));have qy:=pq _ (eZ (Zdt (p:=p) (i:=m-t) (by omega)));have qX:=Zjh qt qx;have qY:=Zjh qs qy;simp(disch:=first|(simp;done)|omega|rfl) [-getElem?_pos, -V.cells, -V.one,A.zf7,bK,jv,rQ,yV,r7,h71,Ix,dE,Ik,b1',b2',b3',b4',MM,sI0,sI1,lI0,lI1,NT,Se,Sv,i4',i5',i6',i7',aJ,ss,st_];refine az (Ya5 (bt9.ah hKI) b5' qt.1 qt.2 qx.1 qx.2 (by omega)) ?_;rintro vA hA nA kA hvA;have b3A:=(kA.get j0 b2').trans b3';have lA:=kA.le;have b2A:j0<nA:=by omega
      have sA0:=(kA.get n1 lI0).trans sI0;have lA0:n1<nA:=by omega
      simp(disch:=first|(simp;done)|omega|rfl) [-getElem?_pos, -V.cells, -V.one,bK,jv,rQ,yV,r7,h71,Ix,dE,Ik,b1',b2A,b3A,b4',MM,sA0,lA0,NT,Se,Sv,i4',i5',i6',i7',aJ,ss,st_];refine az (Ya5 ((bs9.ah hKI).ah kA) (x5'.ah kA) qs.1 qs.2 qy.1 qy.2 (by omega)) ?_;rintro vC hC nC kC hvC;simp(disch:=first|(simp;done)|omega|rfl) [-getElem?_pos, -V.cells, -V.one];refine az (Yxc (hvA.ah kC) hvC qX.1 qX.2 qY.1 qY.2 (by omega)) ?_;rintro _ hE nE kE hvE;obtain⟨cE,rfl,hcE⟩:=hvE.c;obtain⟨fE1,fE2,fE3⟩:=hcE.len;have Il:=(kA.trans kC).trans kE;have lE:=Il.le;have en:pgI (Zd8 p) t=(Ywo (pgI p (m+1)).1 (pgI p (m+1)).2 (pgI p (t+1)).1 (pgI p (t+1)).2-Yws (pgI p 0).1 (pgI p 0).2 (pgI p (m-t)).1 (pgI p (m-t)).2,Yws (pgI p (m+1)).1 (pgI p (m+1)).2 (pgI p (t+1)).1 (pgI p (t+1)).2-Ywo (pgI p 0).1 (pgI p 0).2 (pgI p (m-t)).1 (pgI p (m-t)).2):=by rw[Zw5 (by omega),Yxz,pl,show m+1+1-1=m+1 from rfl,show m+1-1-t=m-t by omega];rfl
      rw[<-en]at hcE;have e8':ag [V.int .i64 0,.aa,.int .i64 0,.aa,.int .i64 0,.aa,.int .i64 0,.aa] 0 cE=cE:=Yxy fE1 rfl;obtain⟨u',h',w',j1',j2',uL,j4'⟩:=(ouI.ah Il).push (w:=[]) (by omega) (by omega) hcE;have ow:aD N w'=[]:=Ir j2' (by omega) rfl;simp(disch:=first|(simp;done)|omega|rfl) [-getElem?_pos, -aD, -V.cells, -V.one,bK,jv,rQ,yV,h71,Ix,lY,fE1,fE2,e8',j1'];exact⟨i2,by omega,Yjn ow hWI,(hKI.trans Il).then ⟨by have:=uL.le;omega,fun i hi=>uL.get i (by omega)⟩,t+1,by omega,by simp,_,j4'⟩
    rintro _ r2 ⟨HI,nI,WI⟩ bK ⟨rfl,hWI,hKI,u2,Ix,fD⟩;simp only at hWI hKI fD;have BI:=yV.inner (D':=[(13,14),(71,94)]) rfl (fun hh=>by simpa using hh) bK;rw[gk KB 5]at uz;simp(disch:=first|(simp;done)|omega|rfl) [-getElem?_pos,bK,Ix,rQ,yV];exact⟨by simpa using BI,m,by omega,hWI,K9.trans hKI,u2,Zd8 p,by simp,fD,nl,by rw[bl];omega,by rw[bl,<-uz];exact qn,by rw[bl];exact ps⟩
  rintro _ r' ⟨H,n1,W⟩ rQ ⟨CY,hK',⟨rfl,hc⟩|⟨rfl,h4,h5,hc⟩⟩
  ·simp only at CY hK';rw[hc];simp(disch:=first|(simp;done)|omega|rfl) [-getElem?_pos,rQ,aF,CY,hK',Zpk]
  simp only at CY hK';rw[hc];simp(disch:=first|(simp;done)|omega|rfl) [-getElem?_pos,rQ,h4,h5,aF,CY,hK',Zpk]
 have e1:Zpk (cY [ki g l' p' D',Zfp slo shi]) (Zs8 (D'.toNat+3) (zgs (bJ l') (bJ p') D'.toNat (bJ slo) (bJ shi)))=.aS [.bool false,.int .i64 (cY [ki g l' p' D',Zfp slo shi])]:=by unfold Zpk;rw[aQ c]
 rw[e1];simp(disch:=first|(simp;done)|omega|rfl) [-getElem?_pos,c,aL,aF];exact K3
def Xbk{s:aU}(h:uK s 4=true):aY s=0/\s.length<=10/\Qb 14 (bJ s):=by
 simp only[uK,NP,ji,decide_eq_true_eq]at h;obtain⟨h0,h1,h2,h3⟩:=h;rw[Sx (by decide)]at h2 h3;have e:(10:Nat)^4<2^14:=by decide
 exact⟨h1,by omega,by omega,by omega⟩
variable {D:Int} {a b g l:aU}
noncomputable def A.b35:=A.q Tryz.f35
def A.c35:A.F 35=some ⟨25,[.tmp 8],A.b35⟩:=by kernel_rfl
def A.k35:=@A.kk 35 _ _ _ A.c35 rfl
def A.zf8:cF:=sr [lN 119 4 7,mv 120 1,c2 121 37 119 120,mv 18 121] (.seq (sr [mv 122 9,mv 123 10,mv 124 18,ge 125 (.call (fq 36) [tq 122,tq 123,.const (.int .i64 0),tq 124]),ge 126 (.un .not (tq 125))] (cd 126 (sr [ge 6 (.pe (.const (.bool false)))] (.ret)) (.skip))) (.seq (sr [lN 127 4 7,c1 128 39 127,c1 129 38 128,ge 130 (.un .not (tq 129))] (cd 130 (sr [mv 131 11,mv 132 12,ge 133 (.call (fq 36) [tq 131,tq 132,.const (.int .i64 15),(.const (.str []))]),mv 6 133] (.ret)) (.skip))) (.seq (sr [fa 134 0 3,ld 135 134,c1 136 40 135] (cd 136 (sr [mv 137 11,mv 138 12,ge 139 (.call (fq 36) [tq 137,tq 138,.const (.int .i64 6),(.const (.str []))]),mv 6 139] (.ret)) (.skip))) (sr [mv 140 11,mv 141 12,mv 142 18,fa 143 0 3,ld 144 143,c2 145 41 142 144,ge 146 (.call (fq 36) [tq 140,tq 141,.const (.int .i64 0),tq 145]),mv 6 146] (.ret)))))
def A.zgz:cF:=sr [ge 17 (.pe (.const (.bool false)))] (.seq (sr [mv 96 16,ei 97 96 0] (cd 97 (.reg [lN 98 4 7,lN 99 2 5,c2 100 34 98 99,mv 17 100]) (.skip))) (.seq (sr [mv 101 13,mv 102 14,mv 103 16,mv 104 17,ge 105 (.call (fq 35) [tq 101,tq 102,tq 103,tq 104]),ge 106 (.un .not (tq 105))] (cd 106 (sr [ge 6 (.pe (.const (.bool false)))] (.ret)) (.skip))) (.seq (sr [mv 107 15,ni 108 107 0] (cd 108 (sr [mv 109 9,mv 110 10,mv 111 15,ge 112 (.call (fq 36) [tq 109,tq 110,tq 111,(.const (.str []))]),mv 113 112,mg 114 11 113,mg 115 12 113,mg 116 15 113,gy 117 113 (.call (fq 36) [tq 114,tq 115,tq 116,(.const (.str []))]),pf 118 113 117,mv 6 118] (.ret)) (.skip)))
 A.zf8)))
def A.zf9:cF:=sr [lN 69 4 3,mv 70 1,c2 71 30 69 70,mv 68 71,xt 72 68 0,xt 73 68 1,mv 9 72,mv 10 73] (sr [lN 75 4 3,mv 76 1,c2 77 31 75 76,mv 74 77,xt 78 74 0,xt 79 74 1,mv 11 78,mv 12 79] (sr [lN 81 4 3,lN 82 2 5,c2 83 32 81 82,mv 80 83,xt 84 80 0,xt 85 80 1,mv 13 84,mv 14 85] (sr [mv 86 8,mv 87 1,ge 88 (.call (fq 33) [tq 87,.const (.int .i64 1),.const (.int .i64 2)]),ge 89 (.kP 3 1 2 [.int .i64 0,.int .i64 0] [(0,1,(tq 86)),(1,1,(tq 88))]),c1 90 21 89,mv 15 90] (sr [mv 91 8,lN 92 2 5,c1 93 28 92,ge 94 (.kP 3 1 2 [.int .i64 0,.int .i64 0] [(0,1,(tq 91)),(1,1,(tq 93))]),c1 95 21 94,mv 16 95]
 A.zgz))))
def A.b5:cF:=sr [bx 3 24 0,bx 5 52 2,ge 6 (.pe (.const (.bool false)))] (sr [lN 19 4 3,ge 7 (.alloc [(.str []),(.str []),(.str []),.int .i64 0] 26),gn (.store 4 (tq 7) (tq 19))] (.seq (sr [ge 20 (.call (fq 7) []),ge 21 (.un .not (tq 20)),mv 22 21,gz 23 22 (.load (some 4) (tq 7)),gz 24 22 (.call (fq 18) [tq 23]),gz 25 22 (.un .not (tq 24)),pt 26 22 25,mv 27 26,gz 28 27 (.sO 0 (tq 5)),gz 29 27 (.load none (tq 28)),gz 30 27 (.len 0 (tq 29)),gz 31 27 (.bin .gtr (.node []) false (tq 30) (kq 40)),pt 32 27 31,mv 33 32,gz 34 33 (.sO 1 (tq 5)),gz 35 33 (.load none (tq 34)),gz 36 33 (.len 0 (tq 35)),gz 37 33 (.bin .gtr (.node []) false (tq 36) (kq 40)),pt 38 33 37] (cd 38 (sr [ge 39 (.call (fq 7) []),mv 6 39] (.ret)) (.skip))) (sr [lN 40 4 7,c1 41 20 40,mv 8 41] (.seq (sr [mv 42 8,ei 43 42 0,mv 44 43,gy 45 44 (.load (some 4) (tq 7)),gy 46 44 (.call (fq 8) [tq 45,.const (.int .i64 4),.const (.int .i64 3)]),gy 47 44 (.un .not (tq 46)),mg 48 47 44,mh 49 1 48,gz 50 48 (.bin .eql (.dm .int) true (tq 49) (kq 2)),mh 51 50 48,gy 52 51 (.sO 3 (tq 3)),gy 53 51 (.load none (tq 52)),gy 54 51 (.bin .gtr (.node []) false (tq 53) (kq 1)),gz 55 48 (.pick (tq 51) (tq 54) (.const (.bool false))),gy 56 44 (.pick (tq 48) (.const (.bool true)) (tq 55)),pf 57 44 56,mv 58 57,gz 59 58 (.load (some 2) (tq 5)),gz 60 58 (.call (fq 28) [tq 59]),gz 61 58 (.bin .eql (.dm .int) true (tq 60) (kq 0)),mh 62 61 58,gy 63 62 (.load (some 2) (tq 5)),gy 64 62 (.call (fq 29) [tq 63,.const (.int .i64 4)]),gy 65 62 (.un .not (tq 64)),gz 66 58 (.pick (tq 62) (tq 65) (.const (.bool false))),pt 67 58 66] (cd 67 (sr [ge 6 (.pe (.const (.bool true)))] (.ret)) (.skip)))
 A.zf9))))
def A.c5:A.F 5=some ⟨147,[.tmp 6],A.b5⟩:=by kernel_rfl
def A.k5:=@A.kk 5 _ _ _ A.c5 rfl
def Xa7{a e:V}{E:Int}{b c:Bool}{st:St}(hx:V.aS [a,e]=Zpk E b)(hc:E=0->c=b):A.C.call (.func 35 [] []) [a,e,.int .i64 E,.bool c] st=some (.bool true,st):=by
 apply Call.eq;unfold Zpk at hx;rw[aV,A.k35 (by simp)];by_cases h:E=0
 ·subst h;obtain rfl:=hc rfl;simp only[V.aS.injEq,gC,and_true,ne_eq,not_true_eq_false,if_false]at hx;obtain⟨rfl,rfl⟩:=hx;simp(disch:=first|(simp;done)|omega|rfl) [-getElem?_pos,A.b35,aL]
 rw[aQ h]at hx;simp only[V.aS.injEq,gC,and_true]at hx;obtain⟨rfl,rfl⟩:=hx;simp(disch:=first|(simp;done)|omega|rfl) [-getElem?_pos,A.b35,aL,h]
def Zpk.two{x:V}{E:Int}{b:Bool}(h:x=Zpk E b):∃a e,x=.aS [a,e]:=by unfold Zpk at h;split at h<;>exact⟨_,_,h⟩
def Xbm(M:Nat)(e:Ex)(fr:Fr)(st:St)(H:T O)(n:Nat):Prop:=e=.ret/\∃r,fr=⟨r,147,[]⟩/\r.get 6=some (.bool true)/\aD M st.w=[]/\ae H n st.h st.n
def Xbm.trans{H H2:T O}{M n n2:Nat}{e:Ex}{fr:Fr}{st:St}(s:Xbm M e fr st H2 n2)(k:ae H n H2 n2):Xbm M e fr st H n:=by obtain⟨h1,r,h2,h3,h4,h5⟩:=s;exact⟨h1,r,h2,h3,h4,k.trans h5⟩
structure LiH (g l p:aU) (D:Int) (a b:aU):Prop where
 lg:g.length<=40
 ll:l.length<=40
 lp:p.length<=40
 s1:a.length<=40
 s2:b.length<=40
 f:ki g l p D=0->pD [g,l,p] 3 4=true/\D<=3
 fs:Zfp a b=0->Zow a b 4=true
def LiH.q{p:aU}(L:LiH g l p D a b)(c:ki g l p D=0):Qb 14 (bJ g)/\Qb 14 (bJ l)/\Qb 14 (bJ p):=by obtain⟨cf,_⟩:=L.f c;simp only[pD,List.all_cons,List.all_nil,Bool.and_true,ji]at cf;obtain⟨_,f1,f2,f3⟩:=cf;exact⟨(Xbk f1).2.2,(Xbk f2).2.2,(Xbk f3).2.2⟩
def LiH.lm{p:aU}(L:LiH g l p D a b):Ns g l p D:=
 ⟨L.lg,L.ll,L.lp,fun c=>⟨(L.q c).1.mono (by decide),(L.q c).2.1.mono (by decide),(L.q c).2.2.mono (by decide)⟩⟩
def LiH.ce{p:aU}(L:LiH g l p D a b)(h:cY [ki g l p D,Zfp a b]=0):∃(ql qp lo hi:Rat) (dn:Nat),l=ax ql/\p=ax qp/\a=ax lo/\b=ax hi/\D=(dn:Int)/\bJ l=ql/\bJ p=qp/\bJ a=lo/\bJ b=hi/\Qb 14 ql/\Qb 14 qp/\Qb 14 lo/\Qb 14 hi/\dn<=6/\(4*14+3)*5^(dn+2)<=40000000:=by
 obtain⟨c1,c2⟩:=R4 h;obtain⟨cg,cl,cp,dn,rfl,dl,_⟩:=Ypj c1;obtain⟨_,q2,q3⟩:=L.q c1;have fs:=L.fs c2;simp only[Zow,ji]at fs;obtain⟨f1,f2,_⟩:=fs;have d3:=(L.f c1).2;have hp:5^(dn+2)<=5^5:=pc (by decide) (by omega);have h5:(5:Nat)^5=3125:=by decide
 exact⟨bJ l,bJ p,bJ a,bJ b,dn,(BN cl).1.symm,(BN cp).1.symm,(BN (Xbk f1).1).1.symm,(BN (Xbk f2).1).1.symm,rfl,rfl,rfl,rfl,rfl,q2,q3,(Xbk f1).2.2,(Xbk f2).2.2,dl,by omega⟩
def Xbq{H:T O}{M n B C n1 n2:Nat}{W:List Nat}{r:T V}{m1 e1 m2 e2:V}{g l p:aU}{D z:Int}(L:Ns g l p D)(c:Zk9 g l p D z=0)(i1:Zk9 g l p D z=0->Zo1 (stU (bJ l) (bJ p) D.toNat (10^z.toNat)) n1/\n1<=10001)(R1:Yv5 (.aS [m1,e1]) (Zk9 g l p D z) ((n1:Rat)/((10^z.toNat:Nat):Rat)))(i2:Xay g l p D z=0->Zo1 (stU (bJ l) (bJ p) D.toNat (10^z.toNat)) n2/\n2<=10001)(R2:Yv5 (.aS [m2,e2]) (Xay g l p D z) ((n2:Rat)/((10^z.toNat:Nat):Rat)/bJ g))(hB:H.get B=some (.cells [.str g,.str l,.str p,.int .i64 D] 26 true))(IA:B<n)(hC:H.get C=some (.cells [.str g,.str l,.str p,.int .i64 D] 24 true))(Sy:C<n)(hW:aD M W=[])(r1:r.get 1=some (.int .i64 z))(r3:r.get 3=some (.ptr C 0))(r7:r.get 7=some (.ptr B 0))(r9:r.get 9=some m1)(oS:r.get 10=some e1)(pE:r.get 11=some m2)(Kb:r.get 12=some e2):
  Code A.C none A.zf8 ⟨r,147,[]⟩ ⟨H,n,W⟩ (fun e fr st=>Xbm M e fr st H n):=by
 rw[dk];have hs:stE g l p D z=if Dj (bJ g) (bJ l) (bJ p) D.toNat=true then 0 else 15:=by rw[stE,aQ c]
 have hm:Xay g l p D z=cY [stE g l p D z,if g=[48] then 6 else 0]:=rfl;rw[hs]at hm;obtain⟨qg,ql,qp,dn,m,rfl,rfl,rfl,rfl,rfl,hn,y1,y2,eg,el,ep,bg,bl,bp,l1,p0⟩:=L.go c;obtain⟨i1,b1⟩:=i1 c;rw[c]at R1;rw[eg,el,ep,Int.toNat_natCast]at hm;rw[el,ep,Int.toNat_natCast,Int.toNat_natCast]at i1 i2;rw[Int.toNat_natCast]at R1 R2;rw[eg]at R2;have rl:=fun (h':T O) (n':Nat)=>Xbf (h:=h') (N:=n') (D:=dn) (dec:=m) (g:=ax qg) bl bp l1 p0 (by omega) hn;have u1:=Nt (dec:=m) (by omega);generalize 10^m=U at*;have qn:=Zrt (i:=n1) (u:=U) (by omega) (by omega) u1.2;have tn:=jt qn;simp(disch:=first|(simp;done)|omega|rfl) [-getElem?_pos,A.zf8,r1,r3,r7,r9,oS,pE,Kb,hB,IA,aJ,aE];refine az (rl _ _) ?_;rintro _ h1 N1 k1 ⟨n3,i3,_,rfl⟩;obtain rfl:=i1.uniq i3;have uw:=k1.le;have Lh:=(k1.get B IA).trans hB;have zge:B<N1:=by omega
 have hN:=fun st=>Xau (st:=st) R1 (fun _=>rfl) (fun _=>by omega);simp(disch:=first|(simp;done)|omega|rfl) [-getElem?_pos,hN,r7,r9,oS,pE,Kb,Lh,zge,aJ,aE];refine az (Ywu bg bl bp (by decide) (by decide) hn) ?_;rintro v2 h2 N2 k2 t2;have xn:=@Zi1 qg ql qp dn;have qc:=Dv (d:=dn) bg bl bp (by decide);simp(disch:=first|(simp;done)|omega|rfl) [-getElem?_pos,];refine az (Ywr (k:=3*40+2) t2.1 (by rw[xn.1];omega) (by rw[xn.1];omega) (by rw[xn.1];show pg _ (dn+2)≠0;rw[xn.2];decide) qc (by omega) (by rw[xn.1];exact Xap (by omega) hn)) ?_;rintro _ h3 N3 k3 rfl;have zh:zgo (zgn qg ql qp dn).length (zgn qg ql qp dn)=Dj qg ql qp dn:=by rw[xn.1];rfl
 rw[zh];have k13:=(k1.trans k2).trans k3;have xX:=k13.le;have hC3:=(k13.get C Sy).trans hC;have zgb:C<N3:=by omega
 have hz:ax qg=[48]↔qg=0:=by
  constructor
  ·intro hc;rw[<-Ij]at hc;exact Yef hc
  intro hc;rw[hc,Ij]
 have iz:=fun st=>Ykd (q:=qg) (st:=st);cases hc:Dj qg ql qp dn with
 |false=>
  rw[hc,aA (by decide)]at hm;have hm':Xay (ax qg) (ax ql) (ax qp) (dn:Int) (m:Int)=15:=by rw[hm];rfl
  rw[hm']at R2;have vG:=fun st=>Xau (s:=[]) (st:=st) R2 (fun h=>by cases h) (fun h=>by cases h);simp(disch:=first|(simp;done)|omega|rfl) [-getElem?_pos,vG,pE,Kb];exact⟨rfl,_,rfl,by simp,by simpa using hW,k13⟩
 |true=>
  rw[hc,aQ rfl]at hm;by_cases g0:qg=0
  ·rw[aQ (hz.2 g0)]at hm;have hm':Xay (ax qg) (ax ql) (ax qp) (dn:Int) (m:Int)=6:=by rw[hm];rfl
   rw[hm']at R2;have vG:=fun st=>Xau (s:=[]) (st:=st) R2 (fun h=>by cases h) (fun h=>by cases h);simp only[decide_eq_true g0]at iz;simp(disch:=first|(simp;done)|omega|rfl) [-getElem?_pos,vG,iz,r3,hC3,zgb,pE,Kb,aJ,aE];exact⟨rfl,_,rfl,by simp,by simpa using hW,k13⟩
  rw[aA (fun h=>g0 (hz.1 h))]at hm;have hm':Xay (ax qg) (ax ql) (ax qp) (dn:Int) (m:Int)=0:=by rw[hm];rfl
  obtain⟨i2,_⟩:=i2 hm';obtain rfl:=i1.uniq i2;rw[hm']at R2;have qd:Qb (40+40) ((n1:Rat)/(U:Rat)/qg):=by rw[Rat.div_def (a:=(n1:Rat)/(U:Rat))];exact qn.mul (bg.inv g0)
  have td:=jt qd;simp only[decide_eq_false g0]at iz;simp(disch:=first|(simp;done)|omega|rfl) [-getElem?_pos,iz,r3,hC3,zgb,pE,Kb,aJ,aE];refine az (Yzv qn bg g0 (by decide) (by decide)) ?_;rintro _ h4 N4 k4 rfl;have vG:=fun st=>Xau (st:=st) R2 (fun _=>rfl) (fun _=>by omega);simp(disch:=first|(simp;done)|omega|rfl) [-getElem?_pos,vG];exact⟨rfl,_,rfl,by simp,by simpa using hW,k13.trans k4⟩
end Go.Mx
