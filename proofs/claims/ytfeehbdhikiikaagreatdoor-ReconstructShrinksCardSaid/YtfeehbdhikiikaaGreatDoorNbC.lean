/-num-/
import Derived.Test.YtfeehbdhikiikaaGreatDoorNbA
set_option linter.all false
namespace Go.Mx
variable{W w:List Nat}{G k m n:Nat}{H:T O}
noncomputable section
open Go Go.Proofs
variable {N:Nat} {a b:Int} {h:T O} {r0:T V} {x y:V}
set_option maxHeartbeats 2000000
set_option maxRecDepth 1000000
def A.Kr:=A.q Tryz.f228
def A.tY:=A.qt A.Kr [] [] [1,1,1,1,1,1,1]
def A.oT:=(fun y0=>A.qt A.Kr [] [([1,1,1,1,1,1,1],y0)] [1,1]) A.tY
def A.b228:=(fun y0=>A.qt A.Kr [] [([1,1],y0)] []) A.oT
def A.k228:=@A.kk 228 84 [.cell 4 (some 2),.cell 5 (some 2)] A.b228 (by kernel_rfl) rfl
def A.b204:=A.q Tryz.f204
def A.k204:=@A.kk 204 21 [.cell 4 (some 2)] A.b204 (by kernel_rfl) rfl
def A.Q1:=A.q Tryz.f196
def A.tZ:=A.ql A.Q1 0 []
def A.b196:=(fun x0=>A.qb A.Q1 [x0]) A.tZ
def A.k196:=@A.kk 196 23 [.cell 4 (some 2)] A.b196 (by kernel_rfl) rfl
def Yb0(hb:0<b):(if a.tmod b<0 then a.tdiv b-1 else a.tdiv b)=a/b/\(if a.tmod b<0 then a.tmod b+b else a.tmod b)=a%b:=by
 have h1:=Int.mul_tdiv_add_tmod a b;have h2:=Int.tmod_lt_of_pos a hb;have h3: -b<a.tmod b:=by have:=Int.tmod_lt_of_pos (-a) hb;rw[Int.neg_tmod]at this;omega
 have key:∀q r:Int,b*q+r=a->0<=r->r<b->q=a/b/\r=a%b:=by intro q r e r0 r1;have:=(Int.ediv_emod_unique hb (r:=r) (q:=q) (a:=a)).2 ⟨by omega,r0,r1⟩;exact⟨this.1.symm,this.2.symm⟩
 by_cases h:a.tmod b<0
 ·rw[av h,av h];exact key _ _ (by rw[Int.mul_sub];omega) (by omega) (by omega)
 rw[ak h,ak h];exact key _ _ (by omega) (by omega) h2
def Yjm(hb:0<b):∀q r:Int,q=(if decide (a<0)=true then -((a.natAbs/b.natAbs:Nat):Int) else (a.natAbs/b.natAbs:Nat))->r=(if decide (a<0)=true then -((a.natAbs%b.natAbs:Nat):Int) else (a.natAbs%b.natAbs:Nat))->(if r<0 then q-1 else q)=a/b/\(if r<0 then r+b else r)=a%b:=by
 intro q r hq hr;have h1:=wy a.natAbs b.natAbs;have h2:=m_ a.natAbs (show 0<b.natAbs by omega);have hbe:(b.natAbs:Int)=b:=by omega
 have iz:b*((a.natAbs/b.natAbs:Nat):Int)+((a.natAbs%b.natAbs:Nat):Int)=a.natAbs:=by rw[<-hbe,<-Ml,<-Int.natCast_add,dT,h1]
 have key:∀q r:Int,b*q+r=a->0<=r->r<b->q=a/b/\r=a%b:=by intro q r e r0 r1;have:=(Int.ediv_emod_unique hb (r:=r) (q:=q) (a:=a)).2 ⟨by omega,r0,r1⟩;exact⟨this.1.symm,this.2.symm⟩
 generalize a.natAbs/b.natAbs=Q at*;generalize a.natAbs%b.natAbs=R at*;by_cases ha:a<0
 ·simp only[ha,decide_true,if_true]at hq hr;subst hq hr;by_cases h: -(R:Int)<0
  ·rw[av h,av h];exact key _ _ (by rw[Int.mul_sub,Int.mul_neg];omega) (by omega) (by omega)
  rw[ak h,ak h];exact key _ _ (by rw[Int.mul_neg];omega) (by omega) (by omega)
 simp only[ha,decide_false,iE,if_false]at hq hr;subst hq hr;rw[ak (by omega),ak (by omega)];exact key _ _ (by omega) (by omega) (by omega)
def Yvf(hb:0<b):wl (a%b)<=wl b:=by apply Nc;have h1:=Gz a hb;have h2:=Gu a (show b≠0 by omega);omega
def Zrt{c:Bool}:(if c=true then -(n:Int) else (n:Int)).natAbs=n:=by split<;>omega
def Yo7{nq nr q s:Int}{uq ur:V}(hW:az N W=[])(hK:ab h N H n)(hm:N+4<=m)(Z4:m+1<n)(hq:In H n (.agg [.int .i64 nq,uq]) q)(hr:In H n (.agg [.int .i64 nr,ur]) s)(oq:V.one uq=true)(or:V.one ur=true)
  (gz:H.get (N+2)=some (.cells [.int .i64 0,.aa] 99 true)) (gt:H.get (N+3)=some (.cells [.int .i64 0,.aa] 99 true)) (gq:H.get m=some (.cells [.int .i64 nq,uq] 99 true)) (gr:H.get (m+1)=some (.cells [.int .i64 nr,ur] 99 true))
  (r4:r0.get 4=some (.ptr (N+2) 0)) (r5:r0.get 5=some (.ptr (N+3) 0)) (M9:r0.get 14=some (.ptr m 0)) (r15:r0.get 15=some (.ptr (m+1) 0)):
  Code A.C none A.tY ⟨r0,84,[]⟩ ⟨H,n,W⟩ (fun e fr st=>e=.ret/\∃r,fr=⟨r,84,[]⟩/\r.get 4=some (.ptr (N+2) 0)/\r.get 5=some (.ptr (N+3) 0)/\Ko h N (N+2) q st/\Ko h N (N+3) s st):=by
 have n1:m<n:=by omega
 have n2:N+2<n:=by omega
 have n3:N+3<n:=by omega
 have d3:¬N+2=m:=by omega
 have d4:¬N+3=m:=by omega
 have d5:¬N+2=m+1:=by omega
 have d6:¬N+3=m+1:=by omega
 have d9:¬N+3=N+2:=by omega
 rw[bG];have k1:=(hK.set (i:=N+2) (o:=.cells [.int .i64 nq,uq] 99 true) (by omega)).set (i:=N+3) (o:=.cells [.int .i64 nr,ur] 99 true) (by omega);have mV:=(hq.aG (c1:=[.int .i64 nq,uq]) (e1:=99) (w1:=true) gz (by simp) rfl);have fL:=(hr.aG (c1:=[.int .i64 nq,uq]) (e1:=99) (w1:=true) gz (by simp) rfl);have gt2:(H.set (N+2) (.cells [.int .i64 nq,uq] 99 true)).get (N+3)=some (.cells [.int .i64 0,.aa] 99 true):=by rw[T.ag,ak d9];exact gt
 have Q2:=(mV.aG (c1:=[.int .i64 nr,ur]) (e1:=99) (w1:=true) gt2 (by simp) rfl);have QH:=(fL.aG (c1:=[.int .i64 nr,ur]) (e1:=99) (w1:=true) gt2 (by simp) rfl);have g_:az N ((N+3)::(N+2)::W)=[]:=by simp[az,hW]
 unfold V.one at oq or;simp(disch:=omega) [A.tY,r4,r5,M9,r15,gz,gt,gq,gr,n1,n2,n3,Z4,oq,or,aS,aO,ae,bM];rw[wP (by simp[d3,d4,d5,d6]<;>omega)];simp[r4,r5];exact⟨⟨g_,k1,nq,uq,by simp,Q2⟩,⟨g_,k1,nr,ur,by simp,QH⟩⟩
def Ytm{n1 n2:Int}{u1 u2:V}(hx:In H (N+4) (.agg [.int .i64 n1,u1]) a)(hy:In H (N+4) (.agg [.int .i64 n2,u2]) b)(hb:0<b)(la:wl a<10000000000)(lb:wl b<10000000000)(hK:ab h N H (N+4))(oy:V.one u2=true)
  (gx:H.get N=some (.cells [.int .i64 n1,u1] 99 true)) (gy:H.get (N+1)=some (.cells [.int .i64 n2,u2] 99 true)) (gz:H.get (N+2)=some (.cells [.int .i64 0,.aa] 99 true)) (gt:H.get (N+3)=some (.cells [.int .i64 0,.aa] 99 true)) (r2:r0.get 2=some (.ptr N 0)) (r3:r0.get 3=some (.ptr (N+1) 0)) (r4:r0.get 4=some (.ptr (N+2) 0)) (r5:r0.get 5=some (.ptr (N+3) 0)):
  Code A.C none A.oT ⟨r0,84,[]⟩ ⟨H,N+4,[]⟩ (fun e fr st=>e=.ret/\∃r,fr=⟨r,84,[]⟩/\r.get 4=some (.ptr (N+2) 0)/\r.get 5=some (.ptr (N+3) 0)/\Ko h N (N+2) (a/b) st/\Ko h N (N+3) (a%b) st):=by
 rw[bG];simp[A.oT,r2,gx,aS,aO];refine au (Fw hx) ?_;rintro _ h1 N1 k1 ⟨ua,rfl,QT⟩;have QU:=(k1.get (N+1) (by omega)).trans gy;simp[r3,QU,aS,aO];refine au (Fw (hy.ad k1)) ?_;rintro _ h2 N2 k2 ⟨ub,rfl,Kq⟩;have ya:=QT.ad k2;have HP:(aJ a.natAbs).length<10000000000:=la;have Vj:(aJ b.natAbs).length<10000000000:=lb;simp[];refine au (Zvn ya Kq (by omega) (by omega) (by omega)) ?_;rintro _ h3 N3 k3 ⟨q,r,rfl,hq,hr⟩;simp[];have lq:=HL (xy a.natAbs b.natAbs);have lr:=HL (Nat.mod_le a.natAbs b.natAbs);refine au (HM hq (by omega)) ?_;rintro vq h4 N4 k4 yK;simp[];refine au (HM (hr.ad k4) (by omega)) ?_;rintro vr h5 N5 k5 hr5;have kA:=(((k1.trans k2).trans k3).trans k4).trans k5;have zbI:=kA.le;have hq5:=yK.ad k5;have gy5:=(kA.get (N+1) (by omega)).trans gy;have gz5:=(kA.get (N+2) (by omega)).trans gz;have gt5:=(kA.get (N+3) (by omega)).trans gt;obtain⟨qv,Kg⟩:∃q,(if decide (a<0)=true then -((a.natAbs/b.natAbs:Nat):Int) else (a.natAbs/b.natAbs:Nat))=q:=⟨_,rfl⟩;obtain⟨rv,Ao⟩:∃q,(if decide (a<0)=true then -((a.natAbs%b.natAbs:Nat):Int) else (a.natAbs%b.natAbs:Nat))=q:=⟨_,rfl⟩;rw[Kg]at hq5;rw[Ao]at hr5;obtain⟨e1,e2⟩:=Yjm hb qv rv Kg.symm Ao.symm;have wq:wl qv<20000000000:=by
  have:qv.natAbs=a.natAbs/b.natAbs:=by rw[<-Kg];exact Zrt
  unfold wl;rw[this];omega
 have wr:wl rv<20000000000:=by
  have:rv.natAbs=a.natAbs%b.natAbs:=by rw[<-Ao];exact Zrt
  unfold wl;rw[this];omega
 obtain⟨nq,uq,rfl,oq⟩:=hq5.cells;obtain⟨nr,ur,rfl,or⟩:=hr5.cells;have kB:=fun o1 o2=>aQ (aQ (ab.refl (h:=h5) (n:=N5)) o1) o2;have oq':=oq;have or':=or;unfold V.one at oq or oy;have d1:¬N5=N5+1:=by omega
 have gq6:(((h5.set N5 (.cells [.int .i64 0,.aa] 99 true)).set (N5+1) (.cells [.int .i64 0,.aa] 99 true)).set N5 (.cells [.int .i64 nq,uq] 99 true)).get N5=some (.cells [.int .i64 nq,uq] 99 true):=by simp
 simp[oq,or,ae,bM,aS,aO];have kC:=((kB (.cells [.int .i64 0,.aa] 99 true) (.cells [.int .i64 0,.aa] 99 true)).set (i:=N5) (o:=.cells [.int .i64 nq,uq] 99 true) (aN _)).set (i:=N5+1) (o:=.cells [.int .i64 nr,ur] 99 true) (by omega);generalize hH6:(((h5.set N5 (.cells [.int .i64 0,.aa] 99 true)).set (N5+1) (.cells [.int .i64 0,.aa] 99 true)).set N5 (.cells [.int .i64 nq,uq] 99 true)).set (N5+1) (.cells [.int .i64 nr,ur] 99 true)=H6 at*;have q6:H6.get N5=some (.cells [.int .i64 nq,uq] 99 true):=by rw[<-hH6];simp
 have r6:H6.get (N5+1)=some (.cells [.int .i64 nr,ur] 99 true):=by rw[<-hH6];simp
 have Q3:=hq5.ad kC;have hr6:=hr5.ad kC;have gy6:=(kC.get (N+1) (by omega)).trans gy5;have gz6:=(kC.get (N+2) (by omega)).trans gz5;have gt6:=(kC.get (N+3) (by omega)).trans gt5;refine au (Kj hr6) ?_;rintro _ h7 N7 k7 rfl;have zbJ:=k7.le;have q7:=(k7.get N5 (by omega)).trans q6;have r7:=(k7.get (N5+1) (by omega)).trans r6;have gy7:=(k7.get (N+1) (by omega)).trans gy6;have gz7:=(k7.get (N+2) (by omega)).trans gz6;have gt7:=(k7.get (N+3) (by omega)).trans gt6;have Q4:=Q3.ad k7;have Q5:=hr6.ad k7;have kF:=((hK.trans kA).trans kC).trans k7;have jC:¬N5<N:=by omega
 have nY:¬N5+1<N:=by omega
 have hWW:az N [N5+1,N5]=[]:=by simp[az,jC,nY]
 by_cases eD:rv<0
 ·have c1:dB rv<0:=by simp[dB,eD]
  rw[av eD]at e1 e2;have hn7:N5<N7:=by omega
  have zbK:N5+1<N7:=by omega
  have hny:N+1<N7:=by omega
  simp[c1,q7,aS,aO,hn7];refine au Ki ?_;rintro _ h8 N8 k8 rfl;simp[];refine au (Yn4 (Q4.ad k8) (In.small (z:=1) (by omega) (by omega)) (by omega) (by decide+kernel)) ?_;rintro vq9 h9 N9 k9 hq9;have k89:=k8.trans k9;have r9:=(k89.get (N5+1) (by omega)).trans r7;have y9:=(k89.get (N+1) (by omega)).trans gy7;have hr9:=Q5.ad k89;have hb9:In h9 N9 (.agg [.int .i64 n2,u2]) b:=(((((hy.ad k1).ad k2).ad k3).ad k4).ad k5 |>.ad kC |>.ad k7).ad k89;have zbm:=k89.le;have z1:N5+1<N9:=by omega
  have z2:N+1<N9:=by omega
  simp[r3,r9,y9,aS,aO,z1,z2];refine au (QY hr9 hb9 (by omega) (by omega)) ?_;rintro zbL iN N10 k10 Q6;have zbn:=k10.le;have Q7:=hq9.ad k10;obtain⟨Vk,Vl,rfl,oq2⟩:=Q7.cells;obtain⟨nr2,ur2,rfl,or2⟩:=Q6.cells;have q10:=(k10.get N5 (by omega)).trans ((k89.get N5 (by omega)).trans q7);have wD:=(k10.get (N5+1) (by omega)).trans r9;have FR:=(k10.get (N+2) (by omega)).trans ((k89.get (N+2) (by omega)).trans gz7);have t10:=(k10.get (N+3) (by omega)).trans ((k89.get (N+3) (by omega)).trans gt7);have zaJ:=oq2;have zaK:=or2;unfold V.one at oq2 or2;have z3:N5<N10:=by omega
  have z4:N5+1<N10:=by omega
  simp[q10,wD,oq2,or2,ae,bM,z3,z4];have q11:=Q7.aG (c1:=[.int .i64 Vk,Vl]) (e1:=99) (w1:=true) q10 Q4.nu rfl;have yb:=Q6.aG (c1:=[.int .i64 Vk,Vl]) (e1:=99) (w1:=true) q10 Q4.nu rfl;have Q8:(iN.set N5 (.cells [.int .i64 Vk,Vl] 99 true)).get (N5+1)=some (.cells [.int .i64 nr,ur] 99 true):=by rw[T.ag,ak (by omega)];exact wD
  have q12:=q11.aG (c1:=[.int .i64 nr2,ur2]) (e1:=99) (w1:=true) Q8 Q5.nu rfl;have Q9:=yb.aG (c1:=[.int .i64 nr2,ur2]) (e1:=99) (w1:=true) Q8 Q5.nu rfl;rw[e1]at q12;rw[e2]at Q9;have kG:=(((kF.trans k89).trans k10).set (i:=N5) (o:=.cells [.int .i64 Vk,Vl] 99 true) (by omega)).set (i:=N5+1) (o:=.cells [.int .i64 nr2,ur2] 99 true) (by omega);refine qV (Yo7 (m:=N5) (by simp[az,jC,nY]) kG (by omega) (by omega) q12 Q9 zaJ zaK (by rw[T.ag,ak (by omega),T.ag,ak (by omega)];exact FR) (by rw[T.ag,ak (by omega),T.ag,ak (by omega)];exact t10) (by simp) (by simp) (by simp[r4]) (by simp[r5]) (by simp) (by simp)) ?_;rintro e fr st ⟨rfl,r,rfl,p1,p2,p3,p4⟩;simp[p1,p2];exact⟨p3,p4⟩
 have c1:¬dB rv<0:=by unfold dB;rw[ak eD];split<;>omega
 rw[ak eD]at e1 e2;rw[e1]at Q4;rw[e2]at Q5;simp[c1];refine qV (Yo7 hWW kF (by omega) (by omega) Q4 Q5 oq' or' gz7 gt7 q7 r7 (by simp[r4]) (by simp[r5]) (by simp) (by simp)) ?_;rintro e fr st ⟨rfl,r,rfl,p1,p2,p3,p4⟩;simp[p1,p2];exact⟨p3,p4⟩
def Zvp(hx:In h N x a)(hy:In h N y b)(hb:0<b)(la:wl a<10000000000)(lb:wl b<10000000000):Fn A.C 228 [x,y] h N (fun v h' n'=>∃q r,v=.aU [q,r]/\In h' n' q (a/b)/\In h' n' r (a%b)):=by
 intro w;rw[aP,A.k228 (by simp)];obtain⟨n1,u1,rfl,o1⟩:=hx.cells;obtain⟨n2,u2,rfl,o2⟩:=hy.cells;have kk:=aQ (aQ (aQ (aQ (ab.refl (h:=h) (n:=N)) (.cells [.int .i64 n1,u1] 99 true)) (.cells [.int .i64 n2,u2] 99 true)) (.cells [.int .i64 0,.aa] 99 true)) (.cells [.int .i64 0,.aa] 99 true);have ZW:=o2;unfold V.one at o1 o2;have go:∀r:T V,r.get 2=some (.ptr N 0)->r.get 3=some (.ptr (N+1) 0)->r.get 4=some (.ptr (N+2) 0)->r.get 5=some (.ptr (N+3) 0)->bD A.C [.fin [.cell 4 (some 2),.cell 5 (some 2)] ⟨h,N,w⟩] (fy (A.C.code none A.oT ⟨r,84,[]⟩ ⟨(((h.set N (.cells [.int .i64 n1,u1] 99 true)).set (N+1) (.cells [.int .i64 n2,u2] 99 true)).set (N+1+1) (.cells [.int .i64 0,.aa] 99 true)).set (N+1+1+1) (.cells [.int .i64 0,.aa] 99 true),N+1+1+1+1,[]⟩)) (Fa (ay (fun v h' n'=>∃q r,v=.aU [q,r]/\In h' n' q (a/b)/\In h' n' r (a%b)) h N w)):=by intro r r2 r3 r4 r5;refine qV (Ytm (hx.ad kk) (hy.ad kk) hb la lb kk ZW (by simp) (by simp) (by simp) (by simp) r2 r3 r4 r5) ?_;rintro e fr ⟨h5,n5,w5⟩ ⟨rfl,r',rfl,QZ,r5',⟨hW,hK,n6,u6,g6,hi⟩,⟨_,_,n7,u7,g7,hi7⟩⟩;simp only at hW hK g6 hi g7 hi7;simp[QZ,r5',g6,g7,aS,aO,ay,hW];exact⟨hK,_,_,⟨rfl,rfl⟩,hi,hi7⟩
 rcases id hx with⟨e1,s1,s2⟩|⟨i,o,l,c,e1,_⟩
 ·simp only[V.agg.injEq,jW,V.int.injEq,true_and,and_true]at e1;obtain⟨rfl,rfl⟩:=e1;rcases id hy with⟨e2,t1,t2⟩|⟨i,o,l,c,e2,_⟩
  ·simp only[V.agg.injEq,jW,V.int.injEq,true_and,and_true]at e2;obtain⟨rfl,rfl⟩:=e2;by_cases vz:n1= -9223372036854775808
   ·simp[A.b228,aS,bz,vz];subst vz;exact go _ (by simp) (by simp) (by simp) (by simp)
   have hz:¬n2=0:=by omega
   obtain⟨f1,f2⟩:=Yb0 (a:=n1) hb;have b1:(n1.tdiv n2).natAbs<=n1.natAbs:=by rw[Int.natAbs_tdiv];exact xy _ _
   have b2:(n1.tmod n2).natAbs<=n1.natAbs:=by rw[Int.natAbs_tmod];exact Nat.mod_le _ _
   have b3:=Int.tmod_lt_of_pos n1 hb;obtain⟨q,hq⟩:∃q,n1.tdiv n2=q:=⟨_,rfl⟩;obtain⟨s,hs⟩:∃q,n1.tmod n2=q:=⟨_,rfl⟩;rw[hq]at b1 f1;rw[hs]at b2 b3 f1 f2;have w1:bn .i64 q=q:=cN (by omega) (by omega);by_cases eD:s<0
   ·rw[av eD]at f1 f2;have w2:bn .i64 (s+n2)=s+n2:=cN (by omega) (by omega);have w_: -9223372036854775808<q:=by have:=Int.mul_tdiv_add_tmod n1 n2;omega
    have w3:bn .i64 (q-1)=q-1:=cN (by omega) (by omega);simp[A.b228,aS,aO,ae,bz,vz,hz,hq,hs,w1,w2,w3,eD,ay,c9.c_];exact⟨(kk.set (by omega)).set (by omega),_,_,⟨rfl,rfl⟩,by rw[<-f1];exact In.small (by omega) (by omega),by rw[<-f2];exact In.small (by omega) (by omega)⟩
   rw[ak eD]at f1 f2;simp[A.b228,aS,aO,ae,bz,vz,hz,hq,hs,w1,eD,ay,c9.c_];exact⟨(kk.set (by omega)).set (by omega),_,_,⟨rfl,rfl⟩,by rw[<-f1];exact In.small (by omega) (by omega),by rw[<-f2];exact In.small (by omega) (by omega)⟩
  simp only[V.agg.injEq,jW,V.int.injEq,true_and,and_true]at e2;obtain⟨rfl,rfl⟩:=e2;simp[A.b228,aS,bz];exact go _ (by simp) (by simp) (by simp) (by simp)
 simp only[V.agg.injEq,jW,V.int.injEq,true_and,and_true]at e1;obtain⟨rfl,rfl⟩:=e1;simp[A.b228,aS,bz,o2];exact go _ (by simp) (by simp) (by simp) (by simp)
def Yog(hx:In h N x a)(hy:In h N y b)(hb:0<b)(la:wl a<10000000000)(lb:wl b<10000000000):Fn A.C 204 [x,y] h N (fun v h' n'=>In h' n' v (a/b)):=by
 intro w;rw[aP,A.k204 (by simp)];obtain⟨n1,u1,rfl,o1⟩:=hx.cells;obtain⟨n2,u2,rfl,o2⟩:=hy.cells;have kk:=aQ (aQ (aQ (ab.refl (h:=h) (n:=N)) (.cells [.int .i64 n1,u1] 99 true)) (.cells [.int .i64 n2,u2] 99 true)) (.cells [.int .i64 0,.aa] 99 true);have kO:=hx.ad kk;have xL:=hy.ad kk;have wM:=Kj xL;unfold V.one at o1 o2;have c1:¬dB b<0:=by unfold dB;rw[ak (by omega)];split<;>omega
 simp[A.b204,aS,aO,o1,o2];refine au wM ?_;rintro _ h1 m1 k1 rfl;have gT:=k1.le;have g0:=k1.get N (by omega);have g1:=k1.get (N+1) (by omega);have g2:=k1.get (N+1+1) (by omega);simp at g0 g1 g2;simp[c1,g0,g1,aS,aO];refine au (Zvp (kO.ad k1) (xL.ad k1) hb la lb) ?_;rintro _ h2 m2 k2 ⟨q,r,rfl,hq,hr⟩;have jN:=k2.le;have g22:=(k2.get (N+1+1) (by omega)).trans g2;obtain⟨n3,u3,rfl,o3⟩:=hq.cells;obtain⟨n4,u4,rfl,o4⟩:=hr.cells;unfold V.one at o3 o4;have d2:¬N+1+1=m2:=by omega
 have jC:¬m2<N:=by omega
 have Ks:¬m2+1<N:=by omega
 have nY:¬N+1+1<N:=by omega
 have kE:=((aQ (aQ (ab.refl (h:=h2) (n:=m2)) (.cells [.int .i64 0,.aa] 99 true)) (.cells [.int .i64 0,.aa] 99 true)).set (i:=m2) (o:=.cells [.int .i64 n3,u3] 99 true) (aN _)).set (i:=m2+1) (o:=.cells [.int .i64 n4,u4] 99 true) (by omega);have g23:=(kE.get (N+1+1) (by omega)).trans g22;have d4:¬N+1=m2:=by omega
 simp[g22,aS,aO,ae,bM,o3,o4,d2,d4,ay,jC,Ks,nY];exact⟨(((kk.trans k1).trans k2).trans kE).set (by omega),(hq.ad kE).aG g23 (by simp) rfl⟩
structure Vm (h:T O) (N G m:Nat) (r:T V) (st:St):Prop where
 w:az N st.w=[]
 ad:ab h N st.h st.n
 le:N+3<=st.n
 row:st.h.get (N+2)=some (.cells [.int .i64 0,.aa] 99 true)
 ex:∃(n1 n2:Int) (u1 u2:V) (p:Nat),st.h.get N=some (.cells [.int .i64 n1,u1] 99 true)/\st.h.get (N+1)=some (.cells [.int .i64 n2,u2] 99 true)/\In st.h st.n (.agg [.int .i64 n1,u1]) p/\In st.h st.n (.agg [.int .i64 n2,u2]) m/\Nat.gcd p m=G/\wl p<10000000000/\wl m<10000000000
def Yml(a2:r0.get 2=some (.ptr N 0))(a3:r0.get 3=some (.ptr (N+1) 0)):
  ∀x r st,(∀t,kV [(5,6),(11,21)] t=false->r.get t=r0.get t)->Fx [(5,6),(11,21)] r0 23 ⟨r,23,[]⟩->Vm h N G x r st->Code A.C none A.tZ ⟨r,23,[]⟩ st (Rd [(5,6),(11,21)] r0 23 (Vm h N G) x (fun e r st=>e=.exit 0/\Vm h N G 0 r st)):=by
 rintro m r ⟨H,n0,W⟩ hr hf ⟨hW,hK,hle,aA,n1,n2,u1,u2,p,g0,g1,hp,hm,hg,lp,lm⟩;simp only at hW hK hle aA g0 g1 hp hm;rw[bG];simp[A.tZ,hr,a3,g1,aS,aO];refine au (Kj hm) ?_;rintro _ h1 m1 k1 rfl;have gT:=k1.le;have f0:=(k1.get N (by omega)).trans g0;have f1:=(k1.get (N+1) (by omega)).trans g1;have f2:=(k1.get (N+2) (by omega)).trans aA;by_cases h0:m=0
 ·subst h0;simp[hf,dB];exact⟨hW,hK.trans k1,by show N+3<=m1;omega,f2,n1,n2,u1,u2,p,f0,f1,hp.ad k1,hm.ad k1,hg,lp,lm⟩
 have c1:¬dB m=0:=by unfold dB;rw[ak (by omega),ak (by omega)];decide
 simp[hr,a2,a3,c1,f0,f1,aS,aO];refine au (Zvp (hp.ad k1) (hm.ad k1) (by omega) lp lm) ?_;rintro _ h2 m2 k2 ⟨q,s,rfl,hq,hs⟩;have jN:=k2.le;have e0:=(k2.get N (by omega)).trans f0;have e1:=(k2.get (N+1) (by omega)).trans f1;have e2:=(k2.get (N+2) (by omega)).trans f2;obtain⟨n3,u3,rfl,o3⟩:=hq.cells;obtain⟨n4,u4,rfl,o4⟩:=hs.cells;obtain⟨_,_,e5,o2⟩:=hm.cells;simp only[V.agg.injEq,jW,V.int.injEq,true_and,and_true]at e5;obtain⟨rfl,rfl⟩:=e5;unfold V.one at o3 o4 o2;have kE:=((aQ (aQ (ab.refl (h:=h2) (n:=m2)) (.cells [.int .i64 0,.aa] 99 true)) (.cells [.int .i64 0,.aa] 99 true)).set (i:=m2) (o:=.cells [.int .i64 n3,u3] 99 true) (aN _)).set (i:=m2+1) (o:=.cells [.int .i64 n4,u4] 99 true) (by omega);have i0:=(kE.get N (by omega)).trans e0;have i1:=(kE.get (N+1) (by omega)).trans e1;have i2:=(kE.get (N+2) (by omega)).trans e2;have d1:¬m2=m2+1:=by omega
 have d2:¬N=m2:=by omega
 have d3:¬N=m2+1:=by omega
 have d4:¬N+1=m2:=by omega
 have d5:¬N+1=m2+1:=by omega
 have d6:¬m2=N:=by omega
 have d7:¬m2+1=N:=by omega
 have d8:¬m2=N+1:=by omega
 have d9:¬m2+1=N+1:=by omega
 have d10:¬N=N+1:=by omega
 have l1:N<m2+1+1:=by omega
 have l2:N+1<m2+1+1:=by omega
 simp(disch:=first|(simp;done)|omega|(simp only[bu,cr,bl];omega)|rfl) [hr,hf,a2,a3,e0,e1,aS,aO,ae,bM,o2,o3,o4,d1,d2,d3,d4,d5,d6,d7,d8,d9,d10,l1,l2,c9.c_];rw[wP (by simp[d2,d3]<;>omega)];simp[hf];have jC:¬m2<N:=by omega
 have Ks:¬m2+1<N:=by omega
 have q1:=((hm.ad k1).ad k2).ad kE;have s1:=hs.ad kE;have q2:=q1.aG (c1:=[.int .i64 n2,u2]) (e1:=99) (w1:=true) i0 hp.nu rfl;have s2:=s1.aG (c1:=[.int .i64 n2,u2]) (e1:=99) (w1:=true) i0 hp.nu rfl;have i3:(((((h2.set m2 (.cells [.int .i64 0,.aa] 99 true)).set (m2+1) (.cells [.int .i64 0,.aa] 99 true)).set m2 (.cells [.int .i64 n3,u3] 99 true)).set (m2+1) (.cells [.int .i64 n4,u4] 99 true)).set N (.cells [.int .i64 n2,u2] 99 true)).get (N+1)=some (.cells [.int .i64 n2,u2] 99 true):=by rw[T.ag,ak (by omega)];exact i1
 have q3:=q2.aG (c1:=[.int .i64 n4,u4]) (e1:=99) (w1:=true) i3 hm.nu rfl;have s3:=s2.aG (c1:=[.int .i64 n4,u4]) (e1:=99) (w1:=true) i3 hm.nu rfl;refine⟨p%m,m_ _ (by omega),by simp[az,hW,jC,Ks],((((hK.trans k1).trans k2).trans kE).set (aN _)).set (by omega),by show N+3<=m2+1+1;omega,?_,n2,n4,u2,u4,m,by simp,by simp,q3,?_,?_,lm,?_⟩
 ·rw[T.ag,ak (by omega),T.ag,ak (by omega)];exact i2
 ·rw[<-Int.natCast_emod]at s3;exact s3
 ·rw[<-hg,Nat.gcd_comm p m,Nat.gcd_rec m p,Nat.gcd_comm]
 have:=Yvf (a:=(p:Int)) (b:=(m:Int)) (by omega);rw[<-Int.natCast_emod]at this;omega
def Yo0(hx:In h N x a)(hy:In h N y b)(la:wl a<10000000000)(lb:wl b<10000000000):Fn A.C 196 [x,y] h N (fun v h' n'=>In h' n' v (Int.gcd a b:Nat)):=by
 intro w;rw[aP,A.k196 (by simp)];obtain⟨n1,u1,rfl,o1⟩:=hx.cells;obtain⟨n2,u2,rfl,o2⟩:=hy.cells;have kk:=aQ (aQ (aQ (ab.refl (h:=h) (n:=N)) (.cells [.int .i64 n1,u1] 99 true)) (.cells [.int .i64 n2,u2] 99 true)) (.cells [.int .i64 0,.aa] 99 true);have kO:=hx.ad kk;have xL:=hy.ad kk;unfold V.one at o1 o2;simp[A.b196,aS,aO,o1,o2];refine au (Ypk kO (by omega)) ?_;rintro v1 h1 m1 k1 pW;have gT:=k1.le;have g1:=k1.get (N+1) (by omega);simp at g1;have l1:N+1<m1:=by omega
 simp[g1,l1,aS,aO];refine au (Ypk (xL.ad k1) (by omega)) ?_;rintro v2 h2 m2 k2 l8;have Ke:=pW.ad k2;have k12:=k1.trans k2;have jN:=k2.le;obtain⟨n3,u3,rfl,o3⟩:=pW.cells;obtain⟨n4,u4,rfl,o4⟩:=l8.cells;unfold V.one at o3 o4;have i0:=k12.get N (by omega);have i1:=k12.get (N+1) (by omega);have i2:=k12.get (N+1+1) (by omega);simp at i0 i1 i2;have l2:N<m2:=by omega
 have l3:N+1<m2:=by omega
 have l4:N<m1:=by omega
 simp[i0,i1,ae,bM,o3,o4,l1,l2,l3,l4,c9.c_];have q1:=Ke.aG (c1:=[.int .i64 n3,u3]) (e1:=99) (w1:=true) i0 hx.nu rfl;have s1:=l8.aG (c1:=[.int .i64 n3,u3]) (e1:=99) (w1:=true) i0 hx.nu rfl;have i3:(h2.set N (.cells [.int .i64 n3,u3] 99 true)).get (N+1)=some (.cells [.int .i64 n2,u2] 99 true):=by rw[T.ag,ak (by omega)];exact i1
 have q2:=q1.aG (c1:=[.int .i64 n4,u4]) (e1:=99) (w1:=true) i3 hy.nu rfl;have s2:=s1.aG (c1:=[.int .i64 n4,u4]) (e1:=99) (w1:=true) i3 hy.nu rfl;have wa:wl (a.natAbs:Int)=wl a:=by unfold wl;rw[dT]
 have wb:wl (b.natAbs:Int)=wl b:=by unfold wl;rw[dT]
 refine cB [(5,6),(11,21)] _ (Vm h N (Int.gcd a b)) b.natAbs ?_ (Yml (by simp) (by simp)) ?_
 ·refine⟨by simp[az],((kk.trans k12).set (aN _)).set (by omega),by show N+3<=m2;omega,?_,n3,n4,u3,u4,a.natAbs,by simp,by simp,q2,s2,rfl,by rw[wa];exact la,by rw[wb];exact lb⟩;rw[T.ag,ak (by omega),T.ag,ak (by omega)];exact i2
 rintro e r ⟨h5,m5,W5⟩ hr ⟨rfl,hW,hK,hle,aA,n5,n6,u5,u6,p,g5,g6,hp,hm,hg,lp,lm⟩;simp only at hW hK hle aA g5 g6 hp hm;obtain⟨_,_,e5,o5⟩:=hp.cells;simp only[V.agg.injEq,jW,V.int.injEq,true_and,and_true]at e5;obtain⟨rfl,rfl⟩:=e5;unfold V.one at o5;rw[Nat.gcd_zero_right]at hg;have HQ:h5.get (N+1+1)=some (.cells [.int .i64 0,.aa] 99 true):=aA;have jC:¬N+1+1<N:=by omega
 simp[hr,g5,HQ,aS,aO,ae,bM,o5,ay,hW,jC];exact⟨hK.set (by omega),by rw[<-hg];exact hp.aG HQ (by simp) rfl⟩
def A.b84:=A.q Tryz.f84
def A.k84:=@A.kk 84 7 [.tmp 4] A.b84 (by kernel_rfl) rfl
def A.b195:=A.q Tryz.f195
def A.k195:=@A.kk 195 7 [.tmp 4] A.b195 (by kernel_rfl) rfl
def Vn{b:Bool}{e:Int}{st:St}:A.C.call (.func 84 [] []) [.bool b,.int .i64 e] st=some (.int .i64 (if b=true then e else 0),st):=by apply Call.eq;rw[aP,A.k84 (by simp)];cases b<;>simp[A.b84]
def FB{b:Bool}{e:Int}{st:St}:A.C.call (.func 195 [] []) [.bool b,.int .i64 e] st=some (.int .i64 (if b=true then e else 0),st):=by apply Call.eq;rw[aP,A.k195 (by simp)];cases b<;>simp[A.b195]
variable {s:aH}
def A.b234:=A.q Tryz.f234
def A.k234:=@A.kk 234 18 [.tmp 4] A.b234 (by kernel_rfl) rfl
def A.b192:=A.q Tryz.f192
def A.k192:=@A.kk 192 11 [.tmp 4,.tmp 5] A.b192 (by kernel_rfl) rfl
def A.b225:=A.q Tryz.f225
def A.k225:=@A.kk 225 15 [.tmp 4,.tmp 5] A.b225 (by kernel_rfl) rfl
def A.b210:=A.q Tryz.f210
def A.k210:=@A.kk 210 8 [.tmp 4] A.b210 (by kernel_rfl) rfl
def A.b235:=A.q Tryz.f235
def A.k235:=@A.kk 235 13 [.tmp 4] A.b235 (by kernel_rfl) rfl
def A.b209:=A.q Tryz.f209
def A.k209:=@A.kk 209 8 [.tmp 4] A.b209 (by kernel_rfl) rfl
def A.b256:=A.q Tryz.f256
def A.k256:=@A.kk 256 8 [.tmp 4] A.b256 (by kernel_rfl) rfl
def A.Ra:=A.q Tryz.f233
def A.FC:=A.ql A.Ra 0 []
def A.b233:=(fun x0=>A.qb A.Ra [x0]) A.FC
def A.k233:=@A.kk 233 143 [.tmp 4] A.b233 (by kernel_rfl) rfl
def A.b208:=A.q Tryz.f208
def A.k208:=@A.kk 208 23 [.tmp 4,.tmp 5,.tmp 6] A.b208 (by kernel_rfl) rfl
def A.b148:=A.q Tryz.f148
def A.k148:=@A.kk 148 13 [.tmp 4,.tmp 5,.tmp 6] A.b148 (by kernel_rfl) rfl
def Rb{st:St}:A.C.call (.func 234 [] []) [.str s,.str [45]] st=some (.bool (cE s),st):=by
 apply Call.eq;rw[aP,A.k234 (by simp)];cases s with
 |nil=>simp[A.b234,cE]
 |cons c s=>
  have e:(([c]:aH)==[45])=decide (c.toNat=45):=by rw[Bool.eq_iff_iff];simp only[beq_iff_eq,decide_eq_true_eq,jW,and_true];exact⟨fun h=>by rw[h];rfl,fun h=>UInt8.toNat_inj.1 h⟩
  have h1:(1:Int)<=(s.length:Int)+1:=by omega
  simp[A.b234,cE,aC,e,h1]
def Zvu{st:St}:A.C.call (.func 192 [] []) [.str s,.str [45]] st=some (.aU [.str (bm s),.bool (cE s)],st):=by
 apply Call.eq;rw[aP,A.k192 (by simp)];simp[A.b192];rw[A.k225 (by simp)];by_cases hn:cE s=true
 ·have h1:1<=s.length:=by cases s<;>simp[cE]at hn ⊢
  have iz:(1:Int)<=s.length:=by omega
  simp[A.b225,Rb,hn,aC,iz,bm]
 simp[A.b225,Rb,hn,bm]
def Zk4{st:St}:A.C.call (.func 210 [] []) [.str s,.str [45]] st=some (.str (bm s),st):=by
 apply Call.eq;rw[aP,A.k210 (by simp)];simp[A.b210];rw[A.k235 (by simp)];by_cases hn:cE s=true
 ·have h1:1<=s.length:=by cases s<;>simp[cE]at hn ⊢
  have iz:(1:Int)<=s.length:=by omega
  simp[A.b235,Rb,hn,aC,iz,bm]
 simp[A.b235,Rb,hn,bm]
def Zve{st:St}:A.C.call (.func 209 [] []) [.str s,.str [45]] st=some (.bool (cE s),st):=by apply Call.eq;rw[aP,A.k209 (by simp)];simp[A.b209,Rb]
def Zvd{st:St}:A.C.call (.func 256 [] []) [.str s,.int .u8 47] st=some (.int .i64 (if ah s<s.length then (ah s:Int) else -1),st):=by apply Call.eq;rw[aP,A.k256 (by simp)];have e:=Zlv s 0;simp only[xd]at e;simp[A.b256,J8,EB,e]
def Yat{st:St}:A.C.call (.func 233 [] []) [.str s,.str [47]] st=some (.int .i64 (if ah s<s.length then (ah s:Int) else -1),st):=by
 apply Call.eq;rw[aP,A.k233 (by simp)];by_cases hs:s=[47]
 ·subst hs;simp[A.b233,ah]
 have e1:(([47]:aH)==s)=false:=by simp;exact fun h=>hs h.symm
 have e2:cZ 47=47:=rfl;simp[A.b233,Zvd,e1,e2]
def Ypc{st:St}(hl:s.length<4611686018427387904):A.C.call (.func 148 [] []) [.str s,.str [47]] st=some (.aU [.str (s.take (ah s)),.str (s.drop (ah s+1)),.bool (decide (ah s<s.length))],st):=by
 apply Call.eq;rw[aP,A.k148 (by simp)];simp[A.b148];rw[A.k208 (by simp)];have hle:=Ht s;by_cases hs:ah s<s.length
 ·simp(disch:=first|(simp;done)|omega|(simp only[bu,cr,bl];omega)|rfl) [A.b208,Yat,hs,aC];try omega
 have:s.take (ah s)=s:=gm (by omega);have h2:s.drop (ah s+1)=[]:=Df (by omega);simp(disch:=first|(simp;done)|omega|(simp only[bu,cr,bl];omega)|rfl) [-getElem?_pos,A.b208,Yat,hs,this,h2]
variable {N i:Nat} {h:T O} {rw:Bool} {s:aH}
def A.b226:ct:=sr [ge 4 (.pP (.const (.str [])))] (.seq (sr [mv 7 0,ge 8 (.bin .eql (.dJ .str) true (tq 7) (.const (.str []))),mv 9 8,mh 10 1 9,gz 11 9 (.bin .eql (.dJ .str) true (tq 10) (.const (.str []))),pt 12 9 11] (cd 12 (sr [mv 13 0,mv 4 13] (.ret)) (.skip))) (.seq (sr [mv 14 1,ge 15 (.len 0 (tq 14)),ei 16 15 1,mv 17 16,mg 18 1 17,gy 19 17 (.bQ (tq 18) (kq 0)),gy 20 17 (.bin .lss (.node []) false (tq 19) (.const (.int .u8 128))),pf 21 17 20] (cd 21 (.seq (.f_ [mv 22 0,mv 23 1,ge 24 (.bQ (tq 23) (kq 0)),c2 25 250 22 24,mv 26 1,ge 27 (.bQ (tq 26) (kq 0)),c2 28 249 25 27,mv 4 28] [0,0,2,7,0,16,63,127]) (.ret)) (.skip))) (.seq (sr [mv 30 1,c1 31 251 30,mv 29 31,xt 32 29 0,xt 33 29 1,ge 5 (.alloc (pX 0) 244),gn (.store 256 (tq 5) (tq 32)),mv 6 33] (sr [mv 34 6] (cd 34 (sr [mv 35 0,c2 36 253 35 5,c2 37 252 36 5,mv 4 37] (.ret)) (.skip)))) (sr [mv 38 0,mv 39 1,c2 40 255 38 39,mv 41 1,c2 42 254 40 41,mv 4 42] (.ret)))))
def A.k226:=@A.kk 226 43 [.tmp 4] A.b226 (by kernel_rfl) rfl
def A.t_:ct:=.seq (sr [mv 6 4,mv 7 0,ge 8 (.len 0 (tq 7)),bi 9 .lss 6 8] (cd 9 (.skip) (.exit 0))) (.seq (.block 1 (sr [mv 12 0,mv 13 4,ge 14 (.bQ (tq 12) (tq 13)),mv 5 14] (.seq (sr [mv 15 5,ge 16 (.bin .geq (.node []) false (tq 15) (.const (.int .u8 128)))] (cd 16 (sr [lN 17 256 2,gn (.store 256 (tq 2) (tq 17)),ge 3 (.pP (.const (.bool false)))] (.ret)) (.skip))) (.fV [mv 18 5,ge 19 (.i_ 256 1 (tq 2) (tq 18)),gn (.store 1 (tq 19) (.const (.bool true)))])))) (.fV [mv 10 4,bc 11 .add 10 1,mv 4 11]))
def A.b251:ct:=sr [ge 2 (.alloc (pX 0) 244),ge 3 (.pP (.const (.bool false)))] (.seq (sr [mc 4 0] (.block 0 (.loop A.t_))) (sr [lN 20 256 2,gn (.store 256 (tq 2) (tq 20)),ge 3 (.pP (.const (.bool true)))] (.ret)))
def A.k251:=@A.kk 251 21 [.cell 2 (some 256),.tmp 3] A.b251 (by kernel_rfl) rfl
def A.Rc:=A.q Tryz.f252
def A.oV:=A.ql A.Rc 0 []
def A.b252:=(fun x0=>A.qb A.Rc [x0]) A.oV
def A.k252:=@A.kk 252 16 [.tmp 4] A.b252 (by kernel_rfl) rfl
def A.Re:=A.q Tryz.f253
def A.oW:=A.ql A.Re 0 []
def A.b253:=(fun x0=>A.qb A.Re [x0]) A.oW
def A.k253:=@A.kk 253 22 [.tmp 4] A.b253 (by kernel_rfl) rfl
def A.b273:=A.q Tryz.f273
def A.k273:=@A.kk 273 10 [.tmp 4] A.b273 (by kernel_rfl) rfl
def A.b193:=A.q Tryz.f193
def A.k193:=@A.kk 193 19 [.tmp 2] A.b193 (by kernel_rfl) rfl
def Yda:Fn A.C 251 [(.str [48,49,50,51,52,53,54,55,56,57])] h N (fun v _ _=>v=.aU [.agg (pX 10),.bool true]):=by
 intro w;rw[aP,A.k251 (by simp)];simp[A.b251];refine cB [(3,19)] (fun e r st=>e=.exit 0/\st.n=N+1/\az N st.w=[]/\ab h N st.h (N+1)/\st.h.get N=some (.cells (pX 10) 244 true)) (fun m r st=>st.n=N+1/\az N st.w=[]/\ab h N st.h (N+1)/\∃k,m=10-k/\k<=10/\r.get 4=some (.int .i64 k)/\st.h.get N=some (.cells (pX k) 244 true)) 10 ?_ ?_ ?_
 ·exact⟨rfl,rfl,(ab.refl.set (aN _)).up (by omega),0,by omega,by omega,by simp,by simp⟩
 ·rintro m r ⟨H,n1,W⟩ hr hf ⟨hn,hW,hK,k,rfl,hk,h4,aA⟩;simp only at hn hW hK aA;subst hn;rw[bG];by_cases aD:k<10
  ·obtain⟨c,hc,hcu⟩:=Ymz aD;unfold Yz9 at hc;have a1:¬128<=cZ c:=by omega
   have a2:cZ c<256:=by omega
   have a3:0<=cZ c:=by omega
   have a4:(cZ c).toNat=48+k:=by omega
   have bV:(k:Int)<10:=by omega
   have hs:=Ynt aD;have q1:=BU k;simp(disch:=first|(simp;done)|omega|(simp only[bu,cr,bl];omega)|rfl) [-getElem?_pos,A.t_,hr,hf,h4,bV,hc,a1,a2,a3,a4,hs,aA,hW];exact⟨_,by omega,hK.set (aN N),k+1,rfl,by omega,by simp,rfl⟩
  have:k=10:=by omega
  subst this;simp[A.t_,hr,hf,h4,aA,hW];exact hK
 rintro e r ⟨H,n1,W⟩ hr ⟨rfl,hn,hW,hK,aA⟩;simp only at hn hW hK aA;subst hn;have q1:=BU 10;simp[hr,ay,hW,aA,aS,aO,BU,Ybp];exact hK.set (aN N)
def Zp5{c:UInt8}{e:TypeId}(hr:h.get i=some (.cells (pX 10) e rw)):A.C.call (.func 273 [] []) [.ptr i 0,.int .u8 (cZ c)] ⟨h,N,w⟩=some (.bool (mU c),⟨h,N,w⟩):=by
 apply Call.eq;rw[aP,A.k273 (by simp)];have hu:=Ye0 c;have e2:(pX 10)[(cZ c).toNat]?=some (.bool (mU c)):=by rw[MA (by omega),Yij];congr 2;rw[decide_eq_decide];omega
 simp(disch:=omega) [A.b273,hr,hu,e2]
def Ym1{c:UInt8}(hl:s.length=k+1)(hc:s[k]?=some c):cO s=(cO (s.take k)&&mU c):=by
 unfold cO;have:s=s.take k++[c]:=by
  conv=>lhs;rw[<-Et k s]
  rw[oh hc,Df (by omega)]
 conv=>lhs;rw[this]
 simp
def Yii{c:UInt8}(hc:s[0]?=some c):cO s=(mU c&&cO (s.drop 1)):=by
 cases s with
 |nil=>simp at hc
 |cons d s=>simp at hc;subst hc;rfl
def Ym0{c:UInt8}(hc:s[k]?=some c)(hd:mU c=false):cO s=false:=by unfold cO;rw[List.all_eq_false];exact⟨c,cP hc,by simp[hd]⟩
def Rf(s:aH)(v:V):Prop:=∃t:aH,v=.str t/\t.length<=s.length/\cO t=cO s/\(cO s=true->t=[])
def Zt5{e:TypeId}(gI:h.get i=some (.cells (pX 10) e rw))(hl:s.length<4611686018427387904):Fn A.C 253 [.str s,.ptr i 0] h N (fun v _ _=>Rf s v):=by
 intro w;rw[aP,A.k253 (by simp)];simp[A.b253];refine cB [(0,0),(5,20)] (fun e r st=>e=.exit 0/\st=⟨h,N,[]⟩/\∃t:aH,r.get 0=some (.str t)/\t.length<=s.length/\cO t=cO s/\(cO s=true->t=[])) (fun m r st=>st=⟨h,N,[]⟩/\∃t:aH,m=t.length/\t.length<=s.length/\r.get 0=some (.str t)/\cO t=cO s) s.length ?_ ?_ ?_
 ·exact⟨rfl,s,rfl,by omega,by simp,rfl⟩
 ·rintro m r _ hr hf ⟨rfl,t,rfl,hle,h0,ht⟩;rw[bG];by_cases hz:t.length=0
  ·have:t=[]:=tC hz;subst this;simp[A.oW,hf,h0,ht]
  obtain⟨k,hk⟩:∃k,t.length=k+1:=⟨t.length-1,by omega⟩;obtain⟨c,hc⟩:=bs (l:=t) (k:=k) (by omega);have gW:(t.length:Int)=k+1:=by omega
  have pG:(0:Int)<(k:Int)+1:=by omega
  have dj:(k:Int)+1-1=k:=by omega
  have Cz:=fun w=>Zp5 (c:=c) (N:=N) (w:=w) gI;by_cases hd:mU c=true
  ·simp(disch:=first|(simp;done)|omega|(simp only[bu,cr,bl];omega)|rfl) [-getElem?_pos,A.oW,hr,hf,h0,gW,pG,dj,hc,Cz,hd,aC];exact⟨k,by omega,t.take k,by simp;omega,by simp;omega,rfl,by rw[<-ht,Ym1 hk hc,hd];simp⟩
  have hd:mU c=false:=by simpa using hd
  simp(disch:=first|(simp;done)|omega|(simp only[bu,cr,bl];omega)|rfl) [-getElem?_pos,A.oW,hr,hf,h0,gW,pG,dj,hc,Cz,hd,aC];have hq:=Ym0 hc hd;rw[ht]at hq;simp[hq,hle];rw[ht];exact hq
 rintro _ r _ hr ⟨rfl,rfl,t,h0,hle,ht,he⟩;simp[h0,ay,Rf];exact⟨ab.refl,hle,ht,he⟩
def Zwj{e:TypeId}(gI:h.get i=some (.cells (pX 10) e rw))(hl:s.length<4611686018427387904):Fn A.C 252 [.str s,.ptr i 0] h N (fun v _ _=>Rf s v):=by
 intro w;rw[aP,A.k252 (by simp)];simp[A.b252];refine cB [(0,0),(5,14)] (fun e r st=>e=.exit 0/\st=⟨h,N,[]⟩/\∃t:aH,r.get 0=some (.str t)/\t.length<=s.length/\cO t=cO s/\(cO s=true->t=[])) (fun m r st=>st=⟨h,N,[]⟩/\∃t:aH,m=t.length/\t.length<=s.length/\r.get 0=some (.str t)/\cO t=cO s) s.length ?_ ?_ ?_
 ·exact⟨rfl,s,rfl,by omega,by simp,rfl⟩
 ·rintro m r _ hr hf ⟨rfl,t,rfl,hle,h0,ht⟩;rw[bG];by_cases hz:t.length=0
  ·have:t=[]:=tC hz;subst this;simp[A.oV,hf,h0,ht]
  cases t with
  |nil=>simp at hz
  |cons c t=>
   have pG:(0:Int)<(t.length:Int)+1:=by omega
   have Cz:=fun w=>Zp5 (c:=c) (N:=N) (w:=w) gI;have Nd:=Yii (s:=c::t) (c:=c) rfl;by_cases hd:mU c=true
   ·simp(disch:=first|(simp;done)|omega|(simp only[bu,cr,bl];omega)|rfl) [A.oV,hr,hf,h0,pG,Cz,hd,aC];simp only[bl]at hle;rw[hd]at Nd;exact⟨t.length,by omega,t,rfl,by omega,rfl,by rw[<-ht,Nd];rfl⟩
   have hd:mU c=false:=by simpa using hd
   simp[A.oV,hr,hf,h0,pG,Cz,hd];rw[hd]at Nd;rw[ht]at Nd;simp only[bl]at hle;simp[Nd,hle];rw[ht,Nd];rfl
 rintro _ r _ hr ⟨rfl,rfl,t,h0,hle,ht,he⟩;simp[h0,ay,Rf];exact⟨ab.refl,hle,ht,he⟩
def Yb1(hl:s.length<4611686018427387904):Fn A.C 226 [.str s,(.str [48,49,50,51,52,53,54,55,56,57])] h N (fun v _ _=>Rf s v):=by
 intro w;rw[aP,A.k226 (by simp)];by_cases he:s=[]
 ·subst he;simp[A.b226,ay];exact⟨ab.refl,[],rfl,aN _,rfl,fun _=>rfl⟩
 have e1:(s==[])=false:=by simp[he]
 have e2:s.isEmpty=false:=by simp[he]
 simp[A.b226,e1];refine au Yda ?_;rintro v h1 n1 k1 rfl;have q1:=BU 10;simp[];refine au (Zt5 (e:=244) (rw:=true) ?_ hl) ?_
 ·simp
 rintro v h2 n2 k2 ⟨t,rfl,hle,ht,hte⟩;have lE:h2.get n1=some (.cells (pX 10) 244 true):=by rw[k2.get _ (by omega)];simp
 simp[];refine au (Zwj (e:=244) (rw:=true) lE (by omega)) ?_;rintro v h3 n3 k3 ⟨u,rfl,zbM,hu,hue⟩;have kk:ab h N h3 n3:=(((k1.set k1.le).set k1.le).up (vY n1)).trans (k2.trans k3);simp[ay];exact⟨k1.le,kk,u,rfl,by omega,by rw[hu,ht],fun h=>hue (by rw[ht];exact h)⟩
def Zin(hl:s.length<4611686018427387904):Fn A.C 193 [.str s] h N (fun v _ _=>v=.bool (jK s)):=by
 intro w;rw[aP,A.k193 (by simp)];cases s with
 |nil=>simp[A.b193,ay,jK];exact ab.refl
 |cons c s=>
  simp[A.b193];refine au (Yb1 hl) ?_;rintro v h1 n1 k1 ⟨t,rfl,hle,ht,hte⟩;have hd:jK (c::s)=(cO (c::s)&&(decide (cZ c≠48)||decide (s=[]))):=by
   have:decide (c.toNat≠48)=decide (cZ c≠48):=by unfold cZ;rw[decide_eq_decide];omega
   simp only[jK,this];rfl
  by_cases ha:cO (c::s)=true
  ·have:=hte ha;subst this;by_cases h0:cZ c=48
   ·have hc:c=48:=by unfold cZ at h0;exact UInt8.toNat_inj.1 (by show c.toNat=48;omega)
    subst hc;simp[hd,ha,h0,ay,k1];cases s<;>rfl
   simp[hd,ha,h0,ay,k1]
  have ha:cO (c::s)=false:=by simpa using ha
  rw[ha]at ht;have e1:(t==[])=false:=by
   cases t with
   |nil=>cases ht
   |cons=>rfl
  have e2:t.isEmpty=false:=by
   cases t with
   |nil=>cases ht
   |cons=>rfl
  simp[hd,ha,e1,ay,k1]
def A.Rr:=A.q Tryz.f236
def A.ui:=A.ql A.Rr 0 []
def A.b236:=(fun x0=>A.qb A.Rr [x0]) A.ui
def A.k236:=@A.kk 236 77 [.tmp 2,.tmp 3] A.b236 (by kernel_rfl) rfl
def A.b211:=A.q Tryz.f211
def A.k211:=@A.kk 211 18 [.tmp 2,.tmp 3] A.b211 (by kernel_rfl) rfl
def Ymj(hd:cO s=true)(h1:1<=s.length)(h2:s.length<=18):Fn A.C 236 [.str s] h N (fun v _ _=>v=.aU [.int .i64 (aE s:Nat),.aZ]):=by
 intro w;obtain⟨c,hc⟩:=bs (l:=s) (k:=0) (by omega);have rk:=O6 hd hc;have a1:¬cZ c=45:=by omega
 have a2:¬cZ c=43:=by omega
 have a3:(0:Int)<(s.length:Int):=by omega
 have a5:(s.length:Int)<19:=by omega
 have iN:0<s.length:=by omega
 have aX:s≠[]:=fun h=>by rw[h]at h1;simp at h1
 have iK:s.head?=some c:=by cases s with
  |nil=>simp at hc
  |cons=>simpa using hc
 rw[aP,A.k236 (by simp)];by_cases a4:(s.length:Int)<10;all_goals
  simp(disch:=first|(simp;done)|omega|(simp only[bu,cr,bl];omega)|rfl) [-getElem?_pos,A.b236,a3,a4,a5,aX,iN,iK,hc,bz,a1,a2]
  refine cB [(2,3),(6,6),(8,8),(49,63)] (fun e r st=>st.n=N+1/\az N st.w=[]/\ab h N st.h (N+1)/\e=.exit 0/\r.get 6=some (.int .i64 (aE s:Nat))) (fun m r st=>st.n=N+1/\az N st.w=[]/\ab h N st.h (N+1)/\st.h.get N=some (.cells (Kb s) 5 true)/\∃k,m=s.length-k/\k<=s.length/\r.get 49=some (.int .i64 k)/\r.get 6=some (.int .i64 (aE (s.take k):Nat))) s.length ?_ ?_ ?_
  ·exact⟨rfl,rfl,(ab.refl.set (aN _)).up (by omega),by simp,0,by omega,by omega,by simp,by simp[aE]⟩
  ·rintro m r ⟨H,n1,W⟩ hr hf ⟨hn,hW,hK,aA,k,rfl,hk,A4,h6⟩
   simp only at hn hW hK aA
   subst hn
   rw[bG]
   by_cases aD:k<s.length
   ·obtain⟨c,hc⟩:=bs aD
    have vf:=O6 hd hc
    have hb:=Yef hc
    have hv:=Zpg hc
    have ME:=T4 hd k hk
    have rZ:=T5 (a:=k) (b:=17) (by omega)
    have b1:¬9<cZ c-48:=by omega
    have b2:bn .u8 (cZ c-48)=cZ c-48:=Dx (by omega) (by omega)
    have b3:((aE (s.take (k+1)):Nat):Int)=(aE (s.take k):Nat)*10+(cZ c-48):=by
     rw[hv];unfold cZ at*;omega
    have b4:((aE (s.take k):Nat):Int)<100000000000000000:=by
     have:(10:Nat)^17=100000000000000000:=by decide
     omega
    generalize hy:aE (s.take (k+1))=y at*
    generalize aE (s.take k)=x at*
    simp(disch:=first|(simp;done)|omega|(simp only[bu,cr,bl];omega)|rfl) [A.ui,hr,hf,A4,h6,aD,aA,hb,b1,b2,hW]
    exact⟨_,by omega,hK,k+1,rfl,by omega,by simp,by rw[hy,b3]⟩
   ·have:k=s.length:=by omega
    subst this
    simp[A.ui,hr,hf,A4,hW]
    rw[Ay]at h6
    exact⟨hK,h6⟩
  ·rintro _ r ⟨H,n1,W⟩ hr ⟨hn,hW,hK,rfl,h6⟩
   simp only at hn hW hK
   subst hn
   simp[hr,ay,hW,hK,h6,hc,a1]
def Yum(hd:cO s=true)(h1:1<=s.length)(h2:s.length<=18):Fn A.C 211 [.str s] h N (fun v _ _=>v=.aU [.int .i64 (aE s:Nat),.aZ]):=by intro w;rw[aP,A.k211 (by simp)];simp[A.b211];refine au (Ymj hd h1 h2) ?_;rintro v h1 n1 k1 rfl;simp[bz,ay,k1]
end
end Go.Mx
