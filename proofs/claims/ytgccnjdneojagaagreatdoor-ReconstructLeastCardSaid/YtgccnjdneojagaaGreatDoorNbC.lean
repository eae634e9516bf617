/-num-/
import Derived.Test.YtgccnjdneojagaaGreatDoorNbB
set_option linter.all false
namespace Go.Mx
noncomputable section
open Go Go.Proofs
variable {N:Nat} {a b:Int} {h:T O} {r0:T V} {x y:V}
set_option maxHeartbeats 2000000
set_option maxRecDepth 1000000
def A.Ki:=A.q Tryz.f233
def A.tP:=A.qt A.Ki [] [] [1,1,1,1,1,1,1]
def A.oW:=(fun y0=>A.qt A.Ki [] [([1,1,1,1,1,1,1],y0)] [1,1]) A.tP
def A.b233:=(fun y0=>A.qt A.Ki [] [([1,1],y0)] []) A.oW
def A.k233:=@A.kk 233 84 [.cell 4 (some 2),.cell 5 (some 2)] A.b233 (by kernel_rfl) rfl
def A.b202:=A.q Tryz.f202
def A.k202:=@A.kk 202 21 [.cell 4 (some 2)] A.b202 (by kernel_rfl) rfl
def A.QC:=A.q Tryz.f200
def A.tQ:=A.ql A.QC 0 []
def A.b200:=(fun x0=>A.qb A.QC [x0]) A.tQ
def A.k200:=@A.kk 200 23 [.cell 4 (some 2)] A.b200 (by kernel_rfl) rfl
def Yca(hb:0<b):(if a.tmod b<0 then a.tdiv b-1 else a.tdiv b)=a/b/\(if a.tmod b<0 then a.tmod b+b else a.tmod b)=a%b:=by
 have h1:=Int.mul_tdiv_add_tmod a b;have h2:=Int.tmod_lt_of_pos a hb;have h3: -b<a.tmod b:=by have:=Int.tmod_lt_of_pos (-a) hb;rw[Int.neg_tmod]at this;omega
 have key:∀q r:Int,b*q+r=a->0<=r->r<b->q=a/b/\r=a%b:=by intro q r e r0 r1;have:=(Int.ediv_emod_unique hb (r:=r) (q:=q) (a:=a)).2 ⟨by omega,r0,r1⟩;exact⟨this.1.symm,this.2.symm⟩
 by_cases h:a.tmod b<0
 ·rw[av h,av h];exact key _ _ (by rw[Int.mul_sub];omega) (by omega) (by omega)
 rw[ak h,ak h];exact key _ _ (by omega) (by omega) h2
def Ykk(hb:0<b):∀q r:Int,q=(if decide (a<0)=true then -((a.natAbs/b.natAbs:Nat):Int) else (a.natAbs/b.natAbs:Nat))->r=(if decide (a<0)=true then -((a.natAbs%b.natAbs:Nat):Int) else (a.natAbs%b.natAbs:Nat))->(if r<0 then q-1 else q)=a/b/\(if r<0 then r+b else r)=a%b:=by
 intro q r hq hr;have h1:=wI a.natAbs b.natAbs;have h2:=m8 a.natAbs (show 0<b.natAbs by omega);have hbe:(b.natAbs:Int)=b:=by omega
 have g_:b*((a.natAbs/b.natAbs:Nat):Int)+((a.natAbs%b.natAbs:Nat):Int)=a.natAbs:=by rw[<-hbe,<-LN,<-Int.natCast_add,ed,h1]
 have key:∀q r:Int,b*q+r=a->0<=r->r<b->q=a/b/\r=a%b:=by intro q r e r0 r1;have:=(Int.ediv_emod_unique hb (r:=r) (q:=q) (a:=a)).2 ⟨by omega,r0,r1⟩;exact⟨this.1.symm,this.2.symm⟩
 generalize a.natAbs/b.natAbs=Q at*;generalize a.natAbs%b.natAbs=R at*;by_cases ha:a<0
 ·simp only[ha,decide_true,if_true]at hq hr;subst hq hr;by_cases h: -(R:Int)<0
  ·rw[av h,av h];exact key _ _ (by rw[Int.mul_sub,Int.mul_neg];omega) (by omega) (by omega)
  rw[ak h,ak h];exact key _ _ (by rw[Int.mul_neg];omega) (by omega) (by omega)
 simp only[ha,decide_false,ix,if_false]at hq hr;subst hq hr;rw[ak (by omega),ak (by omega)];exact key _ _ (by omega) (by omega) (by omega)
def Ywf(hb:0<b):wl (a%b)<=wl b:=by apply Kg;have h1:=Gf a hb;have h2:=Gl a (show b≠0 by omega);omega
def Zsa{c:Bool}{n:Nat}:(if c=true then -(n:Int) else (n:Int)).natAbs=n:=by split<;>omega
def Yqg{H:T O}{n m:Nat}{nq nr q s:Int}{uq ur:V}{W:List Nat}(hW:ay N W=[])(hK:ab h N H n)(hm:N+4<=m)(hmn:m+1<n)(hq:In H n (.agg [.int .i64 nq,uq]) q)(hr:In H n (.agg [.int .i64 nr,ur]) s)(oq:V.one uq=true)(or:V.one ur=true)
  (gz:H.get (N+2)=some (.cells [.int .i64 0,.aa] 94 true)) (gt:H.get (N+3)=some (.cells [.int .i64 0,.aa] 94 true)) (gq:H.get m=some (.cells [.int .i64 nq,uq] 94 true)) (gr:H.get (m+1)=some (.cells [.int .i64 nr,ur] 94 true))
  (r4:r0.get 4=some (.ptr (N+2) 0)) (r5:r0.get 5=some (.ptr (N+3) 0)) (MK:r0.get 14=some (.ptr m 0)) (r15:r0.get 15=some (.ptr (m+1) 0)):
  Code A.C none A.tP ⟨r0,84,[]⟩ ⟨H,n,W⟩ (fun e fr st=>e=.ret/\∃r,fr=⟨r,84,[]⟩/\r.get 4=some (.ptr (N+2) 0)/\r.get 5=some (.ptr (N+3) 0)/\Kd h N (N+2) q st/\Kd h N (N+3) s st):=by
 have n1:m<n:=by omega
 have n2:N+2<n:=by omega
 have n3:N+3<n:=by omega
 have d3:¬N+2=m:=by omega
 have d4:¬N+3=m:=by omega
 have d5:¬N+2=m+1:=by omega
 have d6:¬N+3=m+1:=by omega
 have d9:¬N+3=N+2:=by omega
 rw[bu];have k1:=(hK.set (i:=N+2) (o:=.cells [.int .i64 nq,uq] 94 true) (by omega)).set (i:=N+3) (o:=.cells [.int .i64 nr,ur] 94 true) (by omega);have jS:=(hq.aI (c1:=[.int .i64 nq,uq]) (e1:=94) (w1:=true) gz (by simp) rfl);have dJ:=(hr.aI (c1:=[.int .i64 nq,uq]) (e1:=94) (w1:=true) gz (by simp) rfl);have gt2:(H.set (N+2) (.cells [.int .i64 nq,uq] 94 true)).get (N+3)=some (.cells [.int .i64 0,.aa] 94 true):=by rw[T.ag,ak d9];exact gt
 have QD:=(jS.aI (c1:=[.int .i64 nr,ur]) (e1:=94) (w1:=true) gt2 (by simp) rfl);have P5:=(dJ.aI (c1:=[.int .i64 nr,ur]) (e1:=94) (w1:=true) gt2 (by simp) rfl);have fY:ay N ((N+3)::(N+2)::W)=[]:=by simp[ay,hW]
 unfold V.one at oq or;simp(disch:=omega) [A.tP,r4,r5,MK,r15,gz,gt,gq,gr,n1,n2,n3,hmn,oq,or,aS,aP,ae,bO];rw[wD (by simp[d3,d4,d5,d6]<;>omega)];simp[r4,r5];exact⟨⟨fY,k1,nq,uq,by simp,QD⟩,⟨fY,k1,nr,ur,by simp,P5⟩⟩
def Yuv{H:T O}{n1 n2:Int}{u1 u2:V}(hx:In H (N+4) (.agg [.int .i64 n1,u1]) a)(hy:In H (N+4) (.agg [.int .i64 n2,u2]) b)(hb:0<b)(la:wl a<10000000000)(lb:wl b<10000000000)(hK:ab h N H (N+4))(oy:V.one u2=true)
  (gx:H.get N=some (.cells [.int .i64 n1,u1] 94 true)) (gy:H.get (N+1)=some (.cells [.int .i64 n2,u2] 94 true)) (gz:H.get (N+2)=some (.cells [.int .i64 0,.aa] 94 true)) (gt:H.get (N+3)=some (.cells [.int .i64 0,.aa] 94 true)) (r2:r0.get 2=some (.ptr N 0)) (r3:r0.get 3=some (.ptr (N+1) 0)) (r4:r0.get 4=some (.ptr (N+2) 0)) (r5:r0.get 5=some (.ptr (N+3) 0)):
  Code A.C none A.oW ⟨r0,84,[]⟩ ⟨H,N+4,[]⟩ (fun e fr st=>e=.ret/\∃r,fr=⟨r,84,[]⟩/\r.get 4=some (.ptr (N+2) 0)/\r.get 5=some (.ptr (N+3) 0)/\Kd h N (N+2) (a/b) st/\Kd h N (N+3) (a%b) st):=by
 rw[bu];simp[A.oW,r2,gx,aS,aP];refine ar (Fp hx) ?_;rintro _ h1 N1 k1 ⟨ua,rfl,Qt⟩;have Qu:=(k1.get (N+1) (by omega)).trans gy;simp[r3,Qu,aS,aP];refine ar (Fp (hy.ad k1)) ?_;rintro _ h2 N2 k2 ⟨ub,rfl,Kh⟩;have ye:=Qt.ad k2;have Hu:(aJ a.natAbs).length<10000000000:=la;have Vk:(aJ b.natAbs).length<10000000000:=lb;simp[];refine ar (Zv8 ye Kh (by omega) (by omega) (by omega)) ?_;rintro _ h3 N3 k3 ⟨q,r,rfl,hq,hr⟩;simp[];have lq:=Hk (xD a.natAbs b.natAbs);have lr:=Hk (Nat.mod_le a.natAbs b.natAbs);refine ar (Hl hq (by omega)) ?_;rintro vq h4 N4 k4 Ap;simp[];refine ar (Hl (hr.ad k4) (by omega)) ?_;rintro vr h5 N5 k5 hr5;have kA:=(((k1.trans k2).trans k3).trans k4).trans k5;have zbU:=kA.le;have hq5:=Ap.ad k5;have gy5:=(kA.get (N+1) (by omega)).trans gy;have gz5:=(kA.get (N+2) (by omega)).trans gz;have gt5:=(kA.get (N+3) (by omega)).trans gt;obtain⟨qv,J3⟩:∃q,(if decide (a<0)=true then -((a.natAbs/b.natAbs:Nat):Int) else (a.natAbs/b.natAbs:Nat))=q:=⟨_,rfl⟩;obtain⟨rv,xj⟩:∃q,(if decide (a<0)=true then -((a.natAbs%b.natAbs:Nat):Int) else (a.natAbs%b.natAbs:Nat))=q:=⟨_,rfl⟩;rw[J3]at hq5;rw[xj]at hr5;obtain⟨e1,e2⟩:=Ykk hb qv rv J3.symm xj.symm;have wq:wl qv<20000000000:=by
  have:qv.natAbs=a.natAbs/b.natAbs:=by rw[<-J3];exact Zsa
  unfold wl;rw[this];omega
 have wr:wl rv<20000000000:=by
  have:rv.natAbs=a.natAbs%b.natAbs:=by rw[<-xj];exact Zsa
  unfold wl;rw[this];omega
 obtain⟨nq,uq,rfl,oq⟩:=hq5.cells;obtain⟨nr,ur,rfl,or⟩:=hr5.cells;have kB:=fun o1 o2=>aR (aR (ab.refl (h:=h5) (n:=N5)) o1) o2;have oq':=oq;have or':=or;unfold V.one at oq or oy;have d1:¬N5=N5+1:=by omega
 have gq6:(((h5.set N5 (.cells [.int .i64 0,.aa] 94 true)).set (N5+1) (.cells [.int .i64 0,.aa] 94 true)).set N5 (.cells [.int .i64 nq,uq] 94 true)).get N5=some (.cells [.int .i64 nq,uq] 94 true):=by simp
 simp[oq,or,ae,bO,aS,aP];have kC:=((kB (.cells [.int .i64 0,.aa] 94 true) (.cells [.int .i64 0,.aa] 94 true)).set (i:=N5) (o:=.cells [.int .i64 nq,uq] 94 true) (aM _)).set (i:=N5+1) (o:=.cells [.int .i64 nr,ur] 94 true) (by omega);generalize hH6:(((h5.set N5 (.cells [.int .i64 0,.aa] 94 true)).set (N5+1) (.cells [.int .i64 0,.aa] 94 true)).set N5 (.cells [.int .i64 nq,uq] 94 true)).set (N5+1) (.cells [.int .i64 nr,ur] 94 true)=H6 at*;have q6:H6.get N5=some (.cells [.int .i64 nq,uq] 94 true):=by rw[<-hH6];simp
 have r6:H6.get (N5+1)=some (.cells [.int .i64 nr,ur] 94 true):=by rw[<-hH6];simp
 have QE:=hq5.ad kC;have hr6:=hr5.ad kC;have gy6:=(kC.get (N+1) (by omega)).trans gy5;have gz6:=(kC.get (N+2) (by omega)).trans gz5;have gt6:=(kC.get (N+3) (by omega)).trans gt5;refine ar (J6 hr6) ?_;rintro _ h7 N7 k7 rfl;have zbV:=k7.le;have q7:=(k7.get N5 (by omega)).trans q6;have r7:=(k7.get (N5+1) (by omega)).trans r6;have gy7:=(k7.get (N+1) (by omega)).trans gy6;have gz7:=(k7.get (N+2) (by omega)).trans gz6;have gt7:=(k7.get (N+3) (by omega)).trans gt6;have QF:=QE.ad k7;have QG:=hr6.ad k7;have kF:=((hK.trans kA).trans kC).trans k7;have jV:¬N5<N:=by omega
 have nX:¬N5+1<N:=by omega
 have hWW:ay N [N5+1,N5]=[]:=by simp[ay,jV,nX]
 by_cases eg:rv<0
 ·have c1:dN rv<0:=by simp[dN,eg]
  rw[av eg]at e1 e2;have hn7:N5<N7:=by omega
  have zbW:N5+1<N7:=by omega
  have hny:N+1<N7:=by omega
  simp[c1,q7,aS,aP,hn7];refine ar J5 ?_;rintro _ h8 N8 k8 rfl;simp[];refine ar (Ypb (QF.ad k8) (In.small (z:=1) (by omega) (by omega)) (by omega) (by decide+kernel)) ?_;rintro vq9 h9 N9 k9 hq9;have k89:=k8.trans k9;have r9:=(k89.get (N5+1) (by omega)).trans r7;have y9:=(k89.get (N+1) (by omega)).trans gy7;have hr9:=QG.ad k89;have hb9:In h9 N9 (.agg [.int .i64 n2,u2]) b:=(((((hy.ad k1).ad k2).ad k3).ad k4).ad k5 |>.ad kC |>.ad k7).ad k89;have zbA:=k89.le;have z1:N5+1<N9:=by omega
  have z2:N+1<N9:=by omega
  simp[r3,r9,y9,aS,aP,z1,z2];refine ar (Qy hr9 hb9 (by omega) (by omega)) ?_;rintro zbX jU N10 k10 QH;have zbB:=k10.le;have QI:=hq9.ad k10;obtain⟨Vl,Vm,rfl,oq2⟩:=QI.cells;obtain⟨nr2,ur2,rfl,or2⟩:=QH.cells;have q10:=(k10.get N5 (by omega)).trans ((k89.get N5 (by omega)).trans q7);have wM:=(k10.get (N5+1) (by omega)).trans r9;have Yg:=(k10.get (N+2) (by omega)).trans ((k89.get (N+2) (by omega)).trans gz7);have t10:=(k10.get (N+3) (by omega)).trans ((k89.get (N+3) (by omega)).trans gt7);have zaF:=oq2;have zaG:=or2;unfold V.one at oq2 or2;have z3:N5<N10:=by omega
  have z4:N5+1<N10:=by omega
  simp[q10,wM,oq2,or2,ae,bO,z3,z4];have q11:=QI.aI (c1:=[.int .i64 Vl,Vm]) (e1:=94) (w1:=true) q10 QF.nu rfl;have yf:=QH.aI (c1:=[.int .i64 Vl,Vm]) (e1:=94) (w1:=true) q10 QF.nu rfl;have QJ:(jU.set N5 (.cells [.int .i64 Vl,Vm] 94 true)).get (N5+1)=some (.cells [.int .i64 nr,ur] 94 true):=by rw[T.ag,ak (by omega)];exact wM
  have q12:=q11.aI (c1:=[.int .i64 nr2,ur2]) (e1:=94) (w1:=true) QJ QG.nu rfl;have QK:=yf.aI (c1:=[.int .i64 nr2,ur2]) (e1:=94) (w1:=true) QJ QG.nu rfl;rw[e1]at q12;rw[e2]at QK;have kG:=(((kF.trans k89).trans k10).set (i:=N5) (o:=.cells [.int .i64 Vl,Vm] 94 true) (by omega)).set (i:=N5+1) (o:=.cells [.int .i64 nr2,ur2] 94 true) (by omega);refine mO (Yqg (m:=N5) (by simp[ay,jV,nX]) kG (by omega) (by omega) q12 QK zaF zaG (by rw[T.ag,ak (by omega),T.ag,ak (by omega)];exact Yg) (by rw[T.ag,ak (by omega),T.ag,ak (by omega)];exact t10) (by simp) (by simp) (by simp[r4]) (by simp[r5]) (by simp) (by simp)) ?_;rintro e fr st ⟨rfl,r,rfl,p1,p2,p3,p4⟩;simp[p1,p2];exact⟨p3,p4⟩
 have c1:¬dN rv<0:=by unfold dN;rw[ak eg];split<;>omega
 rw[ak eg]at e1 e2;rw[e1]at QF;rw[e2]at QG;simp[c1];refine mO (Yqg hWW kF (by omega) (by omega) QF QG oq' or' gz7 gt7 q7 r7 (by simp[r4]) (by simp[r5]) (by simp) (by simp)) ?_;rintro e fr st ⟨rfl,r,rfl,p1,p2,p3,p4⟩;simp[p1,p2];exact⟨p3,p4⟩
def Zwa(hx:In h N x a)(hy:In h N y b)(hb:0<b)(la:wl a<10000000000)(lb:wl b<10000000000):Fn A.C 233 [x,y] h N (fun v h' n'=>∃q r,v=.aX [q,r]/\In h' n' q (a/b)/\In h' n' r (a%b)):=by
 intro w;rw[aQ,A.k233 (by simp)];obtain⟨n1,u1,rfl,o1⟩:=hx.cells;obtain⟨n2,u2,rfl,o2⟩:=hy.cells;have kk:=aR (aR (aR (aR (ab.refl (h:=h) (n:=N)) (.cells [.int .i64 n1,u1] 94 true)) (.cells [.int .i64 n2,u2] 94 true)) (.cells [.int .i64 0,.aa] 94 true)) (.cells [.int .i64 0,.aa] 94 true);have Vn:=o2;unfold V.one at o1 o2;have go:∀r:T V,r.get 2=some (.ptr N 0)->r.get 3=some (.ptr (N+1) 0)->r.get 4=some (.ptr (N+2) 0)->r.get 5=some (.ptr (N+3) 0)->bE A.C [.fin [.cell 4 (some 2),.cell 5 (some 2)] ⟨h,N,w⟩] (fl (A.C.code none A.oW ⟨r,84,[]⟩ ⟨(((h.set N (.cells [.int .i64 n1,u1] 94 true)).set (N+1) (.cells [.int .i64 n2,u2] 94 true)).set (N+1+1) (.cells [.int .i64 0,.aa] 94 true)).set (N+1+1+1) (.cells [.int .i64 0,.aa] 94 true),N+1+1+1+1,[]⟩)) (EU (az (fun v h' n'=>∃q r,v=.aX [q,r]/\In h' n' q (a/b)/\In h' n' r (a%b)) h N w)):=by intro r r2 r3 r4 r5;refine mO (Yuv (hx.ad kk) (hy.ad kk) hb la lb kk Vn (by simp) (by simp) (by simp) (by simp) r2 r3 r4 r5) ?_;rintro e fr ⟨h5,n5,w5⟩ ⟨rfl,r',rfl,Qz,r5',⟨hW,hK,n6,u6,g6,hi⟩,⟨_,_,n7,u7,g7,hi7⟩⟩;simp only at hW hK g6 hi g7 hi7;simp[Qz,r5',g6,g7,aS,aP,az,hW];exact⟨hK,_,_,⟨rfl,rfl⟩,hi,hi7⟩
 rcases id hx with⟨e1,s1,s2⟩|⟨i,o,l,c,e1,_⟩
 ·simp only[V.agg.injEq,jc,V.int.injEq,true_and,and_true]at e1;obtain⟨rfl,rfl⟩:=e1;rcases id hy with⟨e2,t1,t2⟩|⟨i,o,l,c,e2,_⟩
  ·simp only[V.agg.injEq,jc,V.int.injEq,true_and,and_true]at e2;obtain⟨rfl,rfl⟩:=e2;by_cases rD:n1= -9223372036854775808
   ·simp[A.b233,aS,bA,rD];subst rD;exact go _ (by simp) (by simp) (by simp) (by simp)
   have hz:¬n2=0:=by omega
   obtain⟨f1,f2⟩:=Yca (a:=n1) hb;have b1:(n1.tdiv n2).natAbs<=n1.natAbs:=by rw[Int.natAbs_tdiv];exact xD _ _
   have b2:(n1.tmod n2).natAbs<=n1.natAbs:=by rw[Int.natAbs_tmod];exact Nat.mod_le _ _
   have b3:=Int.tmod_lt_of_pos n1 hb;obtain⟨q,hq⟩:∃q,n1.tdiv n2=q:=⟨_,rfl⟩;obtain⟨s,hs⟩:∃q,n1.tmod n2=q:=⟨_,rfl⟩;rw[hq]at b1 f1;rw[hs]at b2 b3 f1 f2;have w1:bn .i64 q=q:=cL (by omega) (by omega);by_cases eg:s<0
   ·rw[av eg]at f1 f2;have w2:bn .i64 (s+n2)=s+n2:=cL (by omega) (by omega);have xW: -9223372036854775808<q:=by have:=Int.mul_tdiv_add_tmod n1 n2;omega
    have w3:bn .i64 (q-1)=q-1:=cL (by omega) (by omega);simp[A.b233,aS,aP,ae,bA,rD,hz,hq,hs,w1,w2,w3,eg,az,dv.dw];exact⟨(kk.set (by omega)).set (by omega),_,_,⟨rfl,rfl⟩,by rw[<-f1];exact In.small (by omega) (by omega),by rw[<-f2];exact In.small (by omega) (by omega)⟩
   rw[ak eg]at f1 f2;simp[A.b233,aS,aP,ae,bA,rD,hz,hq,hs,w1,eg,az,dv.dw];exact⟨(kk.set (by omega)).set (by omega),_,_,⟨rfl,rfl⟩,by rw[<-f1];exact In.small (by omega) (by omega),by rw[<-f2];exact In.small (by omega) (by omega)⟩
  simp only[V.agg.injEq,jc,V.int.injEq,true_and,and_true]at e2;obtain⟨rfl,rfl⟩:=e2;simp[A.b233,aS,bA];exact go _ (by simp) (by simp) (by simp) (by simp)
 simp only[V.agg.injEq,jc,V.int.injEq,true_and,and_true]at e1;obtain⟨rfl,rfl⟩:=e1;simp[A.b233,aS,bA,o2];exact go _ (by simp) (by simp) (by simp) (by simp)
def Ypq(hx:In h N x a)(hy:In h N y b)(hb:0<b)(la:wl a<10000000000)(lb:wl b<10000000000):Fn A.C 202 [x,y] h N (fun v h' n'=>In h' n' v (a/b)):=by
 intro w;rw[aQ,A.k202 (by simp)];obtain⟨n1,u1,rfl,o1⟩:=hx.cells;obtain⟨n2,u2,rfl,o2⟩:=hy.cells;have kk:=aR (aR (aR (ab.refl (h:=h) (n:=N)) (.cells [.int .i64 n1,u1] 94 true)) (.cells [.int .i64 n2,u2] 94 true)) (.cells [.int .i64 0,.aa] 94 true);have kL:=hx.ad kk;have vt:=hy.ad kk;have EZ:=J6 vt;unfold V.one at o1 o2;have c1:¬dN b<0:=by unfold dN;rw[ak (by omega)];split<;>omega
 simp[A.b202,aS,aP,o1,o2];refine ar EZ ?_;rintro _ h1 m1 k1 rfl;have fM:=k1.le;have g0:=k1.get N (by omega);have g1:=k1.get (N+1) (by omega);have g2:=k1.get (N+1+1) (by omega);simp at g0 g1 g2;simp[c1,g0,g1,aS,aP];refine ar (Zwa (kL.ad k1) (vt.ad k1) hb la lb) ?_;rintro _ h2 m2 k2 ⟨q,r,rfl,hq,hr⟩;have iX:=k2.le;have g22:=(k2.get (N+1+1) (by omega)).trans g2;obtain⟨n3,u3,rfl,o3⟩:=hq.cells;obtain⟨n4,u4,rfl,o4⟩:=hr.cells;unfold V.one at o3 o4;have d2:¬N+1+1=m2:=by omega
 have jV:¬m2<N:=by omega
 have Kj:¬m2+1<N:=by omega
 have nX:¬N+1+1<N:=by omega
 have kE:=((aR (aR (ab.refl (h:=h2) (n:=m2)) (.cells [.int .i64 0,.aa] 94 true)) (.cells [.int .i64 0,.aa] 94 true)).set (i:=m2) (o:=.cells [.int .i64 n3,u3] 94 true) (aM _)).set (i:=m2+1) (o:=.cells [.int .i64 n4,u4] 94 true) (by omega);have g23:=(kE.get (N+1+1) (by omega)).trans g22;have d4:¬N+1=m2:=by omega
 simp[g22,aS,aP,ae,bO,o3,o4,d2,d4,az,jV,Kj,nX];exact⟨(((kk.trans k1).trans k2).trans kE).set (by omega),(hq.ad kE).aI g23 (by simp) rfl⟩
structure Vo (h:T O) (N G m:Nat) (r:T V) (st:St):Prop where
 w:ay N st.w=[]
 ad:ab h N st.h st.n
 le:N+3<=st.n
 row:st.h.get (N+2)=some (.cells [.int .i64 0,.aa] 94 true)
 ex:∃(n1 n2:Int) (u1 u2:V) (p:Nat),st.h.get N=some (.cells [.int .i64 n1,u1] 94 true)/\st.h.get (N+1)=some (.cells [.int .i64 n2,u2] 94 true)/\In st.h st.n (.agg [.int .i64 n1,u1]) p/\In st.h st.n (.agg [.int .i64 n2,u2]) m/\Nat.gcd p m=G/\wl p<10000000000/\wl m<10000000000
def Yns{G:Nat}(a2:r0.get 2=some (.ptr N 0))(a3:r0.get 3=some (.ptr (N+1) 0)):
  ∀x r st,(∀t,j_ [(5,6),(11,21)] t=false->r.get t=r0.get t)->Fx [(5,6),(11,21)] r0 23 ⟨r,23,[]⟩->Vo h N G x r st->Code A.C none A.tQ ⟨r,23,[]⟩ st (Rd [(5,6),(11,21)] r0 23 (Vo h N G) x (fun e r st=>e=.exit 0/\Vo h N G 0 r st)):=by
 rintro m r ⟨H,n0,W⟩ hr hf ⟨hW,hK,hle,aA,n1,n2,u1,u2,p,g0,g1,hp,hm,hg,lp,lm⟩;simp only at hW hK hle aA g0 g1 hp hm;rw[bu];simp[A.tQ,hr,a3,g1,aS,aP];refine ar (J6 hm) ?_;rintro _ h1 m1 k1 rfl;have fM:=k1.le;have f0:=(k1.get N (by omega)).trans g0;have f1:=(k1.get (N+1) (by omega)).trans g1;have f2:=(k1.get (N+2) (by omega)).trans aA;by_cases h0:m=0
 ·subst h0;simp[hf,dN];exact⟨hW,hK.trans k1,by show N+3<=m1;omega,f2,n1,n2,u1,u2,p,f0,f1,hp.ad k1,hm.ad k1,hg,lp,lm⟩
 have c1:¬dN m=0:=by unfold dN;rw[ak (by omega),ak (by omega)];decide
 simp[hr,a2,a3,c1,f0,f1,aS,aP];refine ar (Zwa (hp.ad k1) (hm.ad k1) (by omega) lp lm) ?_;rintro _ h2 m2 k2 ⟨q,s,rfl,hq,hs⟩;have iX:=k2.le;have e0:=(k2.get N (by omega)).trans f0;have e1:=(k2.get (N+1) (by omega)).trans f1;have e2:=(k2.get (N+2) (by omega)).trans f2;obtain⟨n3,u3,rfl,o3⟩:=hq.cells;obtain⟨n4,u4,rfl,o4⟩:=hs.cells;obtain⟨_,_,e5,o2⟩:=hm.cells;simp only[V.agg.injEq,jc,V.int.injEq,true_and,and_true]at e5;obtain⟨rfl,rfl⟩:=e5;unfold V.one at o3 o4 o2;have kE:=((aR (aR (ab.refl (h:=h2) (n:=m2)) (.cells [.int .i64 0,.aa] 94 true)) (.cells [.int .i64 0,.aa] 94 true)).set (i:=m2) (o:=.cells [.int .i64 n3,u3] 94 true) (aM _)).set (i:=m2+1) (o:=.cells [.int .i64 n4,u4] 94 true) (by omega);have i0:=(kE.get N (by omega)).trans e0;have i1:=(kE.get (N+1) (by omega)).trans e1;have i2:=(kE.get (N+2) (by omega)).trans e2;have d1:¬m2=m2+1:=by omega
 have d2:¬N=m2:=by omega
 have d3:¬N=m2+1:=by omega
 have d4:¬N+1=m2:=by omega
 have d5:¬N+1=m2+1:=by omega
 have d6:¬m2=N:=by omega
 have d7:¬m2+1=N:=by omega
 have d8:¬m2=N+1:=by omega
 have d9:¬m2+1=N+1:=by omega
 have d10:¬N=N+1:=by omega
 have l1:N<m2+1+1:=by omega
 have l2:N+1<m2+1+1:=by omega
 simp(disch:=first|(simp;done)|omega|(simp only[bz,cm,bl];omega)|rfl) [hr,hf,a2,a3,e0,e1,aS,aP,ae,bO,o2,o3,o4,d1,d2,d3,d4,d5,d6,d7,d8,d9,d10,l1,l2,dv.dw];rw[wD (by simp[d2,d3]<;>omega)];simp[hf];have jV:¬m2<N:=by omega
 have Kj:¬m2+1<N:=by omega
 have q1:=((hm.ad k1).ad k2).ad kE;have s1:=hs.ad kE;have q2:=q1.aI (c1:=[.int .i64 n2,u2]) (e1:=94) (w1:=true) i0 hp.nu rfl;have s2:=s1.aI (c1:=[.int .i64 n2,u2]) (e1:=94) (w1:=true) i0 hp.nu rfl;have i3:(((((h2.set m2 (.cells [.int .i64 0,.aa] 94 true)).set (m2+1) (.cells [.int .i64 0,.aa] 94 true)).set m2 (.cells [.int .i64 n3,u3] 94 true)).set (m2+1) (.cells [.int .i64 n4,u4] 94 true)).set N (.cells [.int .i64 n2,u2] 94 true)).get (N+1)=some (.cells [.int .i64 n2,u2] 94 true):=by rw[T.ag,ak (by omega)];exact i1
 have q3:=q2.aI (c1:=[.int .i64 n4,u4]) (e1:=94) (w1:=true) i3 hm.nu rfl;have s3:=s2.aI (c1:=[.int .i64 n4,u4]) (e1:=94) (w1:=true) i3 hm.nu rfl;refine⟨p%m,m8 _ (by omega),by simp[ay,hW,jV,Kj],((((hK.trans k1).trans k2).trans kE).set (aM _)).set (by omega),by show N+3<=m2+1+1;omega,?_,n2,n4,u2,u4,m,by simp,by simp,q3,?_,?_,lm,?_⟩
 ·rw[T.ag,ak (by omega),T.ag,ak (by omega)];exact i2
 ·rw[<-Int.natCast_emod]at s3;exact s3
 ·rw[<-hg,Nat.gcd_comm p m,Nat.gcd_rec m p,Nat.gcd_comm]
 have:=Ywf (a:=(p:Int)) (b:=(m:Int)) (by omega);rw[<-Int.natCast_emod]at this;omega
def Yp8(hx:In h N x a)(hy:In h N y b)(la:wl a<10000000000)(lb:wl b<10000000000):Fn A.C 200 [x,y] h N (fun v h' n'=>In h' n' v (Int.gcd a b:Nat)):=by
 intro w;rw[aQ,A.k200 (by simp)];obtain⟨n1,u1,rfl,o1⟩:=hx.cells;obtain⟨n2,u2,rfl,o2⟩:=hy.cells;have kk:=aR (aR (aR (ab.refl (h:=h) (n:=N)) (.cells [.int .i64 n1,u1] 94 true)) (.cells [.int .i64 n2,u2] 94 true)) (.cells [.int .i64 0,.aa] 94 true);have kL:=hx.ad kk;have vt:=hy.ad kk;unfold V.one at o1 o2;simp[A.b200,aS,aP,o1,o2];refine ar (Yqr kL (by omega)) ?_;rintro v1 h1 m1 k1 nT;have fM:=k1.le;have g1:=k1.get (N+1) (by omega);simp at g1;have l1:N+1<m1:=by omega
 simp[g1,l1,aS,aP];refine ar (Yqr (vt.ad k1) (by omega)) ?_;rintro v2 h2 m2 k2 jQ;have J1:=nT.ad k2;have k12:=k1.trans k2;have iX:=k2.le;obtain⟨n3,u3,rfl,o3⟩:=nT.cells;obtain⟨n4,u4,rfl,o4⟩:=jQ.cells;unfold V.one at o3 o4;have i0:=k12.get N (by omega);have i1:=k12.get (N+1) (by omega);have i2:=k12.get (N+1+1) (by omega);simp at i0 i1 i2;have l2:N<m2:=by omega
 have l3:N+1<m2:=by omega
 have l4:N<m1:=by omega
 simp[i0,i1,ae,bO,o3,o4,l1,l2,l3,l4,dv.dw];have q1:=J1.aI (c1:=[.int .i64 n3,u3]) (e1:=94) (w1:=true) i0 hx.nu rfl;have s1:=jQ.aI (c1:=[.int .i64 n3,u3]) (e1:=94) (w1:=true) i0 hx.nu rfl;have i3:(h2.set N (.cells [.int .i64 n3,u3] 94 true)).get (N+1)=some (.cells [.int .i64 n2,u2] 94 true):=by rw[T.ag,ak (by omega)];exact i1
 have q2:=q1.aI (c1:=[.int .i64 n4,u4]) (e1:=94) (w1:=true) i3 hy.nu rfl;have s2:=s1.aI (c1:=[.int .i64 n4,u4]) (e1:=94) (w1:=true) i3 hy.nu rfl;have wa:wl (a.natAbs:Int)=wl a:=by unfold wl;rw[ed]
 have wb:wl (b.natAbs:Int)=wl b:=by unfold wl;rw[ed]
 refine b_ [(5,6),(11,21)] _ (Vo h N (Int.gcd a b)) b.natAbs ?_ (Yns (by simp) (by simp)) ?_
 ·refine⟨by simp[ay],((kk.trans k12).set (aM _)).set (by omega),by show N+3<=m2;omega,?_,n3,n4,u3,u4,a.natAbs,by simp,by simp,q2,s2,rfl,by rw[wa];exact la,by rw[wb];exact lb⟩;rw[T.ag,ak (by omega),T.ag,ak (by omega)];exact i2
 rintro e r ⟨h5,m5,W5⟩ hr ⟨rfl,hW,hK,hle,aA,n5,n6,u5,u6,p,g5,g6,hp,hm,hg,lp,lm⟩;simp only at hW hK hle aA g5 g6 hp hm;obtain⟨_,_,e5,o5⟩:=hp.cells;simp only[V.agg.injEq,jc,V.int.injEq,true_and,and_true]at e5;obtain⟨rfl,rfl⟩:=e5;unfold V.one at o5;rw[Nat.gcd_zero_right]at hg;have Hv:h5.get (N+1+1)=some (.cells [.int .i64 0,.aa] 94 true):=aA;have jV:¬N+1+1<N:=by omega
 simp[hr,g5,Hv,aS,aP,ae,bO,o5,az,hW,jV];exact⟨hK.set (by omega),by rw[<-hg];exact hp.aI Hv (by simp) rfl⟩
def A.b105:=A.q Tryz.f105
def A.k105:=@A.kk 105 7 [.tmp 4] A.b105 (by kernel_rfl) rfl
def A.b199:=A.q Tryz.f199
def A.k199:=@A.kk 199 7 [.tmp 4] A.b199 (by kernel_rfl) rfl
def Ye6{b:Bool}{e:Int}{st:St}:A.C.call (.func 105 [] []) [.bool b,.int .i64 e] st=some (.int .i64 (if b=true then e else 0),st):=by apply Call.eq;rw[aQ,A.k105 (by simp)];cases b<;>simp[A.b105]
def Fv{b:Bool}{e:Int}{st:St}:A.C.call (.func 199 [] []) [.bool b,.int .i64 e] st=some (.int .i64 (if b=true then e else 0),st):=by apply Call.eq;rw[aQ,A.k199 (by simp)];cases b<;>simp[A.b199]
variable {s:aG}
def A.b251:=A.q Tryz.f251
def A.k251:=@A.kk 251 18 [.tmp 4] A.b251 (by kernel_rfl) rfl
def A.b196:=A.q Tryz.f196
def A.k196:=@A.kk 196 11 [.tmp 4,.tmp 5] A.b196 (by kernel_rfl) rfl
def A.b230:=A.q Tryz.f230
def A.k230:=@A.kk 230 15 [.tmp 4,.tmp 5] A.b230 (by kernel_rfl) rfl
def A.b209:=A.q Tryz.f209
def A.k209:=@A.kk 209 8 [.tmp 4] A.b209 (by kernel_rfl) rfl
def A.b238:=A.q Tryz.f238
def A.k238:=@A.kk 238 13 [.tmp 4] A.b238 (by kernel_rfl) rfl
def A.b225:=A.q Tryz.f225
def A.k225:=@A.kk 225 8 [.tmp 4] A.b225 (by kernel_rfl) rfl
def A.b269:=A.q Tryz.f269
def A.k269:=@A.kk 269 8 [.tmp 4] A.b269 (by kernel_rfl) rfl
def A.QL:=A.q Tryz.f250
def A.Fw:=A.ql A.QL 0 []
def A.b250:=(fun x0=>A.qb A.QL [x0]) A.Fw
def A.k250:=@A.kk 250 143 [.tmp 4] A.b250 (by kernel_rfl) rfl
def A.b224:=A.q Tryz.f224
def A.k224:=@A.kk 224 23 [.tmp 4,.tmp 5,.tmp 6] A.b224 (by kernel_rfl) rfl
def A.b173:=A.q Tryz.f173
def A.k173:=@A.kk 173 13 [.tmp 4,.tmp 5,.tmp 6] A.b173 (by kernel_rfl) rfl
def QM{s:aG}{st:St}:A.C.call (.func 251 [] []) [.str s,.str [45]] st=some (.bool (cD s),st):=by
 apply Call.eq;rw[aQ,A.k251 (by simp)];cases s with
 |nil=>simp[A.b251,cD]
 |cons c s=>
  have e:(([c]:aG)==[45])=decide (c.toNat=45):=by rw[Bool.eq_iff_iff];simp only[beq_iff_eq,decide_eq_true_eq,jc,and_true];exact⟨fun h=>by rw[h];rfl,fun h=>UInt8.toNat_inj.1 h⟩
  have h1:(1:Int)<=(s.length:Int)+1:=by omega
  simp[A.b251,cD,aC,e,h1]
def Zwf{st:St}:A.C.call (.func 196 [] []) [.str s,.str [45]] st=some (.aX [.str (bm s),.bool (cD s)],st):=by
 apply Call.eq;rw[aQ,A.k196 (by simp)];simp[A.b196];rw[A.k230 (by simp)];by_cases hn:cD s=true
 ·have h1:1<=s.length:=by cases s<;>simp[cD]at hn ⊢
  have g_:(1:Int)<=s.length:=by omega
  simp[A.b230,QM,hn,aC,g_,bm]
 simp[A.b230,QM,hn,bm]
def Zlp{st:St}:A.C.call (.func 209 [] []) [.str s,.str [45]] st=some (.str (bm s),st):=by
 apply Call.eq;rw[aQ,A.k209 (by simp)];simp[A.b209];rw[A.k238 (by simp)];by_cases hn:cD s=true
 ·have h1:1<=s.length:=by cases s<;>simp[cD]at hn ⊢
  have g_:(1:Int)<=s.length:=by omega
  simp[A.b238,QM,hn,aC,g_,bm]
 simp[A.b238,QM,hn,bm]
def Zv0{st:St}:A.C.call (.func 225 [] []) [.str s,.str [45]] st=some (.bool (cD s),st):=by apply Call.eq;rw[aQ,A.k225 (by simp)];simp[A.b225,QM]
def Zvz{st:St}:A.C.call (.func 269 [] []) [.str s,.int .u8 47] st=some (.int .i64 (if ah s<s.length then (ah s:Int) else -1),st):=by apply Call.eq;rw[aQ,A.k269 (by simp)];have e:=Zmc s 0;simp only[yR]at e;simp[A.b269,JT,EC,e]
def Ybb{st:St}:A.C.call (.func 250 [] []) [.str s,.str [47]] st=some (.int .i64 (if ah s<s.length then (ah s:Int) else -1),st):=by
 apply Call.eq;rw[aQ,A.k250 (by simp)];by_cases hs:s=[47]
 ·subst hs;simp[A.b250,ah]
 have e1:(([47]:aG)==s)=false:=by simp;exact fun h=>hs h.symm
 have e2:cX 47=47:=rfl;simp[A.b250,Zvz,e1,e2]
def Yqj{st:St}(hl:s.length<4611686018427387904):A.C.call (.func 173 [] []) [.str s,.str [47]] st=some (.aX [.str (s.take (ah s)),.str (s.drop (ah s+1)),.bool (decide (ah s<s.length))],st):=by
 apply Call.eq;rw[aQ,A.k173 (by simp)];simp[A.b173];rw[A.k224 (by simp)];have hle:=GS s;by_cases hs:ah s<s.length
 ·simp(disch:=first|(simp;done)|omega|(simp only[bz,cm,bl];omega)|rfl) [A.b224,Ybb,hs,aC];try omega
 have:s.take (ah s)=s:=fU (by omega);have h2:s.drop (ah s+1)=[]:=BA (by omega);simp(disch:=first|(simp;done)|omega|(simp only[bz,cm,bl];omega)|rfl) [-getElem?_pos,A.b224,Ybb,hs,this,h2]
variable {N i:Nat} {h:T O} {rw:Bool} {s:aG}
def A.b231:cF:=sr [ge 4 (.vD (.const (.str [])))] (.seq (sr [mv 7 0,ge 8 (.bin .eql (.fF .str) true (tq 7) (.const (.str []))),mv 9 8,mh 10 1 9,gz 11 9 (.bin .eql (.fF .str) true (tq 10) (.const (.str []))),pt 12 9 11] (cd 12 (sr [mv 13 0,mv 4 13] (.ret)) (.skip))) (.seq (sr [mv 14 1,ge 15 (.len 0 (tq 14)),ei 16 15 1,mv 17 16,mg 18 1 17,gy 19 17 (.bN (tq 18) (kq 0)),gy 20 17 (.bin .lss (.node []) false (tq 19) (.const (.int .u8 128))),pf 21 17 20] (cd 21 (.seq (.gK [mv 22 0,mv 23 1,ge 24 (.bN (tq 23) (kq 0)),c2 25 255 22 24,mv 26 1,ge 27 (.bN (tq 26) (kq 0)),c2 28 254 25 27,mv 4 28] [0,0,2,7,0,16,63,127]) (.ret)) (.skip))) (.seq (sr [mv 30 1,c1 31 256 30,mv 29 31,xt 32 29 0,xt 33 29 1,ge 5 (.alloc (pZ 0) 246),gn (.store 256 (tq 5) (tq 32)),mv 6 33] (sr [mv 34 6] (cd 34 (sr [mv 35 0,c2 36 258 35 5,c2 37 257 36 5,mv 4 37] (.ret)) (.skip)))) (sr [mv 38 0,mv 39 1,c2 40 260 38 39,mv 41 1,c2 42 259 40 41,mv 4 42] (.ret)))))
def A.k231:=@A.kk 231 43 [.tmp 4] A.b231 (by kernel_rfl) rfl
def A.tR:cF:=.seq (sr [mv 6 4,mv 7 0,ge 8 (.len 0 (tq 7)),bi 9 .lss 6 8] (cd 9 (.skip) (.exit 0))) (.seq (.block 1 (sr [mv 12 0,mv 13 4,ge 14 (.bN (tq 12) (tq 13)),mv 5 14] (.seq (sr [mv 15 5,ge 16 (.bin .geq (.node []) false (tq 15) (.const (.int .u8 128)))] (cd 16 (sr [lN 17 256 2,gn (.store 256 (tq 2) (tq 17)),ge 3 (.vD (.const (.bool false)))] (.ret)) (.skip))) (.gw [mv 18 5,ge 19 (.iP 256 1 (tq 2) (tq 18)),gn (.store 1 (tq 19) (.const (.bool true)))])))) (.gw [mv 10 4,bc 11 .add 10 1,mv 4 11]))
def A.b256:cF:=sr [ge 2 (.alloc (pZ 0) 246),ge 3 (.vD (.const (.bool false)))] (.seq (sr [mc 4 0] (.block 0 (.loop A.tR))) (sr [lN 20 256 2,gn (.store 256 (tq 2) (tq 20)),ge 3 (.vD (.const (.bool true)))] (.ret)))
def A.k256:=@A.kk 256 21 [.cell 2 (some 256),.tmp 3] A.b256 (by kernel_rfl) rfl
def A.QN:=A.q Tryz.f257
def A.oX:=A.ql A.QN 0 []
def A.b257:=(fun x0=>A.qb A.QN [x0]) A.oX
def A.k257:=@A.kk 257 16 [.tmp 4] A.b257 (by kernel_rfl) rfl
def A.QO:=A.q Tryz.f258
def A.oY:=A.ql A.QO 0 []
def A.b258:=(fun x0=>A.qb A.QO [x0]) A.oY
def A.k258:=@A.kk 258 22 [.tmp 4] A.b258 (by kernel_rfl) rfl
def A.b278:=A.q Tryz.f278
def A.k278:=@A.kk 278 10 [.tmp 4] A.b278 (by kernel_rfl) rfl
def A.b197:=A.q Tryz.f197
def A.k197:=@A.kk 197 19 [.tmp 2] A.b197 (by kernel_rfl) rfl
def Ydh:Fn A.C 256 [(.str [48,49,50,51,52,53,54,55,56,57])] h N (fun v _ _=>v=.aX [.agg (pZ 10),.bool true]):=by
 intro w;rw[aQ,A.k256 (by simp)];simp[A.b256];refine b_ [(3,19)] (fun e r st=>e=.exit 0/\st.n=N+1/\ay N st.w=[]/\ab h N st.h (N+1)/\st.h.get N=some (.cells (pZ 10) 246 true)) (fun m r st=>st.n=N+1/\ay N st.w=[]/\ab h N st.h (N+1)/\∃k,m=10-k/\k<=10/\r.get 4=some (.int .i64 k)/\st.h.get N=some (.cells (pZ k) 246 true)) 10 ?_ ?_ ?_
 ·exact⟨rfl,rfl,(ab.refl.set (aM _)).up (by omega),0,by omega,by omega,by simp,by simp⟩
 ·rintro m r ⟨H,n1,W⟩ hr hf ⟨hn,hW,hK,k,rfl,hk,h4,aA⟩;simp only at hn hW hK aA;subst hn;rw[bu];by_cases aE:k<10
  ·obtain⟨c,hc,hcu⟩:=Yn6 aE;unfold Xaw at hc;have a1:¬128<=cX c:=by omega
   have a2:cX c<256:=by omega
   have a3:0<=cX c:=by omega
   have a4:(cX c).toNat=48+k:=by omega
   have bG:(k:Int)<10:=by omega
   have hs:=Yox aE;have q1:=BK k;simp(disch:=first|(simp;done)|omega|(simp only[bz,cm,bl];omega)|rfl) [-getElem?_pos,A.tR,hr,hf,h4,bG,hc,a1,a2,a3,a4,hs,aA,hW];exact⟨_,by omega,hK.set (aM N),k+1,rfl,by omega,by simp,rfl⟩
  have:k=10:=by omega
  subst this;simp[A.tR,hr,hf,h4,aA,hW];exact hK
 rintro e r ⟨H,n1,W⟩ hr ⟨rfl,hn,hW,hK,aA⟩;simp only at hn hW hK aA;subst hn;have q1:=BK 10;simp[hr,az,hW,aA,aS,aP,BK,Yb2];exact hK.set (aM N)
def Zqr{c:UInt8}{w:List Nat}{e:TypeId}(hr:h.get i=some (.cells (pZ 10) e rw)):A.C.call (.func 278 [] []) [.ptr i 0,.int .u8 (cX c)] ⟨h,N,w⟩=some (.bool (mQ c),⟨h,N,w⟩):=by
 apply Call.eq;rw[aQ,A.k278 (by simp)];have hu:=Yfa c;have e2:(pZ 10)[(cX c).toNat]?=some (.bool (mQ c)):=by rw[Mc (by omega),Yjj];congr 2;rw[decide_eq_decide];omega
 simp(disch:=omega) [A.b278,hr,hu,e2]
def Yn8{k:Nat}{c:UInt8}(hl:s.length=k+1)(hc:s[k]?=some c):cN s=(cN (s.take k)&&mQ c):=by
 unfold cN;have:s=s.take k++[c]:=by
  conv=>lhs;rw[<-Df k s]
  rw[nf hc,BA (by omega)]
 conv=>lhs;rw[this]
 simp
def Yji{s:aG}{c:UInt8}(hc:s[0]?=some c):cN s=(mQ c&&cN (s.drop 1)):=by
 cases s with
 |nil=>simp at hc
 |cons d s=>simp at hc;subst hc;rfl
def Yn7{k:Nat}{c:UInt8}(hc:s[k]?=some c)(hd:mQ c=false):cN s=false:=by unfold cN;rw[List.all_eq_false];exact⟨c,cy hc,by simp[hd]⟩
def QP(s:aG)(v:V):Prop:=∃t:aG,v=.str t/\t.length<=s.length/\cN t=cN s/\(cN s=true->t=[])
def Zur{e:TypeId}(ib:h.get i=some (.cells (pZ 10) e rw))(hl:s.length<4611686018427387904):Fn A.C 258 [.str s,.ptr i 0] h N (fun v _ _=>QP s v):=by
 intro w;rw[aQ,A.k258 (by simp)];simp[A.b258];refine b_ [(0,0),(5,20)] (fun e r st=>e=.exit 0/\st=⟨h,N,[]⟩/\∃t:aG,r.get 0=some (.str t)/\t.length<=s.length/\cN t=cN s/\(cN s=true->t=[])) (fun m r st=>st=⟨h,N,[]⟩/\∃t:aG,m=t.length/\t.length<=s.length/\r.get 0=some (.str t)/\cN t=cN s) s.length ?_ ?_ ?_
 ·exact⟨rfl,s,rfl,by omega,by simp,rfl⟩
 ·rintro m r _ hr hf ⟨rfl,t,rfl,hle,h0,ht⟩;rw[bu];by_cases hz:t.length=0
  ·have:t=[]:=th hz;subst this;simp[A.oY,hf,h0,ht]
  obtain⟨k,hk⟩:∃k,t.length=k+1:=⟨t.length-1,by omega⟩;obtain⟨c,hc⟩:=bj (l:=t) (k:=k) (by omega);have iE:(t.length:Int)=k+1:=by omega
  have oh:(0:Int)<(k:Int)+1:=by omega
  have cK:(k:Int)+1-1=k:=by omega
  have Cm:=fun w=>Zqr (c:=c) (N:=N) (w:=w) ib;by_cases hd:mQ c=true
  ·simp(disch:=first|(simp;done)|omega|(simp only[bz,cm,bl];omega)|rfl) [-getElem?_pos,A.oY,hr,hf,h0,iE,oh,cK,hc,Cm,hd,aC];exact⟨k,by omega,t.take k,by simp;omega,by simp;omega,rfl,by rw[<-ht,Yn8 hk hc,hd];simp⟩
  have hd:mQ c=false:=by simpa using hd
  simp(disch:=first|(simp;done)|omega|(simp only[bz,cm,bl];omega)|rfl) [-getElem?_pos,A.oY,hr,hf,h0,iE,oh,cK,hc,Cm,hd,aC];have hq:=Yn7 hc hd;rw[ht]at hq;simp[hq,hle];rw[ht];exact hq
 rintro _ r _ hr ⟨rfl,rfl,t,h0,hle,ht,he⟩;simp[h0,az,QP];exact⟨ab.refl,hle,ht,he⟩
def Zw6{e:TypeId}(ib:h.get i=some (.cells (pZ 10) e rw))(hl:s.length<4611686018427387904):Fn A.C 257 [.str s,.ptr i 0] h N (fun v _ _=>QP s v):=by
 intro w;rw[aQ,A.k257 (by simp)];simp[A.b257];refine b_ [(0,0),(5,14)] (fun e r st=>e=.exit 0/\st=⟨h,N,[]⟩/\∃t:aG,r.get 0=some (.str t)/\t.length<=s.length/\cN t=cN s/\(cN s=true->t=[])) (fun m r st=>st=⟨h,N,[]⟩/\∃t:aG,m=t.length/\t.length<=s.length/\r.get 0=some (.str t)/\cN t=cN s) s.length ?_ ?_ ?_
 ·exact⟨rfl,s,rfl,by omega,by simp,rfl⟩
 ·rintro m r _ hr hf ⟨rfl,t,rfl,hle,h0,ht⟩;rw[bu];by_cases hz:t.length=0
  ·have:t=[]:=th hz;subst this;simp[A.oX,hf,h0,ht]
  cases t with
  |nil=>simp at hz
  |cons c t=>
   have oh:(0:Int)<(t.length:Int)+1:=by omega
   have Cm:=fun w=>Zqr (c:=c) (N:=N) (w:=w) ib;have MN:=Yji (s:=c::t) (c:=c) rfl;by_cases hd:mQ c=true
   ·simp(disch:=first|(simp;done)|omega|(simp only[bz,cm,bl];omega)|rfl) [A.oX,hr,hf,h0,oh,Cm,hd,aC];simp only[bl]at hle;rw[hd]at MN;exact⟨t.length,by omega,t,rfl,by omega,rfl,by rw[<-ht,MN];rfl⟩
   have hd:mQ c=false:=by simpa using hd
   simp[A.oX,hr,hf,h0,oh,Cm,hd];rw[hd]at MN;rw[ht]at MN;simp only[bl]at hle;simp[MN,hle];rw[ht,MN];rfl
 rintro _ r _ hr ⟨rfl,rfl,t,h0,hle,ht,he⟩;simp[h0,az,QP];exact⟨ab.refl,hle,ht,he⟩
def Ycb(hl:s.length<4611686018427387904):Fn A.C 231 [.str s,(.str [48,49,50,51,52,53,54,55,56,57])] h N (fun v _ _=>QP s v):=by
 intro w;rw[aQ,A.k231 (by simp)];by_cases he:s=[]
 ·subst he;simp[A.b231,az];exact⟨ab.refl,[],rfl,aM _,rfl,fun _=>rfl⟩
 have e1:(s==[])=false:=by simp[he]
 have e2:s.isEmpty=false:=by simp[he]
 simp[A.b231,e1];refine ar Ydh ?_;rintro v h1 n1 k1 rfl;have q1:=BK 10;simp[];refine ar (Zur (e:=246) (rw:=true) ?_ hl) ?_
 ·simp
 rintro v h2 n2 k2 ⟨t,rfl,hle,ht,hte⟩;have ra:h2.get n1=some (.cells (pZ 10) 246 true):=by rw[k2.get _ (by omega)];simp
 simp[];refine ar (Zw6 (e:=246) (rw:=true) ra (by omega)) ?_;rintro v h3 n3 k3 ⟨u,rfl,zbY,hu,hue⟩;have kk:ab h N h3 n3:=(((k1.set k1.le).set k1.le).up (xf n1)).trans (k2.trans k3);simp[az];exact⟨k1.le,kk,u,rfl,by omega,by rw[hu,ht],fun h=>hue (by rw[ht];exact h)⟩
def Zi0{s:aG}{h:T O}{N:Nat}(hl:s.length<4611686018427387904):Fn A.C 197 [.str s] h N (fun v _ _=>v=.bool (jH s)):=by
 intro w;rw[aQ,A.k197 (by simp)];cases s with
 |nil=>simp[A.b197,az,jH];exact ab.refl
 |cons c s=>
  simp[A.b197];refine ar (Ycb hl) ?_;rintro v h1 n1 k1 ⟨t,rfl,hle,ht,hte⟩;have hd:jH (c::s)=(cN (c::s)&&(decide (cX c≠48)||decide (s=[]))):=by
   have:decide (c.toNat≠48)=decide (cX c≠48):=by unfold cX;rw[decide_eq_decide];omega
   simp only[jH,this];rfl
  by_cases ha:cN (c::s)=true
  ·have:=hte ha;subst this;by_cases h0:cX c=48
   ·have hc:c=48:=by unfold cX at h0;exact UInt8.toNat_inj.1 (by show c.toNat=48;omega)
    subst hc;simp[hd,ha,h0,az,k1];cases s<;>rfl
   simp[hd,ha,h0,az,k1]
  have ha:cN (c::s)=false:=by simpa using ha
  rw[ha]at ht;have e1:(t==[])=false:=by
   cases t with
   |nil=>cases ht
   |cons=>rfl
  have e2:t.isEmpty=false:=by
   cases t with
   |nil=>cases ht
   |cons=>rfl
  simp[hd,ha,e1,az,k1]
end
end Go.Mx
