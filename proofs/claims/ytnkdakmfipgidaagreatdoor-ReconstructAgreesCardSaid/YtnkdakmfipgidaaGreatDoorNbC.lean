/-num-/
import Derived.Test.YtnkdakmfipgidaaGreatDoorNbB
set_option linter.all false
namespace Go.Mx
noncomputable section
open Go Go.Proofs
variable {N:Nat} {a b:Int} {h:T O} {r0:T V} {x y:V}
set_option maxHeartbeats 2000000
set_option maxRecDepth 1000000
def A.Ki:=A.q Tryz.f224
def A.ta:=A.qt A.Ki [] [] [1,1,1,1,1,1,1]
def A.oH:=(fun y0=>A.qt A.Ki [] [([1,1,1,1,1,1,1],y0)] [1,1]) A.ta
def A.b224:=(fun y0=>A.qt A.Ki [] [([1,1],y0)] []) A.oH
def A.k224:=@A.kk 224 84 [.cell 4 (some 2),.cell 5 (some 2)] A.b224 (by kernel_rfl) rfl
def A.b204:=A.q Tryz.f204
def A.k204:=@A.kk 204 21 [.cell 4 (some 2)] A.b204 (by kernel_rfl) rfl
def A.Qp:=A.q Tryz.f196
def A.tc:=A.ql A.Qp 0 []
def A.b196:=(fun x0=>A.qb A.Qp [x0]) A.tc
def A.k196:=@A.kk 196 23 [.cell 4 (some 2)] A.b196 (by kernel_rfl) rfl
def Ya4(hb:0<b):(if a.tmod b<0 then a.tdiv b-1 else a.tdiv b)=a/b/\(if a.tmod b<0 then a.tmod b+b else a.tmod b)=a%b:=by
 have h1:=Int.mul_tdiv_add_tmod a b;have h2:=Int.tmod_lt_of_pos a hb;have h3: -b<a.tmod b:=by have:=Int.tmod_lt_of_pos (-a) hb;rw[Int.neg_tmod]at this;omega
 have key:∀q r:Int,b*q+r=a->0<=r->r<b->q=a/b/\r=a%b:=by intro q r e r0 r1;have:=(Int.ediv_emod_unique hb (r:=r) (q:=q) (a:=a)).2 ⟨by omega,r0,r1⟩;exact⟨this.1.symm,this.2.symm⟩
 by_cases h:a.tmod b<0
 ·rw[ar h,ar h];exact key _ _ (by rw[Int.mul_sub];omega) (by omega) (by omega)
 rw[ak h,ak h];exact key _ _ (by omega) (by omega) h2
def Yi4(hb:0<b):∀q r:Int,q=(if decide (a<0)=true then -((a.natAbs/b.natAbs:Nat):Int) else (a.natAbs/b.natAbs:Nat))->r=(if decide (a<0)=true then -((a.natAbs%b.natAbs:Nat):Int) else (a.natAbs%b.natAbs:Nat))->(if r<0 then q-1 else q)=a/b/\(if r<0 then r+b else r)=a%b:=by
 intro q r hq hr;have h1:=vM a.natAbs b.natAbs;have h2:=mO a.natAbs (show 0<b.natAbs by omega);have hbe:(b.natAbs:Int)=b:=by omega
 have h_:b*((a.natAbs/b.natAbs:Nat):Int)+((a.natAbs%b.natAbs:Nat):Int)=a.natAbs:=by rw[<-hbe,<-LJ,<-Int.natCast_add,eh,h1]
 have key:∀q r:Int,b*q+r=a->0<=r->r<b->q=a/b/\r=a%b:=by intro q r e r0 r1;have:=(Int.ediv_emod_unique hb (r:=r) (q:=q) (a:=a)).2 ⟨by omega,r0,r1⟩;exact⟨this.1.symm,this.2.symm⟩
 generalize a.natAbs/b.natAbs=Q at*;generalize a.natAbs%b.natAbs=R at*;by_cases ha:a<0
 ·simp only[ha,decide_true,if_true]at hq hr;subst hq hr;by_cases h: -(R:Int)<0
  ·rw[ar h,ar h];exact key _ _ (by rw[Int.mul_sub,Int.mul_neg];omega) (by omega) (by omega)
  rw[ak h,ak h];exact key _ _ (by rw[Int.mul_neg];omega) (by omega) (by omega)
 simp only[ha,decide_false,iy,if_false]at hq hr;subst hq hr;rw[ak (by omega),ak (by omega)];exact key _ _ (by omega) (by omega) (by omega)
def Yuh(hb:0<b):wl (a%b)<=wl b:=by apply ML;have h1:=Gq a hb;have h2:=Gt a (show b≠0 by omega);omega
def Zrd{c:Bool}{n:Nat}:(if c=true then -(n:Int) else (n:Int)).natAbs=n:=by split<;>omega
def You{H:T O}{n m:Nat}{nq nr q s:Int}{uq ur:V}{W:List Nat}(hW:ay N W=[])(hK:ab h N H n)(hm:N+4<=m)(hmn:m+1<n)(hq:In H n (.agg [.int .i64 nq,uq]) q)(hr:In H n (.agg [.int .i64 nr,ur]) s)(oq:V.one uq=true)(or:V.one ur=true)
  (gz:H.get (N+2)=some (.cells [.int .i64 0,.aa] 121 true)) (gt:H.get (N+3)=some (.cells [.int .i64 0,.aa] 121 true)) (gq:H.get m=some (.cells [.int .i64 nq,uq] 121 true)) (gr:H.get (m+1)=some (.cells [.int .i64 nr,ur] 121 true))
  (r4:r0.get 4=some (.ptr (N+2) 0)) (r5:r0.get 5=some (.ptr (N+3) 0)) (MI:r0.get 14=some (.ptr m 0)) (r15:r0.get 15=some (.ptr (m+1) 0)):
  Code A.C none A.ta ⟨r0,84,[]⟩ ⟨H,n,W⟩ (fun e fr st=>e=.ret/\∃r,fr=⟨r,84,[]⟩/\r.get 4=some (.ptr (N+2) 0)/\r.get 5=some (.ptr (N+3) 0)/\Kg h N (N+2) q st/\Kg h N (N+3) s st):=by
 have n1:m<n:=by omega
 have n2:N+2<n:=by omega
 have n3:N+3<n:=by omega
 have d3:¬N+2=m:=by omega
 have d4:¬N+3=m:=by omega
 have d5:¬N+2=m+1:=by omega
 have d6:¬N+3=m+1:=by omega
 have d9:¬N+3=N+2:=by omega
 rw[bu];have k1:=(hK.set (i:=N+2) (o:=.cells [.int .i64 nq,uq] 121 true) (by omega)).set (i:=N+3) (o:=.cells [.int .i64 nr,ur] 121 true) (by omega);have nL:=(hq.aI (c1:=[.int .i64 nq,uq]) (e1:=121) (w1:=true) gz (by simp) rfl);have fi:=(hr.aI (c1:=[.int .i64 nq,uq]) (e1:=121) (w1:=true) gz (by simp) rfl);have gt2:(H.set (N+2) (.cells [.int .i64 nq,uq] 121 true)).get (N+3)=some (.cells [.int .i64 0,.aa] 121 true):=by rw[T.ae,ak d9];exact gt
 have Qq:=(nL.aI (c1:=[.int .i64 nr,ur]) (e1:=121) (w1:=true) gt2 (by simp) rfl);have P5:=(fi.aI (c1:=[.int .i64 nr,ur]) (e1:=121) (w1:=true) gt2 (by simp) rfl);have gS:ay N ((N+3)::(N+2)::W)=[]:=by simp[ay,hW]
 unfold V.one at oq or;simp(disch:=omega) [A.ta,r4,r5,MI,r15,gz,gt,gq,gr,n1,n2,n3,hmn,oq,or,aQ,aL,ag,bO];rw[vE (by simp[d3,d4,d5,d6]<;>omega)];simp[r4,r5];exact⟨⟨gS,k1,nq,uq,by simp,Qq⟩,⟨gS,k1,nr,ur,by simp,P5⟩⟩
def Ysp{H:T O}{n1 n2:Int}{u1 u2:V}(hx:In H (N+4) (.agg [.int .i64 n1,u1]) a)(hy:In H (N+4) (.agg [.int .i64 n2,u2]) b)(hb:0<b)(la:wl a<10000000000)(lb:wl b<10000000000)(hK:ab h N H (N+4))(oy:V.one u2=true)
  (gx:H.get N=some (.cells [.int .i64 n1,u1] 121 true)) (gy:H.get (N+1)=some (.cells [.int .i64 n2,u2] 121 true)) (gz:H.get (N+2)=some (.cells [.int .i64 0,.aa] 121 true)) (gt:H.get (N+3)=some (.cells [.int .i64 0,.aa] 121 true)) (r2:r0.get 2=some (.ptr N 0)) (r3:r0.get 3=some (.ptr (N+1) 0)) (r4:r0.get 4=some (.ptr (N+2) 0)) (r5:r0.get 5=some (.ptr (N+3) 0)):
  Code A.C none A.oH ⟨r0,84,[]⟩ ⟨H,N+4,[]⟩ (fun e fr st=>e=.ret/\∃r,fr=⟨r,84,[]⟩/\r.get 4=some (.ptr (N+2) 0)/\r.get 5=some (.ptr (N+3) 0)/\Kg h N (N+2) (a/b) st/\Kg h N (N+3) (a%b) st):=by
 rw[bu];simp[A.oH,r2,gx,aQ,aL];refine av (Fq hx) ?_;rintro _ h1 N1 k1 ⟨ua,rfl,Qh⟩;have Qi:=(k1.get (N+1) (by omega)).trans gy;simp[r3,Qi,aQ,aL];refine av (Fq (hy.ad k1)) ?_;rintro _ h2 N2 k2 ⟨ub,rfl,Kh⟩;have xH:=Qh.ad k2;have Ht:(aH a.natAbs).length<10000000000:=la;have UU:(aH b.natAbs).length<10000000000:=lb;simp[];refine av (Zu8 xH Kh (by omega) (by omega) (by omega)) ?_;rintro _ h3 N3 k3 ⟨q,r,rfl,hq,hr⟩;simp[];have lq:=Ho (wS a.natAbs b.natAbs);have lr:=Ho (Nat.mod_le a.natAbs b.natAbs);refine av (Hp hq (by omega)) ?_;rintro vq h4 N4 k4 zT;simp[];refine av (Hp (hr.ad k4) (by omega)) ?_;rintro vr h5 N5 k5 hr5;have kA:=(((k1.trans k2).trans k3).trans k4).trans k5;have zbD:=kA.le;have hq5:=zT.ad k5;have gy5:=(kA.get (N+1) (by omega)).trans gy;have gz5:=(kA.get (N+2) (by omega)).trans gz;have gt5:=(kA.get (N+3) (by omega)).trans gt;obtain⟨qv,J5⟩:∃q,(if decide (a<0)=true then -((a.natAbs/b.natAbs:Nat):Int) else (a.natAbs/b.natAbs:Nat))=q:=⟨_,rfl⟩;obtain⟨rv,zj⟩:∃q,(if decide (a<0)=true then -((a.natAbs%b.natAbs:Nat):Int) else (a.natAbs%b.natAbs:Nat))=q:=⟨_,rfl⟩;rw[J5]at hq5;rw[zj]at hr5;obtain⟨e1,e2⟩:=Yi4 hb qv rv J5.symm zj.symm;have wq:wl qv<20000000000:=by
  have:qv.natAbs=a.natAbs/b.natAbs:=by rw[<-J5];exact Zrd
  unfold wl;rw[this];omega
 have wr:wl rv<20000000000:=by
  have:rv.natAbs=a.natAbs%b.natAbs:=by rw[<-zj];exact Zrd
  unfold wl;rw[this];omega
 obtain⟨nq,uq,rfl,oq⟩:=hq5.cells;obtain⟨nr,ur,rfl,or⟩:=hr5.cells;have kB:=fun o1 o2=>aM (aM (ab.refl (h:=h5) (n:=N5)) o1) o2;have oq':=oq;have or':=or;unfold V.one at oq or oy;have d1:¬N5=N5+1:=by omega
 have gq6:(((h5.set N5 (.cells [.int .i64 0,.aa] 121 true)).set (N5+1) (.cells [.int .i64 0,.aa] 121 true)).set N5 (.cells [.int .i64 nq,uq] 121 true)).get N5=some (.cells [.int .i64 nq,uq] 121 true):=by simp
 simp[oq,or,ag,bO,aQ,aL];have kC:=((kB (.cells [.int .i64 0,.aa] 121 true) (.cells [.int .i64 0,.aa] 121 true)).set (i:=N5) (o:=.cells [.int .i64 nq,uq] 121 true) (aO _)).set (i:=N5+1) (o:=.cells [.int .i64 nr,ur] 121 true) (by omega);generalize hH6:(((h5.set N5 (.cells [.int .i64 0,.aa] 121 true)).set (N5+1) (.cells [.int .i64 0,.aa] 121 true)).set N5 (.cells [.int .i64 nq,uq] 121 true)).set (N5+1) (.cells [.int .i64 nr,ur] 121 true)=H6 at*;have q6:H6.get N5=some (.cells [.int .i64 nq,uq] 121 true):=by rw[<-hH6];simp
 have r6:H6.get (N5+1)=some (.cells [.int .i64 nr,ur] 121 true):=by rw[<-hH6];simp
 have Qr:=hq5.ad kC;have hr6:=hr5.ad kC;have gy6:=(kC.get (N+1) (by omega)).trans gy5;have gz6:=(kC.get (N+2) (by omega)).trans gz5;have gt6:=(kC.get (N+3) (by omega)).trans gt5;refine av (J8 hr6) ?_;rintro _ h7 N7 k7 rfl;have zbE:=k7.le;have q7:=(k7.get N5 (by omega)).trans q6;have r7:=(k7.get (N5+1) (by omega)).trans r6;have gy7:=(k7.get (N+1) (by omega)).trans gy6;have gz7:=(k7.get (N+2) (by omega)).trans gz6;have gt7:=(k7.get (N+3) (by omega)).trans gt6;have Qs:=Qr.ad k7;have Qt:=hr6.ad k7;have kF:=((hK.trans kA).trans kC).trans k7;have mi:¬N5<N:=by omega
 have nN:¬N5+1<N:=by omega
 have hWW:ay N [N5+1,N5]=[]:=by simp[ay,mi,nN]
 by_cases dW:rv<0
 ·have c1:eE rv<0:=by simp[eE,dW]
  rw[ar dW]at e1 e2;have hn7:N5<N7:=by omega
  have zbF:N5+1<N7:=by omega
  have hny:N+1<N7:=by omega
  simp[c1,q7,aQ,aL,hn7];refine av J7 ?_;rintro _ h8 N8 k8 rfl;simp[];refine av (Ynu (Qs.ad k8) (In.small (z:=1) (by omega) (by omega)) (by omega) (by decide+kernel)) ?_;rintro vq9 h9 N9 k9 hq9;have k89:=k8.trans k9;have r9:=(k89.get (N5+1) (by omega)).trans r7;have y9:=(k89.get (N+1) (by omega)).trans gy7;have hr9:=Qt.ad k89;have hb9:In h9 N9 (.agg [.int .i64 n2,u2]) b:=(((((hy.ad k1).ad k2).ad k3).ad k4).ad k5 |>.ad kC |>.ad k7).ad k89;have zbf:=k89.le;have z1:N5+1<N9:=by omega
  have z2:N+1<N9:=by omega
  simp[r3,r9,y9,aQ,aL,z1,z2];refine av (Qm hr9 hb9 (by omega) (by omega)) ?_;rintro zbG jH N10 k10 Qu;have zbg:=k10.le;have Qv:=hq9.ad k10;obtain⟨UW,UX,rfl,oq2⟩:=Qv.cells;obtain⟨nr2,ur2,rfl,or2⟩:=Qu.cells;have q10:=(k10.get N5 (by omega)).trans ((k89.get N5 (by omega)).trans q7);have vT:=(k10.get (N5+1) (by omega)).trans r9;have XI:=(k10.get (N+2) (by omega)).trans ((k89.get (N+2) (by omega)).trans gz7);have t10:=(k10.get (N+3) (by omega)).trans ((k89.get (N+3) (by omega)).trans gt7);have zax:=oq2;have zay:=or2;unfold V.one at oq2 or2;have z3:N5<N10:=by omega
  have z4:N5+1<N10:=by omega
  simp[q10,vT,oq2,or2,ag,bO,z3,z4];have q11:=Qv.aI (c1:=[.int .i64 UW,UX]) (e1:=121) (w1:=true) q10 Qs.nu rfl;have xI:=Qu.aI (c1:=[.int .i64 UW,UX]) (e1:=121) (w1:=true) q10 Qs.nu rfl;have Qw:(jH.set N5 (.cells [.int .i64 UW,UX] 121 true)).get (N5+1)=some (.cells [.int .i64 nr,ur] 121 true):=by rw[T.ae,ak (by omega)];exact vT
  have q12:=q11.aI (c1:=[.int .i64 nr2,ur2]) (e1:=121) (w1:=true) Qw Qt.nu rfl;have Qx:=xI.aI (c1:=[.int .i64 nr2,ur2]) (e1:=121) (w1:=true) Qw Qt.nu rfl;rw[e1]at q12;rw[e2]at Qx;have kG:=(((kF.trans k89).trans k10).set (i:=N5) (o:=.cells [.int .i64 UW,UX] 121 true) (by omega)).set (i:=N5+1) (o:=.cells [.int .i64 nr2,ur2] 121 true) (by omega);refine mJ (You (m:=N5) (by simp[ay,mi,nN]) kG (by omega) (by omega) q12 Qx zax zay (by rw[T.ae,ak (by omega),T.ae,ak (by omega)];exact XI) (by rw[T.ae,ak (by omega),T.ae,ak (by omega)];exact t10) (by simp) (by simp) (by simp[r4]) (by simp[r5]) (by simp) (by simp)) ?_;rintro e fr st ⟨rfl,r,rfl,p1,p2,p3,p4⟩;simp[p1,p2];exact⟨p3,p4⟩
 have c1:¬eE rv<0:=by unfold eE;rw[ak dW];split<;>omega
 rw[ak dW]at e1 e2;rw[e1]at Qs;rw[e2]at Qt;simp[c1];refine mJ (You hWW kF (by omega) (by omega) Qs Qt oq' or' gz7 gt7 q7 r7 (by simp[r4]) (by simp[r5]) (by simp) (by simp)) ?_;rintro e fr st ⟨rfl,r,rfl,p1,p2,p3,p4⟩;simp[p1,p2];exact⟨p3,p4⟩
def Zva(hx:In h N x a)(hy:In h N y b)(hb:0<b)(la:wl a<10000000000)(lb:wl b<10000000000):Fn A.C 224 [x,y] h N (fun v h' n'=>∃q r,v=.aV [q,r]/\In h' n' q (a/b)/\In h' n' r (a%b)):=by
 intro w;rw[aN,A.k224 (by simp)];obtain⟨n1,u1,rfl,o1⟩:=hx.cells;obtain⟨n2,u2,rfl,o2⟩:=hy.cells;have kk:=aM (aM (aM (aM (ab.refl (h:=h) (n:=N)) (.cells [.int .i64 n1,u1] 121 true)) (.cells [.int .i64 n2,u2] 121 true)) (.cells [.int .i64 0,.aa] 121 true)) (.cells [.int .i64 0,.aa] 121 true);have o2':=o2;unfold V.one at o1 o2;have go:∀r:T V,r.get 2=some (.ptr N 0)->r.get 3=some (.ptr (N+1) 0)->r.get 4=some (.ptr (N+2) 0)->r.get 5=some (.ptr (N+3) 0)->bD A.C [.fin [.cell 4 (some 2),.cell 5 (some 2)] ⟨h,N,w⟩] (ff (A.C.code none A.oH ⟨r,84,[]⟩ ⟨(((h.set N (.cells [.int .i64 n1,u1] 121 true)).set (N+1) (.cells [.int .i64 n2,u2] 121 true)).set (N+1+1) (.cells [.int .i64 0,.aa] 121 true)).set (N+1+1+1) (.cells [.int .i64 0,.aa] 121 true),N+1+1+1+1,[]⟩)) (EU (ax (fun v h' n'=>∃q r,v=.aV [q,r]/\In h' n' q (a/b)/\In h' n' r (a%b)) h N w)):=by intro r r2 r3 r4 r5;refine mJ (Ysp (hx.ad kk) (hy.ad kk) hb la lb kk o2' (by simp) (by simp) (by simp) (by simp) r2 r3 r4 r5) ?_;rintro e fr ⟨h5,n5,w5⟩ ⟨rfl,r',rfl,Qn,r5',⟨hW,hK,n6,u6,g6,hi⟩,⟨_,_,n7,u7,g7,hi7⟩⟩;simp only at hW hK g6 hi g7 hi7;simp[Qn,r5',g6,g7,aQ,aL,ax,hW];exact⟨hK,_,_,⟨rfl,rfl⟩,hi,hi7⟩
 rcases id hx with⟨e1,s1,s2⟩|⟨i,o,l,c,e1,_⟩
 ·simp only[V.agg.injEq,iH,V.int.injEq,true_and,and_true]at e1;obtain⟨rfl,rfl⟩:=e1;rcases id hy with⟨e2,t1,t2⟩|⟨i,o,l,c,e2,_⟩
  ·simp only[V.agg.injEq,iH,V.int.injEq,true_and,and_true]at e2;obtain⟨rfl,rfl⟩:=e2;by_cases uU:n1= -9223372036854775808
   ·simp[A.b224,aQ,bh,uU];subst uU;exact go _ (by simp) (by simp) (by simp) (by simp)
   have hz:¬n2=0:=by omega
   obtain⟨f1,f2⟩:=Ya4 (a:=n1) hb;have b1:(n1.tdiv n2).natAbs<=n1.natAbs:=by rw[Int.natAbs_tdiv];exact wS _ _
   have b2:(n1.tmod n2).natAbs<=n1.natAbs:=by rw[Int.natAbs_tmod];exact Nat.mod_le _ _
   have b3:=Int.tmod_lt_of_pos n1 hb;obtain⟨q,hq⟩:∃q,n1.tdiv n2=q:=⟨_,rfl⟩;obtain⟨s,hs⟩:∃q,n1.tmod n2=q:=⟨_,rfl⟩;rw[hq]at b1 f1;rw[hs]at b2 b3 f1 f2;have w1:bo .i64 q=q:=cP (by omega) (by omega);by_cases dW:s<0
   ·rw[ar dW]at f1 f2;have w2:bo .i64 (s+n2)=s+n2:=cP (by omega) (by omega);have xy: -9223372036854775808<q:=by have:=Int.mul_tdiv_add_tmod n1 n2;omega
    have w3:bo .i64 (q-1)=q-1:=cP (by omega) (by omega);simp[A.b224,aQ,aL,ag,bh,uU,hz,hq,hs,w1,w2,w3,dW,ax,cQ.cU];exact⟨(kk.set (by omega)).set (by omega),_,_,⟨rfl,rfl⟩,by rw[<-f1];exact In.small (by omega) (by omega),by rw[<-f2];exact In.small (by omega) (by omega)⟩
   rw[ak dW]at f1 f2;simp[A.b224,aQ,aL,ag,bh,uU,hz,hq,hs,w1,dW,ax,cQ.cU];exact⟨(kk.set (by omega)).set (by omega),_,_,⟨rfl,rfl⟩,by rw[<-f1];exact In.small (by omega) (by omega),by rw[<-f2];exact In.small (by omega) (by omega)⟩
  simp only[V.agg.injEq,iH,V.int.injEq,true_and,and_true]at e2;obtain⟨rfl,rfl⟩:=e2;simp[A.b224,aQ,bh];exact go _ (by simp) (by simp) (by simp) (by simp)
 simp only[V.agg.injEq,iH,V.int.injEq,true_and,and_true]at e1;obtain⟨rfl,rfl⟩:=e1;simp[A.b224,aQ,bh,o2];exact go _ (by simp) (by simp) (by simp) (by simp)
def Yn2(hx:In h N x a)(hy:In h N y b)(hb:0<b)(la:wl a<10000000000)(lb:wl b<10000000000):Fn A.C 204 [x,y] h N (fun v h' n'=>In h' n' v (a/b)):=by
 intro w;rw[aN,A.k204 (by simp)];obtain⟨n1,u1,rfl,o1⟩:=hx.cells;obtain⟨n2,u2,rfl,o2⟩:=hy.cells;have kk:=aM (aM (aM (ab.refl (h:=h) (n:=N)) (.cells [.int .i64 n1,u1] 121 true)) (.cells [.int .i64 n2,u2] 121 true)) (.cells [.int .i64 0,.aa] 121 true);have mq:=hx.ad kk;have xh:=hy.ad kk;have Fb:=J8 xh;unfold V.one at o1 o2;have c1:¬eE b<0:=by unfold eE;rw[ak (by omega)];split<;>omega
 simp[A.b204,aQ,aL,o1,o2];refine av Fb ?_;rintro _ h1 m1 k1 rfl;have fL:=k1.le;have g0:=k1.get N (by omega);have g1:=k1.get (N+1) (by omega);have g2:=k1.get (N+1+1) (by omega);simp at g0 g1 g2;simp[c1,g0,g1,aQ,aL];refine av (Zva (mq.ad k1) (xh.ad k1) hb la lb) ?_;rintro _ h2 m2 k2 ⟨q,r,rfl,hq,hr⟩;have iU:=k2.le;have g22:=(k2.get (N+1+1) (by omega)).trans g2;obtain⟨n3,u3,rfl,o3⟩:=hq.cells;obtain⟨n4,u4,rfl,o4⟩:=hr.cells;unfold V.one at o3 o4;have d2:¬N+1+1=m2:=by omega
 have mi:¬m2<N:=by omega
 have Kj:¬m2+1<N:=by omega
 have nN:¬N+1+1<N:=by omega
 have kE:=((aM (aM (ab.refl (h:=h2) (n:=m2)) (.cells [.int .i64 0,.aa] 121 true)) (.cells [.int .i64 0,.aa] 121 true)).set (i:=m2) (o:=.cells [.int .i64 n3,u3] 121 true) (aO _)).set (i:=m2+1) (o:=.cells [.int .i64 n4,u4] 121 true) (by omega);have g23:=(kE.get (N+1+1) (by omega)).trans g22;have d4:¬N+1=m2:=by omega
 simp[g22,aQ,aL,ag,bO,o3,o4,d2,d4,ax,mi,Kj,nN];exact⟨(((kk.trans k1).trans k2).trans kE).set (by omega),(hq.ad kE).aI g23 (by simp) rfl⟩
structure UY (h:T O) (N G m:Nat) (r:T V) (st:St):Prop where
 w:ay N st.w=[]
 ad:ab h N st.h st.n
 le:N+3<=st.n
 row:st.h.get (N+2)=some (.cells [.int .i64 0,.aa] 121 true)
 ex:∃(n1 n2:Int) (u1 u2:V) (p:Nat),st.h.get N=some (.cells [.int .i64 n1,u1] 121 true)/\st.h.get (N+1)=some (.cells [.int .i64 n2,u2] 121 true)/\In st.h st.n (.agg [.int .i64 n1,u1]) p/\In st.h st.n (.agg [.int .i64 n2,u2]) m/\Nat.gcd p m=G/\wl p<10000000000/\wl m<10000000000
def Yl5{G:Nat}(a2:r0.get 2=some (.ptr N 0))(a3:r0.get 3=some (.ptr (N+1) 0)):
  ∀x r st,(∀t,kX [(5,6),(11,21)] t=false->r.get t=r0.get t)->Fx [(5,6),(11,21)] r0 23 ⟨r,23,[]⟩->UY h N G x r st->Code A.C none A.tc ⟨r,23,[]⟩ st (Rd [(5,6),(11,21)] r0 23 (UY h N G) x (fun e r st=>e=.exit 0/\UY h N G 0 r st)):=by
 rintro m r ⟨H,n0,W⟩ hr hf ⟨hW,hK,hle,az,n1,n2,u1,u2,p,g0,g1,hp,hm,hg,lp,lm⟩;simp only at hW hK hle az g0 g1 hp hm;rw[bu];simp[A.tc,hr,a3,g1,aQ,aL];refine av (J8 hm) ?_;rintro _ h1 m1 k1 rfl;have fL:=k1.le;have f0:=(k1.get N (by omega)).trans g0;have f1:=(k1.get (N+1) (by omega)).trans g1;have f2:=(k1.get (N+2) (by omega)).trans az;by_cases h0:m=0
 ·subst h0;simp[hf,eE];exact⟨hW,hK.trans k1,by show N+3<=m1;omega,f2,n1,n2,u1,u2,p,f0,f1,hp.ad k1,hm.ad k1,hg,lp,lm⟩
 have c1:¬eE m=0:=by unfold eE;rw[ak (by omega),ak (by omega)];decide
 simp[hr,a2,a3,c1,f0,f1,aQ,aL];refine av (Zva (hp.ad k1) (hm.ad k1) (by omega) lp lm) ?_;rintro _ h2 m2 k2 ⟨q,s,rfl,hq,hs⟩;have iU:=k2.le;have e0:=(k2.get N (by omega)).trans f0;have e1:=(k2.get (N+1) (by omega)).trans f1;have e2:=(k2.get (N+2) (by omega)).trans f2;obtain⟨n3,u3,rfl,o3⟩:=hq.cells;obtain⟨n4,u4,rfl,o4⟩:=hs.cells;obtain⟨_,_,e5,o2⟩:=hm.cells;simp only[V.agg.injEq,iH,V.int.injEq,true_and,and_true]at e5;obtain⟨rfl,rfl⟩:=e5;unfold V.one at o3 o4 o2;have kE:=((aM (aM (ab.refl (h:=h2) (n:=m2)) (.cells [.int .i64 0,.aa] 121 true)) (.cells [.int .i64 0,.aa] 121 true)).set (i:=m2) (o:=.cells [.int .i64 n3,u3] 121 true) (aO _)).set (i:=m2+1) (o:=.cells [.int .i64 n4,u4] 121 true) (by omega);have i0:=(kE.get N (by omega)).trans e0;have i1:=(kE.get (N+1) (by omega)).trans e1;have i2:=(kE.get (N+2) (by omega)).trans e2;have d1:¬m2=m2+1:=by omega
 have d2:¬N=m2:=by omega
 have d3:¬N=m2+1:=by omega
 have d4:¬N+1=m2:=by omega
 have d5:¬N+1=m2+1:=by omega
 have d6:¬m2=N:=by omega
 have d7:¬m2+1=N:=by omega
 have d8:¬m2=N+1:=by omega
 have d9:¬m2+1=N+1:=by omega
 have d10:¬N=N+1:=by omega
 have l1:N<m2+1+1:=by omega
 have l2:N+1<m2+1+1:=by omega
 simp(disch:=first|(simp;done)|omega|(simp only[bq,b_,bk];omega)|rfl) [hr,hf,a2,a3,e0,e1,aQ,aL,ag,bO,o2,o3,o4,d1,d2,d3,d4,d5,d6,d7,d8,d9,d10,l1,l2,cQ.cU];rw[vE (by simp[d2,d3]<;>omega)];simp[hf];have mi:¬m2<N:=by omega
 have Kj:¬m2+1<N:=by omega
 have q1:=((hm.ad k1).ad k2).ad kE;have s1:=hs.ad kE;have q2:=q1.aI (c1:=[.int .i64 n2,u2]) (e1:=121) (w1:=true) i0 hp.nu rfl;have s2:=s1.aI (c1:=[.int .i64 n2,u2]) (e1:=121) (w1:=true) i0 hp.nu rfl;have i3:(((((h2.set m2 (.cells [.int .i64 0,.aa] 121 true)).set (m2+1) (.cells [.int .i64 0,.aa] 121 true)).set m2 (.cells [.int .i64 n3,u3] 121 true)).set (m2+1) (.cells [.int .i64 n4,u4] 121 true)).set N (.cells [.int .i64 n2,u2] 121 true)).get (N+1)=some (.cells [.int .i64 n2,u2] 121 true):=by rw[T.ae,ak (by omega)];exact i1
 have q3:=q2.aI (c1:=[.int .i64 n4,u4]) (e1:=121) (w1:=true) i3 hm.nu rfl;have s3:=s2.aI (c1:=[.int .i64 n4,u4]) (e1:=121) (w1:=true) i3 hm.nu rfl;refine⟨p%m,mO _ (by omega),by simp[ay,hW,mi,Kj],((((hK.trans k1).trans k2).trans kE).set (aO _)).set (by omega),by show N+3<=m2+1+1;omega,?_,n2,n4,u2,u4,m,by simp,by simp,q3,?_,?_,lm,?_⟩
 ·rw[T.ae,ak (by omega),T.ae,ak (by omega)];exact i2
 ·rw[<-Int.natCast_emod]at s3;exact s3
 ·rw[<-hg,Nat.gcd_comm p m,Nat.gcd_rec m p,Nat.gcd_comm]
 have:=Yuh (a:=(p:Int)) (b:=(m:Int)) (by omega);rw[<-Int.natCast_emod]at this;omega
def Yoo(hx:In h N x a)(hy:In h N y b)(la:wl a<10000000000)(lb:wl b<10000000000):Fn A.C 196 [x,y] h N (fun v h' n'=>In h' n' v (Int.gcd a b:Nat)):=by
 intro w;rw[aN,A.k196 (by simp)];obtain⟨n1,u1,rfl,o1⟩:=hx.cells;obtain⟨n2,u2,rfl,o2⟩:=hy.cells;have kk:=aM (aM (aM (ab.refl (h:=h) (n:=N)) (.cells [.int .i64 n1,u1] 121 true)) (.cells [.int .i64 n2,u2] 121 true)) (.cells [.int .i64 0,.aa] 121 true);have mq:=hx.ad kk;have xh:=hy.ad kk;unfold V.one at o1 o2;simp[A.b196,aQ,aL,o1,o2];refine av (Yo4 mq (by omega)) ?_;rintro v1 h1 m1 k1 pC;have fL:=k1.le;have g1:=k1.get (N+1) (by omega);simp at g1;have l1:N+1<m1:=by omega
 simp[g1,l1,aQ,aL];refine av (Yo4 (xh.ad k1) (by omega)) ?_;rintro v2 h2 m2 k2 kK;have J4:=pC.ad k2;have k12:=k1.trans k2;have iU:=k2.le;obtain⟨n3,u3,rfl,o3⟩:=pC.cells;obtain⟨n4,u4,rfl,o4⟩:=kK.cells;unfold V.one at o3 o4;have i0:=k12.get N (by omega);have i1:=k12.get (N+1) (by omega);have i2:=k12.get (N+1+1) (by omega);simp at i0 i1 i2;have l2:N<m2:=by omega
 have l3:N+1<m2:=by omega
 have l4:N<m1:=by omega
 simp[i0,i1,ag,bO,o3,o4,l1,l2,l3,l4,cQ.cU];have q1:=J4.aI (c1:=[.int .i64 n3,u3]) (e1:=121) (w1:=true) i0 hx.nu rfl;have s1:=kK.aI (c1:=[.int .i64 n3,u3]) (e1:=121) (w1:=true) i0 hx.nu rfl;have i3:(h2.set N (.cells [.int .i64 n3,u3] 121 true)).get (N+1)=some (.cells [.int .i64 n2,u2] 121 true):=by rw[T.ae,ak (by omega)];exact i1
 have q2:=q1.aI (c1:=[.int .i64 n4,u4]) (e1:=121) (w1:=true) i3 hy.nu rfl;have s2:=s1.aI (c1:=[.int .i64 n4,u4]) (e1:=121) (w1:=true) i3 hy.nu rfl;have wa:wl (a.natAbs:Int)=wl a:=by unfold wl;rw[eh]
 have wb:wl (b.natAbs:Int)=wl b:=by unfold wl;rw[eh]
 refine cm [(5,6),(11,21)] _ (UY h N (Int.gcd a b)) b.natAbs ?_ (Yl5 (by simp) (by simp)) ?_
 ·refine⟨by simp[ay],((kk.trans k12).set (aO _)).set (by omega),by show N+3<=m2;omega,?_,n3,n4,u3,u4,a.natAbs,by simp,by simp,q2,s2,rfl,by rw[wa];exact la,by rw[wb];exact lb⟩;rw[T.ae,ak (by omega),T.ae,ak (by omega)];exact i2
 rintro e r ⟨h5,m5,W5⟩ hr ⟨rfl,hW,hK,hle,az,n5,n6,u5,u6,p,g5,g6,hp,hm,hg,lp,lm⟩;simp only at hW hK hle az g5 g6 hp hm;obtain⟨_,_,e5,o5⟩:=hp.cells;simp only[V.agg.injEq,iH,V.int.injEq,true_and,and_true]at e5;obtain⟨rfl,rfl⟩:=e5;unfold V.one at o5;rw[Nat.gcd_zero_right]at hg;have Hu:h5.get (N+1+1)=some (.cells [.int .i64 0,.aa] 121 true):=az;have mi:¬N+1+1<N:=by omega
 simp[hr,g5,Hu,aQ,aL,ag,bO,o5,ax,hW,mi];exact⟨hK.set (by omega),by rw[<-hg];exact hp.aI Hu (by simp) rfl⟩
def A.b51:=A.q Tryz.f51
def A.k51:=@A.kk 51 7 [.tmp 4] A.b51 (by kernel_rfl) rfl
def A.b195:=A.q Tryz.f195
def A.k195:=@A.kk 195 7 [.tmp 4] A.b195 (by kernel_rfl) rfl
def CQ{b:Bool}{e:Int}{st:St}:A.C.call (.func 51 [] []) [.bool b,.int .i64 e] st=some (.int .i64 (if b=true then e else 0),st):=by apply Call.eq;rw[aN,A.k51 (by simp)];cases b<;>simp[A.b51]
def Fv{b:Bool}{e:Int}{st:St}:A.C.call (.func 195 [] []) [.bool b,.int .i64 e] st=some (.int .i64 (if b=true then e else 0),st):=by apply Call.eq;rw[aN,A.k195 (by simp)];cases b<;>simp[A.b195]
variable {s:aD}
def A.b230:=A.q Tryz.f230
def A.k230:=@A.kk 230 18 [.tmp 4] A.b230 (by kernel_rfl) rfl
def A.b192:=A.q Tryz.f192
def A.k192:=@A.kk 192 11 [.tmp 4,.tmp 5] A.b192 (by kernel_rfl) rfl
def A.b221:=A.q Tryz.f221
def A.k221:=@A.kk 221 15 [.tmp 4,.tmp 5] A.b221 (by kernel_rfl) rfl
def A.b210:=A.q Tryz.f210
def A.k210:=@A.kk 210 8 [.tmp 4] A.b210 (by kernel_rfl) rfl
def A.b231:=A.q Tryz.f231
def A.k231:=@A.kk 231 13 [.tmp 4] A.b231 (by kernel_rfl) rfl
def A.b209:=A.q Tryz.f209
def A.k209:=@A.kk 209 8 [.tmp 4] A.b209 (by kernel_rfl) rfl
def A.b252:=A.q Tryz.f252
def A.k252:=@A.kk 252 8 [.tmp 4] A.b252 (by kernel_rfl) rfl
def A.Qy:=A.q Tryz.f229
def A.Fw:=A.ql A.Qy 0 []
def A.b229:=(fun x0=>A.qb A.Qy [x0]) A.Fw
def A.k229:=@A.kk 229 143 [.tmp 4] A.b229 (by kernel_rfl) rfl
def A.b208:=A.q Tryz.f208
def A.k208:=@A.kk 208 23 [.tmp 4,.tmp 5,.tmp 6] A.b208 (by kernel_rfl) rfl
def A.b166:=A.q Tryz.f166
def A.k166:=@A.kk 166 13 [.tmp 4,.tmp 5,.tmp 6] A.b166 (by kernel_rfl) rfl
def Qz{s:aD}{st:St}:A.C.call (.func 230 [] []) [.str s,.str [45]] st=some (.bool (cA s),st):=by
 apply Call.eq;rw[aN,A.k230 (by simp)];cases s with
 |nil=>simp[A.b230,cA]
 |cons c s=>
  have e:(([c]:aD)==[45])=decide (c.toNat=45):=by rw[Bool.eq_iff_iff];simp only[beq_iff_eq,decide_eq_true_eq,iH,and_true];exact⟨fun h=>by rw[h];rfl,fun h=>UInt8.toNat_inj.1 h⟩
  have h1:(1:Int)<=(s.length:Int)+1:=by omega
  simp[A.b230,cA,aB,e,h1]
def Zvf{st:St}:A.C.call (.func 192 [] []) [.str s,.str [45]] st=some (.aV [.str (bl s),.bool (cA s)],st):=by
 apply Call.eq;rw[aN,A.k192 (by simp)];simp[A.b192];rw[A.k221 (by simp)];by_cases hn:cA s=true
 ·have h1:1<=s.length:=by cases s<;>simp[cA]at hn ⊢
  have h_:(1:Int)<=s.length:=by omega
  simp[A.b221,Qz,hn,aB,h_,bl]
 simp[A.b221,Qz,hn,bl]
def Zk9{st:St}:A.C.call (.func 210 [] []) [.str s,.str [45]] st=some (.str (bl s),st):=by
 apply Call.eq;rw[aN,A.k210 (by simp)];simp[A.b210];rw[A.k231 (by simp)];by_cases hn:cA s=true
 ·have h1:1<=s.length:=by cases s<;>simp[cA]at hn ⊢
  have h_:(1:Int)<=s.length:=by omega
  simp[A.b231,Qz,hn,aB,h_,bl]
 simp[A.b231,Qz,hn,bl]
def Zuz{st:St}:A.C.call (.func 209 [] []) [.str s,.str [45]] st=some (.bool (cA s),st):=by apply Call.eq;rw[aN,A.k209 (by simp)];simp[A.b209,Qz]
def Zuy{st:St}:A.C.call (.func 252 [] []) [.str s,.int .u8 47] st=some (.int .i64 (if ah s<s.length then (ah s:Int) else -1),st):=by apply Call.eq;rw[aN,A.k252 (by simp)];have e:=Zls s 0;simp only[yE]at e;simp[A.b252,JW,Ew,e]
def Zzz{st:St}:A.C.call (.func 229 [] []) [.str s,.str [47]] st=some (.int .i64 (if ah s<s.length then (ah s:Int) else -1),st):=by
 apply Call.eq;rw[aN,A.k229 (by simp)];by_cases hs:s=[47]
 ·subst hs;simp[A.b229,ah]
 have e1:(([47]:aD)==s)=false:=by simp;exact fun h=>hs h.symm
 have e2:cW 47=47:=rfl;simp[A.b229,Zuy,e1,e2]
def Yox{st:St}(hl:s.length<4611686018427387904):A.C.call (.func 166 [] []) [.str s,.str [47]] st=some (.aV [.str (s.take (ah s)),.str (s.drop (ah s+1)),.bool (decide (ah s<s.length))],st):=by
 apply Call.eq;rw[aN,A.k166 (by simp)];simp[A.b166];rw[A.k208 (by simp)];have hle:=G9 s;by_cases hs:ah s<s.length
 ·simp(disch:=first|(simp;done)|omega|(simp only[bq,b_,bk];omega)|rfl) [A.b208,Zzz,hs,aB];try omega
 have:s.take (ah s)=s:=gp (by omega);have h2:s.drop (ah s+1)=[]:=wP (by omega);simp(disch:=first|(simp;done)|omega|(simp only[bq,b_,bk];omega)|rfl) [-getElem?_pos,A.b208,Zzz,hs,this,h2]
variable {N i:Nat} {h:T O} {rw:Bool} {s:aD}
def A.b222:bW:=sr [ge 4 (.m_ (.const (.str [])))] (.seq (sr [mv 7 0,ge 8 (.bin .eql (.cL .str) true (tq 7) (.const (.str []))),mv 9 8,mh 10 1 9,gz 11 9 (.bin .eql (.cL .str) true (tq 10) (.const (.str []))),pt 12 9 11] (cd 12 (sr [mv 13 0,mv 4 13] (.ret)) (.skip))) (.seq (sr [mv 14 1,ge 15 (.len 0 (tq 14)),ei 16 15 1,mv 17 16,mg 18 1 17,gy 19 17 (.bL (tq 18) (kq 0)),gy 20 17 (.bin .lss (.node []) false (tq 19) (.const (.int .u8 128))),pf 21 17 20] (cd 21 (.seq (.fN [mv 22 0,mv 23 1,ge 24 (.bL (tq 23) (kq 0)),c2 25 246 22 24,mv 26 1,ge 27 (.bL (tq 26) (kq 0)),c2 28 245 25 27,mv 4 28] [0,0,2,7,0,16,63,127]) (.ret)) (.skip))) (.seq (sr [mv 30 1,c1 31 247 30,mv 29 31,xt 32 29 0,xt 33 29 1,ge 5 (.alloc (pD 0) 242),gn (.store 256 (tq 5) (tq 32)),mv 6 33] (sr [mv 34 6] (cd 34 (sr [mv 35 0,c2 36 249 35 5,c2 37 248 36 5,mv 4 37] (.ret)) (.skip)))) (sr [mv 38 0,mv 39 1,c2 40 251 38 39,mv 41 1,c2 42 250 40 41,mv 4 42] (.ret)))))
def A.k222:=@A.kk 222 43 [.tmp 4] A.b222 (by kernel_rfl) rfl
def A.td:bW:=.seq (sr [mv 6 4,mv 7 0,ge 8 (.len 0 (tq 7)),bi 9 .lss 6 8] (cd 9 (.skip) (.exit 0))) (.seq (.block 1 (sr [mv 12 0,mv 13 4,ge 14 (.bL (tq 12) (tq 13)),mv 5 14] (.seq (sr [mv 15 5,ge 16 (.bin .geq (.node []) false (tq 15) (.const (.int .u8 128)))] (cd 16 (sr [lN 17 256 2,gn (.store 256 (tq 2) (tq 17)),ge 3 (.m_ (.const (.bool false)))] (.ret)) (.skip))) (.fY [mv 18 5,ge 19 (.iL 256 1 (tq 2) (tq 18)),gn (.store 1 (tq 19) (.const (.bool true)))])))) (.fY [mv 10 4,bc 11 .add 10 1,mv 4 11]))
def A.b247:bW:=sr [ge 2 (.alloc (pD 0) 242),ge 3 (.m_ (.const (.bool false)))] (.seq (sr [mc 4 0] (.block 0 (.loop A.td))) (sr [lN 20 256 2,gn (.store 256 (tq 2) (tq 20)),ge 3 (.m_ (.const (.bool true)))] (.ret)))
def A.k247:=@A.kk 247 21 [.cell 2 (some 256),.tmp 3] A.b247 (by kernel_rfl) rfl
def A.QA:=A.q Tryz.f248
def A.oJ:=A.ql A.QA 0 []
def A.b248:=(fun x0=>A.qb A.QA [x0]) A.oJ
def A.k248:=@A.kk 248 16 [.tmp 4] A.b248 (by kernel_rfl) rfl
def A.QC:=A.q Tryz.f249
def A.oK:=A.ql A.QC 0 []
def A.b249:=(fun x0=>A.qb A.QC [x0]) A.oK
def A.k249:=@A.kk 249 22 [.tmp 4] A.b249 (by kernel_rfl) rfl
def A.b269:=A.q Tryz.f269
def A.k269:=@A.kk 269 10 [.tmp 4] A.b269 (by kernel_rfl) rfl
def A.b193:=A.q Tryz.f193
def A.k193:=@A.kk 193 19 [.tmp 2] A.b193 (by kernel_rfl) rfl
def Yce:Fn A.C 247 [(.str [48,49,50,51,52,53,54,55,56,57])] h N (fun v _ _=>v=.aV [.agg (pD 10),.bool true]):=by
 intro w;rw[aN,A.k247 (by simp)];simp[A.b247];refine cm [(3,19)] (fun e r st=>e=.exit 0/\st.n=N+1/\ay N st.w=[]/\ab h N st.h (N+1)/\st.h.get N=some (.cells (pD 10) 242 true)) (fun m r st=>st.n=N+1/\ay N st.w=[]/\ab h N st.h (N+1)/\∃k,m=10-k/\k<=10/\r.get 4=some (.int .i64 k)/\st.h.get N=some (.cells (pD k) 242 true)) 10 ?_ ?_ ?_
 ·exact⟨rfl,rfl,(ab.refl.set (aO _)).up (by omega),0,by omega,by omega,by simp,by simp⟩
 ·rintro m r ⟨H,n1,W⟩ hr hf ⟨hn,hW,hK,k,rfl,hk,h4,az⟩;simp only at hn hW hK az;subst hn;rw[bu];by_cases aC:k<10
  ·obtain⟨c,hc,hcu⟩:=Yml aC;unfold Yy6 at hc;have a1:¬128<=cW c:=by omega
   have a2:cW c<256:=by omega
   have a3:0<=cW c:=by omega
   have a4:(cW c).toNat=48+k:=by omega
   have cg:(k:Int)<10:=by omega
   have hs:=Ync aC;have q1:=BB k;simp(disch:=first|(simp;done)|omega|(simp only[bq,b_,bk];omega)|rfl) [-getElem?_pos,A.td,hr,hf,h4,cg,hc,a1,a2,a3,a4,hs,az,hW];exact⟨_,by omega,hK.set (aO N),k+1,rfl,by omega,by simp,rfl⟩
  have:k=10:=by omega
  subst this;simp[A.td,hr,hf,h4,az,hW];exact hK
 rintro e r ⟨H,n1,W⟩ hr ⟨rfl,hn,hW,hK,az⟩;simp only at hn hW hK az;subst hn;have q1:=BB 10;simp[hr,ax,hW,az,aQ,aL,BB,Yas];exact hK.set (aO N)
def Zpy{c:UInt8}{w:List Nat}{e:TypeId}(hr:h.get i=some (.cells (pD 10) e rw)):A.C.call (.func 269 [] []) [.ptr i 0,.int .u8 (cW c)] ⟨h,N,w⟩=some (.bool (my c),⟨h,N,w⟩):=by
 apply Call.eq;rw[aN,A.k269 (by simp)];have hu:=Yd5 c;have e2:(pD 10)[(cW c).toNat]?=some (.bool (my c)):=by rw[LY (by omega),Yh1];congr 2;rw[decide_eq_decide];omega
 simp(disch:=omega) [A.b269,hr,hu,e2]
def Ymn{k:Nat}{c:UInt8}(hl:s.length=k+1)(hc:s[k]?=some c):cK s=(cK (s.take k)&&my c):=by
 unfold cK;have:s=s.take k++[c]:=by
  conv=>lhs;rw[<-En k s]
  rw[jN hc,wP (by omega)]
 conv=>lhs;rw[this]
 simp
def Yh0{s:aD}{c:UInt8}(hc:s[0]?=some c):cK s=(my c&&cK (s.drop 1)):=by
 cases s with
 |nil=>simp at hc
 |cons d s=>simp at hc;subst hc;rfl
def Ymm{k:Nat}{c:UInt8}(hc:s[k]?=some c)(hd:my c=false):cK s=false:=by unfold cK;rw[List.all_eq_false];exact⟨c,cF hc,by simp[hd]⟩
def QD(s:aD)(v:V):Prop:=∃t:aD,v=.str t/\t.length<=s.length/\cK t=cK s/\(cK s=true->t=[])
def Zto{e:TypeId}(fv:h.get i=some (.cells (pD 10) e rw))(hl:s.length<4611686018427387904):Fn A.C 249 [.str s,.ptr i 0] h N (fun v _ _=>QD s v):=by
 intro w;rw[aN,A.k249 (by simp)];simp[A.b249];refine cm [(0,0),(5,20)] (fun e r st=>e=.exit 0/\st=⟨h,N,[]⟩/\∃t:aD,r.get 0=some (.str t)/\t.length<=s.length/\cK t=cK s/\(cK s=true->t=[])) (fun m r st=>st=⟨h,N,[]⟩/\∃t:aD,m=t.length/\t.length<=s.length/\r.get 0=some (.str t)/\cK t=cK s) s.length ?_ ?_ ?_
 ·exact⟨rfl,s,rfl,by omega,by simp,rfl⟩
 ·rintro m r _ hr hf ⟨rfl,t,rfl,hle,h0,ht⟩;rw[bu];by_cases hz:t.length=0
  ·have:t=[]:=rS hz;subst this;simp[A.oK,hf,h0,ht]
  obtain⟨k,hk⟩:∃k,t.length=k+1:=⟨t.length-1,by omega⟩;obtain⟨c,hc⟩:=bj (l:=t) (k:=k) (by omega);have iD:(t.length:Int)=k+1:=by omega
  have nY:(0:Int)<(k:Int)+1:=by omega
  have cI:(k:Int)+1-1=k:=by omega
  have Cf:=fun w=>Zpy (c:=c) (N:=N) (w:=w) fv;by_cases hd:my c=true
  ·simp(disch:=first|(simp;done)|omega|(simp only[bq,b_,bk];omega)|rfl) [-getElem?_pos,A.oK,hr,hf,h0,iD,nY,cI,hc,Cf,hd,aB];exact⟨k,by omega,t.take k,by simp;omega,by simp;omega,rfl,by rw[<-ht,Ymn hk hc,hd];simp⟩
  have hd:my c=false:=by simpa using hd
  simp(disch:=first|(simp;done)|omega|(simp only[bq,b_,bk];omega)|rfl) [-getElem?_pos,A.oK,hr,hf,h0,iD,nY,cI,hc,Cf,hd,aB];have hq:=Ymm hc hd;rw[ht]at hq;simp[hq,hle];rw[ht];exact hq
 rintro _ r _ hr ⟨rfl,rfl,t,h0,hle,ht,he⟩;simp[h0,ax,QD];exact⟨ab.refl,hle,ht,he⟩
def Zv3{e:TypeId}(fv:h.get i=some (.cells (pD 10) e rw))(hl:s.length<4611686018427387904):Fn A.C 248 [.str s,.ptr i 0] h N (fun v _ _=>QD s v):=by
 intro w;rw[aN,A.k248 (by simp)];simp[A.b248];refine cm [(0,0),(5,14)] (fun e r st=>e=.exit 0/\st=⟨h,N,[]⟩/\∃t:aD,r.get 0=some (.str t)/\t.length<=s.length/\cK t=cK s/\(cK s=true->t=[])) (fun m r st=>st=⟨h,N,[]⟩/\∃t:aD,m=t.length/\t.length<=s.length/\r.get 0=some (.str t)/\cK t=cK s) s.length ?_ ?_ ?_
 ·exact⟨rfl,s,rfl,by omega,by simp,rfl⟩
 ·rintro m r _ hr hf ⟨rfl,t,rfl,hle,h0,ht⟩;rw[bu];by_cases hz:t.length=0
  ·have:t=[]:=rS hz;subst this;simp[A.oJ,hf,h0,ht]
  cases t with
  |nil=>simp at hz
  |cons c t=>
   have nY:(0:Int)<(t.length:Int)+1:=by omega
   have Cf:=fun w=>Zpy (c:=c) (N:=N) (w:=w) fv;have MM:=Yh0 (s:=c::t) (c:=c) rfl;by_cases hd:my c=true
   ·simp(disch:=first|(simp;done)|omega|(simp only[bq,b_,bk];omega)|rfl) [A.oJ,hr,hf,h0,nY,Cf,hd,aB];simp only[bk]at hle;rw[hd]at MM;exact⟨t.length,by omega,t,rfl,by omega,rfl,by rw[<-ht,MM];rfl⟩
   have hd:my c=false:=by simpa using hd
   simp[A.oJ,hr,hf,h0,nY,Cf,hd];rw[hd]at MM;rw[ht]at MM;simp only[bk]at hle;simp[MM,hle];rw[ht,MM];rfl
 rintro _ r _ hr ⟨rfl,rfl,t,h0,hle,ht,he⟩;simp[h0,ax,QD];exact⟨ab.refl,hle,ht,he⟩
def Ya5(hl:s.length<4611686018427387904):Fn A.C 222 [.str s,(.str [48,49,50,51,52,53,54,55,56,57])] h N (fun v _ _=>QD s v):=by
 intro w;rw[aN,A.k222 (by simp)];by_cases he:s=[]
 ·subst he;simp[A.b222,ax];exact⟨ab.refl,[],rfl,aO _,rfl,fun _=>rfl⟩
 have e1:(s==[])=false:=by simp[he]
 have e2:s.isEmpty=false:=by simp[he]
 simp[A.b222,e1];refine av Yce ?_;rintro v h1 n1 k1 rfl;have q1:=BB 10;simp[];refine av (Zto (e:=242) (rw:=true) ?_ hl) ?_
 ·simp
 rintro v h2 n2 k2 ⟨t,rfl,hle,ht,hte⟩;have qu:h2.get n1=some (.cells (pD 10) 242 true):=by rw[k2.get _ (by omega)];simp
 simp[];refine av (Zv3 (e:=242) (rw:=true) qu (by omega)) ?_;rintro v h3 n3 k3 ⟨u,rfl,zbH,hu,hue⟩;have kk:ab h N h3 n3:=(((k1.set k1.le).set k1.le).up (wm n1)).trans (k2.trans k3);simp[ax];exact⟨k1.le,kk,u,rfl,by omega,by rw[hu,ht],fun h=>hue (by rw[ht];exact h)⟩
def Ziw{s:aD}{h:T O}{N:Nat}(hl:s.length<4611686018427387904):Fn A.C 193 [.str s] h N (fun v _ _=>v=.bool (jx s)):=by
 intro w;rw[aN,A.k193 (by simp)];cases s with
 |nil=>simp[A.b193,ax,jx];exact ab.refl
 |cons c s=>
  simp[A.b193];refine av (Ya5 hl) ?_;rintro v h1 n1 k1 ⟨t,rfl,hle,ht,hte⟩;have hd:jx (c::s)=(cK (c::s)&&(decide (cW c≠48)||decide (s=[]))):=by
   have:decide (c.toNat≠48)=decide (cW c≠48):=by unfold cW;rw[decide_eq_decide];omega
   simp only[jx,this];rfl
  by_cases ha:cK (c::s)=true
  ·have:=hte ha;subst this;by_cases h0:cW c=48
   ·have hc:c=48:=by unfold cW at h0;exact UInt8.toNat_inj.1 (by show c.toNat=48;omega)
    subst hc;simp[hd,ha,h0,ax,k1];cases s<;>rfl
   simp[hd,ha,h0,ax,k1]
  have ha:cK (c::s)=false:=by simpa using ha
  rw[ha]at ht;have e1:(t==[])=false:=by
   cases t with
   |nil=>cases ht
   |cons=>rfl
  have e2:t.isEmpty=false:=by
   cases t with
   |nil=>cases ht
   |cons=>rfl
  simp[hd,ha,e1,ax,k1]
end
end Go.Mx
