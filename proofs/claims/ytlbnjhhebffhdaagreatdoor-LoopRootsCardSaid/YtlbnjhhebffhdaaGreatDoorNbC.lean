/-num-/
import Derived.Test.YtlbnjhhebffhdaaGreatDoorNbB
set_option linter.all false
namespace Go.Mx
noncomputable section
open Go Go.Proofs
variable {N:Nat} {a b:Int} {h:T O} {r0:T V} {x y:V}
set_option maxHeartbeats 2000000
set_option maxRecDepth 1000000
def A.J6:=A.q Tryz.f151
def A.qR:=A.qt A.J6 [] [] [1,1,1,1,1,1,1]
def A.mA:=(fun y0=>A.qt A.J6 [] [([1,1,1,1,1,1,1],y0)] [1,1]) A.qR
def A.b151:=(fun y0=>A.qt A.J6 [] [([1,1],y0)] []) A.mA
def A.k151:=@A.kk 151 84 [.cell 4 (some 2),.cell 5 (some 2)] A.b151 (by kernel_rfl) rfl
def A.b199:=A.q Tryz.f199
def A.k199:=@A.kk 199 21 [.cell 4 (some 2)] A.b199 (by kernel_rfl) rfl
def A.Qn:=A.q Tryz.f184
def A.qS:=A.ql A.Qn 0 []
def A.b184:=(fun x0=>A.qb A.Qn [x0]) A.qS
def A.k184:=@A.kk 184 23 [.cell 4 (some 2)] A.b184 (by kernel_rfl) rfl
def Zyu(hb:0<b):(if a.tmod b<0 then a.tdiv b-1 else a.tdiv b)=a/b/\(if a.tmod b<0 then a.tmod b+b else a.tmod b)=a%b:=by
 have h1:=Int.mul_tdiv_add_tmod a b
 have h2:=Int.tmod_lt_of_pos a hb
 have h3: -b<a.tmod b:=by
  have:=Int.tmod_lt_of_pos (-a) hb
  rw[Int.neg_tmod]at this
  omega
 have key:∀q r:Int,b*q+r=a->0<=r->r<b->q=a/b/\r=a%b:=by
  intro q r e r0 r1
  have:=(Int.ediv_emod_unique hb (r:=r) (q:=q) (a:=a)).2 ⟨by omega,r0,r1⟩
  exact⟨this.1.symm,this.2.symm⟩
 by_cases h:a.tmod b<0
 ·rw[aR h,aR h]
  exact key _ _ (by rw[Int.mul_sub];omega) (by omega) (by omega)
 ·rw[aA h,aA h]
  exact key _ _ (by omega) (by omega) h2
def Ygm(hb:0<b):∀q r:Int,q=(if decide (a<0)=true then -((a.natAbs/b.natAbs:Nat):Int) else (a.natAbs/b.natAbs:Nat))->r=(if decide (a<0)=true then -((a.natAbs%b.natAbs:Nat):Int) else (a.natAbs%b.natAbs:Nat))->(if r<0 then q-1 else q)=a/b/\(if r<0 then r+b else r)=a%b:=by
 intro q r hq hr
 have h1:=tA a.natAbs b.natAbs
 have h2:=kf a.natAbs (show 0<b.natAbs by omega)
 have hbe:(b.natAbs:Int)=b:=by omega
 have iE:b*((a.natAbs/b.natAbs:Nat):Int)+((a.natAbs%b.natAbs:Nat):Int)=a.natAbs:=by
  rw[<-hbe,<-LD,<-Int.natCast_add,eA,h1]
 have key:∀q r:Int,b*q+r=a->0<=r->r<b->q=a/b/\r=a%b:=by
  intro q r e r0 r1
  have:=(Int.ediv_emod_unique hb (r:=r) (q:=q) (a:=a)).2 ⟨by omega,r0,r1⟩
  exact⟨this.1.symm,this.2.symm⟩
 generalize a.natAbs/b.natAbs=Q at*
 generalize a.natAbs%b.natAbs=R at*
 by_cases ha:a<0
 ·simp only[ha,decide_true,if_true]at hq hr
  subst hq hr
  by_cases h: -(R:Int)<0
  ·rw[aR h,aR h]
   exact key _ _ (by rw[Int.mul_sub,Int.mul_neg];omega) (by omega) (by omega)
  ·rw[aA h,aA h]
   exact key _ _ (by rw[Int.mul_neg];omega) (by omega) (by omega)
 ·simp only[ha,decide_false,gj,if_false]at hq hr
  subst hq hr
  rw[aA (by omega),aA (by omega)]
  exact key _ _ (by omega) (by omega) (by omega)
def Ypt(hb:0<b):wl (a%b)<=wl b:=by
 apply MH
 have h1:=DH a hb
 have h2:=DI a (show b≠0 by omega)
 omega
def Zps{c:Bool}{n:Nat}:(if c=true then -(n:Int) else (n:Int)).natAbs=n:=by split<;>omega
def Ylc{H:T O}{n m:Nat}{nq nr q s:Int}{uq ur:V}{W:List Nat}(hW:aL N W=[])(hK:ah h N H n)(hm:N+4<=m)(hmn:m+1<n)(hq:In H n (.agg [.int .i64 nq,uq]) q)(hr:In H n (.agg [.int .i64 nr,ur]) s)(oq:V.one uq=true)(or:V.one ur=true)
  (gz:H.get (N+2)=some (.cells [.int .i64 0,.ziA] 100 true)) (gt:H.get (N+3)=some (.cells [.int .i64 0,.ziA] 100 true)) (gq:H.get m=some (.cells [.int .i64 nq,uq] 100 true)) (gr:H.get (m+1)=some (.cells [.int .i64 nr,ur] 100 true))
  (r4:r0.get 4=some (.ptr (N+2) 0)) (r5:r0.get 5=some (.ptr (N+3) 0)) (ME:r0.get 14=some (.ptr m 0)) (r15:r0.get 15=some (.ptr (m+1) 0)):
  Code A.C none A.qR ⟨r0,84,[]⟩ ⟨H,n,W⟩ (fun e fr st=>e=.ret/\∃r,fr=⟨r,84,[]⟩/\r.get 4=some (.ptr (N+2) 0)/\r.get 5=some (.ptr (N+3) 0)/\J4 h N (N+2) q st/\J4 h N (N+3) s st):=by
 have n1:m<n:=by omega
 have n2:N+2<n:=by omega
 have n3:N+3<n:=by omega
 have d3:¬N+2=m:=by omega
 have d4:¬N+3=m:=by omega
 have d5:¬N+2=m+1:=by omega
 have d6:¬N+3=m+1:=by omega
 have d9:¬N+3=N+2:=by omega
 rw[cn]
 have k1:=(hK.set (i:=N+2) (o:=.cells [.int .i64 nq,uq] 100 true) (by omega)).set (i:=N+3) (o:=.cells [.int .i64 nr,ur] 100 true) (by omega)
 have kK:=(hq.ay (c1:=[.int .i64 nq,uq]) (e1:=100) (w1:=true) gz (by simp) rfl)
 have dw:=(hr.ay (c1:=[.int .i64 nq,uq]) (e1:=100) (w1:=true) gz (by simp) rfl)
 have gt2:(H.set (N+2) (.cells [.int .i64 nq,uq] 100 true)).get (N+3)=some (.cells [.int .i64 0,.ziA] 100 true):=by rw[T.al,aA d9];exact gt
 have hq3:=(kK.ay (c1:=[.int .i64 nr,ur]) (e1:=100) (w1:=true) gt2 (by simp) rfl)
 have PO:=(dw.ay (c1:=[.int .i64 nr,ur]) (e1:=100) (w1:=true) gt2 (by simp) rfl)
 have dX:aL N ((N+3)::(N+2)::W)=[]:=by simp[aL,hW]
 unfold V.one at oq or
 simp(disch:=omega) [A.qR,r4,r5,ME,r15,gz,gt,gq,gr,n1,n2,n3,hmn,oq,or,aI,aK,aj,bM]
 rw[Ny (by simp[d3,d4,d5,d6]<;>omega)]
 simp[r4,r5]
 exact⟨⟨dX,k1,nq,uq,by simp,hq3⟩,⟨dX,k1,nr,ur,by simp,PO⟩⟩
def Yog{H:T O}{n1 n2:Int}{u1 u2:V}(hx:In H (N+4) (.agg [.int .i64 n1,u1]) a)(hy:In H (N+4) (.agg [.int .i64 n2,u2]) b)(hb:0<b)(la:wl a<10000000000)(lb:wl b<10000000000)(hK:ah h N H (N+4))(oy:V.one u2=true)
  (gx:H.get N=some (.cells [.int .i64 n1,u1] 100 true)) (gy:H.get (N+1)=some (.cells [.int .i64 n2,u2] 100 true)) (gz:H.get (N+2)=some (.cells [.int .i64 0,.ziA] 100 true)) (gt:H.get (N+3)=some (.cells [.int .i64 0,.ziA] 100 true)) (r2:r0.get 2=some (.ptr N 0)) (r3:r0.get 3=some (.ptr (N+1) 0)) (r4:r0.get 4=some (.ptr (N+2) 0)) (r5:r0.get 5=some (.ptr (N+3) 0)):
  Code A.C none A.mA ⟨r0,84,[]⟩ ⟨H,N+4,[]⟩ (fun e fr st=>e=.ret/\∃r,fr=⟨r,84,[]⟩/\r.get 4=some (.ptr (N+2) 0)/\r.get 5=some (.ptr (N+3) 0)/\J4 h N (N+2) (a/b) st/\J4 h N (N+3) (a%b) st):=by
 rw[cn]
 simp[A.mA,r2,gx,aI,aK]
 refine av (CN hx) ?_
 rintro _ h1 N1 k1 ⟨ua,rfl,Il⟩
 have Qf:=(k1.get (N+1) (by omega)).trans gy
 simp[r3,Qf,aI,aK]
 refine av (CN (hy.ai k1)) ?_
 rintro _ h2 N2 k2 ⟨ub,rfl,J5⟩
 have uX:=Il.ai k2
 have Ez:(aQ a.natAbs).length<10000000000:=la
 have Ux:(aQ b.natAbs).length<10000000000:=lb
 simp[]
 refine av (Zs9 uX J5 (by omega) (by omega) (by omega)) ?_
 rintro _ h3 N3 k3 ⟨q,r,rfl,hq,hr⟩
 simp[]
 have lq:=Ep (th a.natAbs b.natAbs)
 have lr:=Ep (Nat.mod_le a.natAbs b.natAbs)
 refine av (Er hq (by omega)) ?_
 rintro vq h4 N4 k4 hq4
 simp[]
 refine av (Er (hr.ai k4) (by omega)) ?_
 rintro vr h5 N5 k5 Qo
 have kA:=(((k1.trans k2).trans k3).trans k4).trans k5
 have zfN:=kA.le
 have hq5:=hq4.ai k5
 have gy5:=(kA.get (N+1) (by omega)).trans gy
 have gz5:=(kA.get (N+2) (by omega)).trans gz
 have gt5:=(kA.get (N+3) (by omega)).trans gt
 obtain⟨qv,JR⟩:∃q,(if decide (a<0)=true then -((a.natAbs/b.natAbs:Nat):Int) else (a.natAbs/b.natAbs:Nat))=q:=⟨_,rfl⟩
 obtain⟨rv,JS⟩:∃q,(if decide (a<0)=true then -((a.natAbs%b.natAbs:Nat):Int) else (a.natAbs%b.natAbs:Nat))=q:=⟨_,rfl⟩
 rw[JR]at hq5
 rw[JS]at Qo
 obtain⟨e1,e2⟩:=Ygm hb qv rv JR.symm JS.symm
 have wq:wl qv<20000000000:=by
  have:qv.natAbs=a.natAbs/b.natAbs:=by rw[<-JR];exact Zps
  unfold wl;rw[this];omega
 have wr:wl rv<20000000000:=by
  have:rv.natAbs=a.natAbs%b.natAbs:=by rw[<-JS];exact Zps
  unfold wl;rw[this];omega
 obtain⟨nq,uq,rfl,oq⟩:=hq5.cells
 obtain⟨nr,ur,rfl,or⟩:=Qo.cells
 have kB:=fun o1 o2=>aO (aO (ah.refl (h:=h5) (n:=N5)) o1) o2
 have oq':=oq
 have or':=or
 unfold V.one at oq or oy
 have d1:¬N5=N5+1:=by omega
 have gq6:(((h5.set N5 (.cells [.int .i64 0,.ziA] 100 true)).set (N5+1) (.cells [.int .i64 0,.ziA] 100 true)).set N5 (.cells [.int .i64 nq,uq] 100 true)).get N5=some (.cells [.int .i64 nq,uq] 100 true):=by simp
 simp[oq,or,aj,bM,aI,aK]
 have kC:=((kB (.cells [.int .i64 0,.ziA] 100 true) (.cells [.int .i64 0,.ziA] 100 true)).set (i:=N5) (o:=.cells [.int .i64 nq,uq] 100 true) (Yv5 _)).set (i:=N5+1) (o:=.cells [.int .i64 nr,ur] 100 true) (by omega)
 generalize hH6:(((h5.set N5 (.cells [.int .i64 0,.ziA] 100 true)).set (N5+1) (.cells [.int .i64 0,.ziA] 100 true)).set N5 (.cells [.int .i64 nq,uq] 100 true)).set (N5+1) (.cells [.int .i64 nr,ur] 100 true)=H6 at*
 have q6:H6.get N5=some (.cells [.int .i64 nq,uq] 100 true):=by rw[<-hH6];simp
 have r6:H6.get (N5+1)=some (.cells [.int .i64 nr,ur] 100 true):=by rw[<-hH6];simp
 have Qp:=hq5.ai kC
 have hr6:=Qo.ai kC
 have gy6:=(kC.get (N+1) (by omega)).trans gy5
 have gz6:=(kC.get (N+2) (by omega)).trans gz5
 have gt6:=(kC.get (N+3) (by omega)).trans gt5
 refine av (JV hr6) ?_
 rintro _ h7 N7 k7 rfl
 have zfO:=k7.le
 have q7:=(k7.get N5 (by omega)).trans q6
 have r7:=(k7.get (N5+1) (by omega)).trans r6
 have gy7:=(k7.get (N+1) (by omega)).trans gy6
 have gz7:=(k7.get (N+2) (by omega)).trans gz6
 have gt7:=(k7.get (N+3) (by omega)).trans gt6
 have Qq:=Qp.ai k7
 have Qr:=hr6.ai k7
 have kF:=((hK.trans kA).trans kC).trans k7
 have lP:¬N5<N:=by omega
 have lG:¬N5+1<N:=by omega
 have hWW:aL N [N5+1,N5]=[]:=by simp[aL,lP,lG]
 by_cases dN:rv<0
 ·have c1:sg3 rv<0:=by simp[sg3,dN]
  rw[aR dN]at e1 e2
  have hn7:N5<N7:=by omega
  have zfP:N5+1<N7:=by omega
  have hny:N+1<N7:=by omega
  simp[c1,q7,aI,aK,hn7]
  refine av JU ?_
  rintro _ h8 N8 k8 rfl
  simp[]
  refine av (Yki (Qq.ai k8) (In.small (z:=1) (by omega) (by omega)) (by omega) (by decide+kernel)) ?_
  rintro vq9 h9 N9 k9 hq9
  have k89:=k8.trans k9
  have r9:=(k89.get (N5+1) (by omega)).trans r7
  have y9:=(k89.get (N+1) (by omega)).trans gy7
  have hr9:=Qr.ai k89
  have hb9:In h9 N9 (.agg [.int .i64 n2,u2]) b:=(((((hy.ai k1).ai k2).ai k3).ai k4).ai k5 |>.ai kC |>.ai k7).ai k89
  have zft:=k89.le
  have z1:N5+1<N9:=by omega
  have z2:N+1<N9:=by omega
  simp[r3,r9,y9,aI,aK,z1,z2]
  refine av (Qj hr9 hb9 (by omega) (by omega)) ?_
  rintro zfQ xO N10 k10 Qs
  have zfu:=k10.le
  have Qt:=hq9.ai k10
  obtain⟨Uy,Uz,rfl,oq2⟩:=Qt.cells
  obtain⟨nr2,ur2,rfl,or2⟩:=Qs.cells
  have Dq:=(k10.get N5 (by omega)).trans ((k89.get N5 (by omega)).trans q7)
  have oh:=(k10.get (N5+1) (by omega)).trans r9
  have Yu:=(k10.get (N+2) (by omega)).trans ((k89.get (N+2) (by omega)).trans gz7)
  have t10:=(k10.get (N+3) (by omega)).trans ((k89.get (N+3) (by omega)).trans gt7)
  have zez:=oq2
  have zeA:=or2
  unfold V.one at oq2 or2
  have z3:N5<N10:=by omega
  have z4:N5+1<N10:=by omega
  simp[Dq,oh,oq2,or2,aj,bM,z3,z4]
  have q11:=Qt.ay (c1:=[.int .i64 Uy,Uz]) (e1:=100) (w1:=true) Dq Qq.nu rfl
  have r11:=Qs.ay (c1:=[.int .i64 Uy,Uz]) (e1:=100) (w1:=true) Dq Qq.nu rfl
  have Qu:(xO.set N5 (.cells [.int .i64 Uy,Uz] 100 true)).get (N5+1)=some (.cells [.int .i64 nr,ur] 100 true):=by rw[T.al,aA (by omega)];exact oh
  have q12:=q11.ay (c1:=[.int .i64 nr2,ur2]) (e1:=100) (w1:=true) Qu Qr.nu rfl
  have Qv:=r11.ay (c1:=[.int .i64 nr2,ur2]) (e1:=100) (w1:=true) Qu Qr.nu rfl
  rw[e1]at q12
  rw[e2]at Qv
  have kG:=(((kF.trans k89).trans k10).set (i:=N5) (o:=.cells [.int .i64 Uy,Uz] 100 true) (by omega)).set (i:=N5+1) (o:=.cells [.int .i64 nr2,ur2] 100 true) (by omega)
  refine nc (Ylc (m:=N5) (by simp[aL,lP,lG]) kG (by omega) (by omega) q12 Qv zez zeA (by rw[T.al,aA (by omega),T.al,aA (by omega)];exact Yu) (by rw[T.al,aA (by omega),T.al,aA (by omega)];exact t10) (by simp) (by simp) (by simp[r4]) (by simp[r5]) (by simp) (by simp)) ?_
  rintro e fr st ⟨rfl,r,rfl,p1,p2,p3,p4⟩
  simp[p1,p2]
  exact⟨p3,p4⟩
 ·have c1:¬sg3 rv<0:=by unfold sg3;rw[aA dN];split<;>omega
  rw[aA dN]at e1 e2
  rw[e1]at Qq
  rw[e2]at Qr
  simp[c1]
  refine nc (Ylc hWW kF (by omega) (by omega) Qq Qr oq' or' gz7 gt7 q7 r7 (by simp[r4]) (by simp[r5]) (by simp) (by simp)) ?_
  rintro e fr st ⟨rfl,r,rfl,p1,p2,p3,p4⟩
  simp[p1,p2]
  exact⟨p3,p4⟩
def Ztb(hx:In h N x a)(hy:In h N y b)(hb:0<b)(la:wl a<10000000000)(lb:wl b<10000000000):Fn A.C 151 [x,y] h N (fun v h' n'=>∃q r,v=.aX [q,r]/\In h' n' q (a/b)/\In h' n' r (a%b)):=by
 intro w
 rw[aZ,A.k151 (by simp)]
 obtain⟨n1,u1,rfl,o1⟩:=hx.cells
 obtain⟨n2,u2,rfl,o2⟩:=hy.cells
 have kk:=aO (aO (aO (aO (ah.refl (h:=h) (n:=N)) (.cells [.int .i64 n1,u1] 100 true)) (.cells [.int .i64 n2,u2] 100 true)) (.cells [.int .i64 0,.ziA] 100 true)) (.cells [.int .i64 0,.ziA] 100 true)
 have o2':=o2
 unfold V.one at o1 o2
 have go:∀r:T V,r.get 2=some (.ptr N 0)->r.get 3=some (.ptr (N+1) 0)->r.get 4=some (.ptr (N+2) 0)->r.get 5=some (.ptr (N+3) 0)->Run A.C [.fin [.cell 4 (some 2),.cell 5 (some 2)] ⟨h,N,w⟩] (fx (A.C.code none A.mA ⟨r,84,[]⟩ ⟨(((h.set N (.cells [.int .i64 n1,u1] 100 true)).set (N+1) (.cells [.int .i64 n2,u2] 100 true)).set (N+1+1) (.cells [.int .i64 0,.ziA] 100 true)).set (N+1+1+1) (.cells [.int .i64 0,.ziA] 100 true),N+1+1+1+1,[]⟩)) (Cv (Ret (fun v h' n'=>∃q r,v=.aX [q,r]/\In h' n' q (a/b)/\In h' n' r (a%b)) h N w)):=by
  intro r r2 r3 r4 r5
  refine nc (Yog (hx.ai kk) (hy.ai kk) hb la lb kk o2' (by simp) (by simp) (by simp) (by simp) r2 r3 r4 r5) ?_
  rintro e fr ⟨h5,n5,w5⟩ ⟨rfl,r',rfl,Qk,r5',⟨hW,hK,n6,u6,g6,hi⟩,⟨_,_,n7,u7,g7,EA⟩⟩
  simp only at hW hK g6 hi g7 EA
  simp[Qk,r5',g6,g7,aI,aK,Ret,hW]
  exact⟨hK,_,_,⟨rfl,rfl⟩,hi,EA⟩
 rcases id hx with⟨e1,s1,s2⟩|⟨i,o,l,c,e1,_⟩
 ·simp only[V.agg.injEq,iA,V.int.injEq,true_and,and_true]at e1
  obtain⟨rfl,rfl⟩:=e1
  rcases id hy with⟨e2,t1,t2⟩|⟨i,o,l,c,e2,_⟩
  ·simp only[V.agg.injEq,iA,V.int.injEq,true_and,and_true]at e2
   obtain⟨rfl,rfl⟩:=e2
   by_cases sH:n1= -9223372036854775808
   ·simp[A.b151,aI,a_,sH]
    subst sH
    exact go _ (by simp) (by simp) (by simp) (by simp)
   ·have hz:¬n2=0:=by omega
    obtain⟨f1,f2⟩:=Zyu (a:=n1) hb
    have b1:(n1.tdiv n2).natAbs<=n1.natAbs:=by rw[Int.natAbs_tdiv];exact th _ _
    have b2:(n1.tmod n2).natAbs<=n1.natAbs:=by rw[Int.natAbs_tmod];exact Nat.mod_le _ _
    have b3:=Int.tmod_lt_of_pos n1 hb
    obtain⟨q,hq⟩:∃q,n1.tdiv n2=q:=⟨_,rfl⟩
    obtain⟨s,hs⟩:∃q,n1.tmod n2=q:=⟨_,rfl⟩
    rw[hq]at b1 f1
    rw[hs]at b2 b3 f1 f2
    have w1:bA .i64 q=q:=cH (by omega) (by omega)
    by_cases dN:s<0
    ·rw[aR dN]at f1 f2
     have w2:bA .i64 (s+n2)=s+n2:=cH (by omega) (by omega)
     have xw: -9223372036854775808<q:=by
      have:=Int.mul_tdiv_add_tmod n1 n2
      omega
     have w3:bA .i64 (q-1)=q-1:=cH (by omega) (by omega)
     simp[A.b151,aI,aK,aj,a_,sH,hz,hq,hs,w1,w2,w3,dN,Ret,b_.chk]
     exact⟨(kk.set (by omega)).set (by omega),_,_,⟨rfl,rfl⟩,by rw[<-f1];exact In.small (by omega) (by omega),by rw[<-f2];exact In.small (by omega) (by omega)⟩
    ·rw[aA dN]at f1 f2
     simp[A.b151,aI,aK,aj,a_,sH,hz,hq,hs,w1,dN,Ret,b_.chk]
     exact⟨(kk.set (by omega)).set (by omega),_,_,⟨rfl,rfl⟩,by rw[<-f1];exact In.small (by omega) (by omega),by rw[<-f2];exact In.small (by omega) (by omega)⟩
  ·simp only[V.agg.injEq,iA,V.int.injEq,true_and,and_true]at e2
   obtain⟨rfl,rfl⟩:=e2
   simp[A.b151,aI,a_]
   exact go _ (by simp) (by simp) (by simp) (by simp)
 ·simp only[V.agg.injEq,iA,V.int.injEq,true_and,and_true]at e1
  obtain⟨rfl,rfl⟩:=e1
  simp[A.b151,aI,a_,o2]
  exact go _ (by simp) (by simp) (by simp) (by simp)
def Ykr(hx:In h N x a)(hy:In h N y b)(hb:0<b)(la:wl a<10000000000)(lb:wl b<10000000000):Fn A.C 199 [x,y] h N (fun v h' n'=>In h' n' v (a/b)):=by
 intro w
 rw[aZ,A.k199 (by simp)]
 obtain⟨n1,u1,rfl,o1⟩:=hx.cells
 obtain⟨n2,u2,rfl,o2⟩:=hy.cells
 have kk:=aO (aO (aO (ah.refl (h:=h) (n:=N)) (.cells [.int .i64 n1,u1] 100 true)) (.cells [.int .i64 n2,u2] 100 true)) (.cells [.int .i64 0,.ziA] 100 true)
 have oA:=hx.ai kk
 have rO:=hy.ai kk
 have CD:=JV rO
 unfold V.one at o1 o2
 have c1:¬sg3 b<0:=by unfold sg3;rw[aA (by omega)];split<;>omega
 simp[A.b199,aI,aK,o1,o2]
 refine av CD ?_
 rintro _ h1 m1 k1 rfl
 have fC:=k1.le
 have g0:=k1.get N (by omega)
 have g1:=k1.get (N+1) (by omega)
 have g2:=k1.get (N+1+1) (by omega)
 simp at g0 g1 g2
 simp[c1,g0,g1,aI,aK]
 refine av (Ztb (oA.ai k1) (rO.ai k1) hb la lb) ?_
 rintro _ h2 m2 k2 ⟨q,r,rfl,hq,hr⟩
 have zgl:=k2.le
 have g22:=(k2.get (N+1+1) (by omega)).trans g2
 obtain⟨n3,u3,rfl,o3⟩:=hq.cells
 obtain⟨n4,u4,rfl,o4⟩:=hr.cells
 unfold V.one at o3 o4
 have d2:¬N+1+1=m2:=by omega
 have lP:¬m2<N:=by omega
 have J7:¬m2+1<N:=by omega
 have lG:¬N+1+1<N:=by omega
 have kE:=((aO (aO (ah.refl (h:=h2) (n:=m2)) (.cells [.int .i64 0,.ziA] 100 true)) (.cells [.int .i64 0,.ziA] 100 true)).set (i:=m2) (o:=.cells [.int .i64 n3,u3] 100 true) (Yv5 _)).set (i:=m2+1) (o:=.cells [.int .i64 n4,u4] 100 true) (by omega)
 have g23:=(kE.get (N+1+1) (by omega)).trans g22
 have d4:¬N+1=m2:=by omega
 simp[g22,aI,aK,aj,bM,o3,o4,d2,d4,Ret,lP,J7,lG]
 exact⟨(((kk.trans k1).trans k2).trans kE).set (by omega),(hq.ai kE).ay g23 (by simp) rfl⟩
structure GcI (h:T O) (N G m:Nat) (r:T V) (st:St):Prop where
 w:aL N st.w=[]
 ai:ah h N st.h st.n
 le:N+3<=st.n
 row:st.h.get (N+2)=some (.cells [.int .i64 0,.ziA] 100 true)
 ex:∃(n1 n2:Int) (u1 u2:V) (p:Nat),st.h.get N=some (.cells [.int .i64 n1,u1] 100 true)/\st.h.get (N+1)=some (.cells [.int .i64 n2,u2] 100 true)/\In st.h st.n (.agg [.int .i64 n1,u1]) p/\In st.h st.n (.agg [.int .i64 n2,u2]) m/\Nat.gcd p m=G/\wl p<10000000000/\wl m<10000000000
def Yi1{G:Nat}(a2:r0.get 2=some (.ptr N 0))(a3:r0.get 3=some (.ptr (N+1) 0)):
  ∀x r st,(∀t,jx [(5,6),(11,21)] t=false->r.get t=r0.get t)->Fx [(5,6),(11,21)] r0 23 ⟨r,23,[]⟩->GcI h N G x r st->Code A.C none A.qS ⟨r,23,[]⟩ st (Rd [(5,6),(11,21)] r0 23 (GcI h N G) x (fun e r st=>e=.exit 0/\GcI h N G 0 r st)):=by
 rintro m r ⟨H,n0,W⟩ hr hf ⟨hW,hK,hle,zgc,n1,n2,u1,u2,p,g0,g1,hp,hm,hg,lp,lm⟩
 simp only at hW hK hle zgc g0 g1 hp hm
 rw[cn]
 simp[A.qS,hr,a3,g1,aI,aK]
 refine av (JV hm) ?_
 rintro _ h1 m1 k1 rfl
 have fC:=k1.le
 have f0:=(k1.get N (by omega)).trans g0
 have f1:=(k1.get (N+1) (by omega)).trans g1
 have f2:=(k1.get (N+2) (by omega)).trans zgc
 by_cases h0:m=0
 ·subst h0
  simp[hf,sg3]
  exact⟨hW,hK.trans k1,by show N+3<=m1;omega,f2,n1,n2,u1,u2,p,f0,f1,hp.ai k1,hm.ai k1,hg,lp,lm⟩
 ·have c1:¬sg3 m=0:=by unfold sg3;rw[aA (by omega),aA (by omega)];decide
  simp[hr,a2,a3,c1,f0,f1,aI,aK]
  refine av (Ztb (hp.ai k1) (hm.ai k1) (by omega) lp lm) ?_
  rintro _ h2 m2 k2 ⟨q,s,rfl,hq,hs⟩
  have zgl:=k2.le
  have e0:=(k2.get N (by omega)).trans f0
  have e1:=(k2.get (N+1) (by omega)).trans f1
  have e2:=(k2.get (N+2) (by omega)).trans f2
  obtain⟨n3,u3,rfl,o3⟩:=hq.cells
  obtain⟨n4,u4,rfl,o4⟩:=hs.cells
  obtain⟨_,_,e5,o2⟩:=hm.cells
  simp only[V.agg.injEq,iA,V.int.injEq,true_and,and_true]at e5
  obtain⟨rfl,rfl⟩:=e5
  unfold V.one at o3 o4 o2
  have kE:=((aO (aO (ah.refl (h:=h2) (n:=m2)) (.cells [.int .i64 0,.ziA] 100 true)) (.cells [.int .i64 0,.ziA] 100 true)).set (i:=m2) (o:=.cells [.int .i64 n3,u3] 100 true) (Yv5 _)).set (i:=m2+1) (o:=.cells [.int .i64 n4,u4] 100 true) (by omega)
  have i0:=(kE.get N (by omega)).trans e0
  have i1:=(kE.get (N+1) (by omega)).trans e1
  have i2:=(kE.get (N+2) (by omega)).trans e2
  have d1:¬m2=m2+1:=by omega
  have d2:¬N=m2:=by omega
  have d3:¬N=m2+1:=by omega
  have d4:¬N+1=m2:=by omega
  have d5:¬N+1=m2+1:=by omega
  have d6:¬m2=N:=by omega
  have d7:¬m2+1=N:=by omega
  have d8:¬m2=N+1:=by omega
  have d9:¬m2+1=N+1:=by omega
  have d10:¬N=N+1:=by omega
  have l1:N<m2+1+1:=by omega
  have l2:N+1<m2+1+1:=by omega
  simp(disch:=first|(simp;done)|omega|(simp only[bH,cy,bC];omega)|rfl) [hr,hf,a2,a3,e0,e1,aI,aK,aj,bM,o2,o3,o4,d1,d2,d3,d4,d5,d6,d7,d8,d9,d10,l1,l2,b_.chk]
  rw[Ny (by simp[d2,d3]<;>omega)]
  simp[hf]
  have lP:¬m2<N:=by omega
  have J7:¬m2+1<N:=by omega
  have q1:=((hm.ai k1).ai k2).ai kE
  have s1:=hs.ai kE
  have q2:=q1.ay (c1:=[.int .i64 n2,u2]) (e1:=100) (w1:=true) i0 hp.nu rfl
  have s2:=s1.ay (c1:=[.int .i64 n2,u2]) (e1:=100) (w1:=true) i0 hp.nu rfl
  have i3:(((((h2.set m2 (.cells [.int .i64 0,.ziA] 100 true)).set (m2+1) (.cells [.int .i64 0,.ziA] 100 true)).set m2 (.cells [.int .i64 n3,u3] 100 true)).set (m2+1) (.cells [.int .i64 n4,u4] 100 true)).set N (.cells [.int .i64 n2,u2] 100 true)).get (N+1)=some (.cells [.int .i64 n2,u2] 100 true):=by rw[T.al,aA (by omega)];exact i1
  have q3:=q2.ay (c1:=[.int .i64 n4,u4]) (e1:=100) (w1:=true) i3 hm.nu rfl
  have s3:=s2.ay (c1:=[.int .i64 n4,u4]) (e1:=100) (w1:=true) i3 hm.nu rfl
  refine⟨p%m,kf _ (by omega),by simp[aL,hW,lP,J7],((((hK.trans k1).trans k2).trans kE).set (Yv5 _)).set (by omega),by show N+3<=m2+1+1;omega,?_,n2,n4,u2,u4,m,by simp,by simp,q3,?_,?_,lm,?_⟩
  ·rw[T.al,aA (by omega),T.al,aA (by omega)];exact i2
  ·rw[<-Int.natCast_emod]at s3;exact s3
  ·rw[<-hg,Nat.gcd_comm p m,Nat.gcd_rec m p,Nat.gcd_comm]
  ·have:=Ypt (a:=(p:Int)) (b:=(m:Int)) (by omega)
   rw[<-Int.natCast_emod]at this
   omega
def Yk7(hx:In h N x a)(hy:In h N y b)(la:wl a<10000000000)(lb:wl b<10000000000):Fn A.C 184 [x,y] h N (fun v h' n'=>In h' n' v (Int.gcd a b:Nat)):=by
 intro w
 rw[aZ,A.k184 (by simp)]
 obtain⟨n1,u1,rfl,o1⟩:=hx.cells
 obtain⟨n2,u2,rfl,o2⟩:=hy.cells
 have kk:=aO (aO (aO (ah.refl (h:=h) (n:=N)) (.cells [.int .i64 n1,u1] 100 true)) (.cells [.int .i64 n2,u2] 100 true)) (.cells [.int .i64 0,.ziA] 100 true)
 have oA:=hx.ai kk
 have rO:=hy.ai kk
 unfold V.one at o1 o2
 simp[A.b184,aI,aK,o1,o2]
 refine av (Yll oA (by omega)) ?_
 rintro v1 h1 m1 k1 nv
 have fC:=k1.le
 have g1:=k1.get (N+1) (by omega)
 simp at g1
 have l1:N+1<m1:=by omega
 simp[g1,l1,aI,aK]
 refine av (Yll (rO.ai k1) (by omega)) ?_
 rintro v2 h2 m2 k2 ix
 have JQ:=nv.ai k2
 have k12:=k1.trans k2
 have zgl:=k2.le
 obtain⟨n3,u3,rfl,o3⟩:=nv.cells
 obtain⟨n4,u4,rfl,o4⟩:=ix.cells
 unfold V.one at o3 o4
 have i0:=k12.get N (by omega)
 have i1:=k12.get (N+1) (by omega)
 have i2:=k12.get (N+1+1) (by omega)
 simp at i0 i1 i2
 have l2:N<m2:=by omega
 have l3:N+1<m2:=by omega
 have l4:N<m1:=by omega
 simp[i0,i1,aj,bM,o3,o4,l1,l2,l3,l4,b_.chk]
 have q1:=JQ.ay (c1:=[.int .i64 n3,u3]) (e1:=100) (w1:=true) i0 hx.nu rfl
 have s1:=ix.ay (c1:=[.int .i64 n3,u3]) (e1:=100) (w1:=true) i0 hx.nu rfl
 have i3:(h2.set N (.cells [.int .i64 n3,u3] 100 true)).get (N+1)=some (.cells [.int .i64 n2,u2] 100 true):=by rw[T.al,aA (by omega)];exact i1
 have q2:=q1.ay (c1:=[.int .i64 n4,u4]) (e1:=100) (w1:=true) i3 hy.nu rfl
 have s2:=s1.ay (c1:=[.int .i64 n4,u4]) (e1:=100) (w1:=true) i3 hy.nu rfl
 have wa:wl (a.natAbs:Int)=wl a:=by unfold wl;rw[eA]
 have wb:wl (b.natAbs:Int)=wl b:=by unfold wl;rw[eA]
 refine Zal [(5,6),(11,21)] _ (GcI h N (Int.gcd a b)) b.natAbs ?_ (Yi1 (by simp) (by simp)) ?_
 ·refine⟨by simp[aL],((kk.trans k12).set (Yv5 _)).set (by omega),by show N+3<=m2;omega,?_,n3,n4,u3,u4,a.natAbs,by simp,by simp,q2,s2,rfl,by rw[wa];exact la,by rw[wb];exact lb⟩
  rw[T.al,aA (by omega),T.al,aA (by omega)];exact i2
 rintro e r ⟨h5,m5,W5⟩ hr ⟨rfl,hW,hK,hle,zgc,n5,n6,u5,u6,p,g5,g6,hp,hm,hg,lp,lm⟩
 simp only at hW hK hle zgc g5 g6 hp hm
 obtain⟨_,_,e5,o5⟩:=hp.cells
 simp only[V.agg.injEq,iA,V.int.injEq,true_and,and_true]at e5
 obtain⟨rfl,rfl⟩:=e5
 unfold V.one at o5
 rw[Nat.gcd_zero_right]at hg
 have EB:h5.get (N+1+1)=some (.cells [.int .i64 0,.ziA] 100 true):=zgc
 have lP:¬N+1+1<N:=by omega
 simp[hr,g5,EB,aI,aK,aj,bM,o5,Ret,hW,lP]
 exact⟨hK.set (by omega),by rw[<-hg];exact hp.ay EB (by simp) rfl⟩
def A.b144:=A.q Tryz.f144
def A.k144:=@A.kk 144 7 [.tmp 4] A.b144 (by kernel_rfl) rfl
def A.b183:=A.q Tryz.f183
def A.k183:=@A.kk 183 7 [.tmp 4] A.b183 (by kernel_rfl) rfl
def A.b65:=A.q Tryz.f65
def A.k65:=@A.kk 65 16 [.tmp 6] A.b65 (by kernel_rfl) rfl
def wM{b:Bool}{e:Int}{st:St}:A.C.call (.func 144 [] []) [.bool b,.int .i64 e] st=some (.int .i64 (if b=true then e else 0),st):=by
 apply Call.eq
 rw[aZ,A.k144 (by simp)]
 cases b<;>simp[A.b144]
def yE{b:Bool}{e:Int}{st:St}:A.C.call (.func 183 [] []) [.bool b,.int .i64 e] st=some (.int .i64 (if b=true then e else 0),st):=by
 apply Call.eq
 rw[aZ,A.k183 (by simp)]
 cases b<;>simp[A.b183]
def Zm3{x lo hi:Int}{st:St}:A.C.call (.func 65 [] []) [.int .i64 x,.int .i64 lo,.int .i64 hi] st=some (.int .i64 (if x<lo\/hi<x then 3 else 0),st):=by
 apply Call.eq
 rw[aZ,A.k65 (by simp)]
 by_cases h1:x<lo
 ·simp[A.b65,h1,wM]
 ·by_cases h2:hi<x<;>simp[A.b65,h1,h2,wM]
variable {s:bj}
def A.b250:=A.q Tryz.f250
def A.k250:=@A.kk 250 18 [.tmp 4] A.b250 (by kernel_rfl) rfl
def A.b180:=A.q Tryz.f180
def A.k180:=@A.kk 180 11 [.tmp 4,.tmp 5] A.b180 (by kernel_rfl) rfl
def A.b225:=A.q Tryz.f225
def A.k225:=@A.kk 225 15 [.tmp 4,.tmp 5] A.b225 (by kernel_rfl) rfl
def A.b223:=A.q Tryz.f223
def A.k223:=@A.kk 223 8 [.tmp 4] A.b223 (by kernel_rfl) rfl
def A.b251:=A.q Tryz.f251
def A.k251:=@A.kk 251 13 [.tmp 4] A.b251 (by kernel_rfl) rfl
def A.b222:=A.q Tryz.f222
def A.k222:=@A.kk 222 8 [.tmp 4] A.b222 (by kernel_rfl) rfl
def A.b279:=A.q Tryz.f279
def A.k279:=@A.kk 279 8 [.tmp 4] A.b279 (by kernel_rfl) rfl
def A.Qw:=A.q Tryz.f249
def A.CS:=A.ql A.Qw 0 []
def A.b249:=(fun x0=>A.qb A.Qw [x0]) A.CS
def A.k249:=@A.kk 249 143 [.tmp 4] A.b249 (by kernel_rfl) rfl
def A.b221:=A.q Tryz.f221
def A.k221:=@A.kk 221 23 [.tmp 4,.tmp 5,.tmp 6] A.b221 (by kernel_rfl) rfl
def A.b175:=A.q Tryz.f175
def A.k175:=@A.kk 175 13 [.tmp 4,.tmp 5,.tmp 6] A.b175 (by kernel_rfl) rfl
def Qx{s:bj}{st:St}:A.C.call (.func 250 [] []) [.str s,.str [45]] st=some (.bool (cF s),st):=by
 apply Call.eq
 rw[aZ,A.k250 (by simp)]
 cases s with
 |nil=>simp[A.b250,cF]
 |cons c s=>
  have e:(([c]:bj)==[45])=decide (c.toNat=45):=by
   rw[Bool.eq_iff_iff]
   simp only[beq_iff_eq,decide_eq_true_eq,iA,and_true]
   exact⟨fun h=>by rw[h];rfl,fun h=>UInt8.toNat_inj.1 h⟩
  have h1:(1:Int)<=(s.length:Int)+1:=by omega
  simp[A.b250,cF,aH,e,h1]
def Ztf{st:St}:A.C.call (.func 180 [] []) [.str s,.str [45]] st=some (.aX [.str (Zas s),.bool (cF s)],st):=by
 apply Call.eq
 rw[aZ,A.k180 (by simp)]
 simp[A.b180]
 rw[A.k225 (by simp)]
 by_cases hn:cF s=true
 ·have h1:1<=s.length:=by cases s<;>simp[cF]at hn ⊢
  have iE:(1:Int)<=s.length:=by omega
  simp[A.b225,Qx,hn,aH,iE,Zas]
 ·simp[A.b225,Qx,hn,Zas]
def Zka{st:St}:A.C.call (.func 223 [] []) [.str s,.str [45]] st=some (.str (Zas s),st):=by
 apply Call.eq
 rw[aZ,A.k223 (by simp)]
 simp[A.b223]
 rw[A.k251 (by simp)]
 by_cases hn:cF s=true
 ·have h1:1<=s.length:=by cases s<;>simp[cF]at hn ⊢
  have iE:(1:Int)<=s.length:=by omega
  simp[A.b251,Qx,hn,aH,iE,Zas]
 ·simp[A.b251,Qx,hn,Zas]
def Zs0{st:St}:A.C.call (.func 222 [] []) [.str s,.str [45]] st=some (.bool (cF s),st):=by
 apply Call.eq
 rw[aZ,A.k222 (by simp)]
 simp[A.b222,Qx]
def Zsz{st:St}:A.C.call (.func 279 [] []) [.str s,.int .u8 47] st=some (.int .i64 (if ak s<s.length then (ak s:Int) else -1),st):=by
 apply Call.eq
 rw[aZ,A.k279 (by simp)]
 have e:=Zkx s 0
 simp only[oJ]at e
 simp[A.b279,JI,BZ,e]
def Zxu{st:St}:A.C.call (.func 249 [] []) [.str s,.str [47]] st=some (.int .i64 (if ak s<s.length then (ak s:Int) else -1),st):=by
 apply Call.eq
 rw[aZ,A.k249 (by simp)]
 by_cases hs:s=[47]
 ·subst hs
  simp[A.b249,ak]
 ·have e1:(([47]:bj)==s)=false:=by simp;exact fun h=>hs h.symm
  have e2:cX 47=47:=rfl
  simp[A.b249,Zsz,e1,e2]
def Ylf{st:St}(hl:s.length<4611686018427387904):A.C.call (.func 175 [] []) [.str s,.str [47]] st=some (.aX [.str (s.take (ak s)),.str (s.drop (ak s+1)),.bool (decide (ak s<s.length))],st):=by
 apply Call.eq
 rw[aZ,A.k175 (by simp)]
 simp[A.b175]
 rw[A.k221 (by simp)]
 have hle:=BN s
 by_cases hs:ak s<s.length
 ·simp(disch:=first|(simp;done)|omega|(simp only[bH,cy,bC];omega)|rfl) [A.b221,Zxu,hs,aH]
  try omega
 ·have:s.take (ak s)=s:=jP (by omega)
  have h2:s.drop (ak s+1)=[]:=zd (by omega)
  simp(disch:=first|(simp;done)|omega|(simp only[bH,cy,bC];omega)|rfl) [-getElem?_pos,A.b221,Zxu,hs,this,h2]
variable {N i:Nat} {h:T O} {s:bj}
def A.b226:cC:=sr [ge 4 (.kv (.const (.str [])))]
 (.seq (sr [mv 7 0,ge 8 (.bin .eql (.zgf .str) true (tq 7) (.const (.str []))),mv 9 8,mh 10 1 9,gz 11 9 (.bin .eql (.zgf .str) true (tq 10) (.const (.str []))),pt 12 9 11]
 (cd 12
 (sr [mv 13 0,mv 4 13]
 (.ret))
 (.skip)))
 (.seq (sr [mv 14 1,ge 15 (.len 0 (tq 14)),ei 16 15 1,mv 17 16,mg 18 1 17,gy 19 17 (.bP (tq 18) (kq 0)),gy 20 17 (.bin .lss (.node []) false (tq 19) (.const (.int .u8 128))),pf 21 17 20]
 (cd 21
 (.seq (.eY [mv 22 0,mv 23 1,ge 24 (.bP (tq 23) (kq 0)),c2 25 255 22 24,mv 26 1,ge 27 (.bP (tq 26) (kq 0)),c2 28 254 25 27,mv 4 28] [0,0,2,7,0,16,63,127])
 (.ret))
 (.skip)))
 (.seq (sr [mv 30 1,c1 31 256 30,mv 29 31,xt 32 29 0,xt 33 29 1,ge 5 (.alloc (Zot 0) 266),gn (.store 256 (tq 5) (tq 32)),mv 6 33]
 (sr [mv 34 6]
 (cd 34
 (sr [mv 35 0,c2 36 258 35 5,c2 37 257 36 5,mv 4 37]
 (.ret))
 (.skip))))
 (sr [mv 38 0,mv 39 1,c2 40 260 38 39,mv 41 1,c2 42 259 40 41,mv 4 42]
 (.ret)))))
def A.k226:=@A.kk 226 43 [.tmp 4] A.b226 (by kernel_rfl) rfl
def A.qT:cC:=.seq (sr [mv 6 4,mv 7 0,ge 8 (.len 0 (tq 7)),bi 9 .lss 6 8]
 (cd 9
 (.skip)
 (.exit 0)))
 (.seq (.block 1 (sr [mv 12 0,mv 13 4,ge 14 (.bP (tq 12) (tq 13)),mv 5 14]
 (.seq (sr [mv 15 5,ge 16 (.bin .geq (.node []) false (tq 15) (.const (.int .u8 128)))]
 (cd 16
 (sr [lN 17 256 2,gn (.store 256 (tq 2) (tq 17)),ge 3 (.kv (.const (.bool false)))]
 (.ret))
 (.skip)))
 (.fk [mv 18 5,ge 19 (.dB 256 1 (tq 2) (tq 18)),gn (.store 1 (tq 19) (.const (.bool true)))]))))
 (.fk [mv 10 4,bc 11 .add 10 1,mv 4 11]))
def A.b256:cC:=sr [ge 2 (.alloc (Zot 0) 266),ge 3 (.kv (.const (.bool false)))]
 (.seq (sr [mc 4 0]
 (.block 0 (.loop A.qT)))
 (sr [lN 20 256 2,gn (.store 256 (tq 2) (tq 20)),ge 3 (.kv (.const (.bool true)))]
 (.ret)))
def A.k256:=@A.kk 256 21 [.cell 2 (some 256),.tmp 3] A.b256 (by kernel_rfl) rfl
def A.Qy:=A.q Tryz.f257
def A.zgv:=A.ql A.Qy 0 []
def A.b257:=(fun x0=>A.qb A.Qy [x0]) A.zgv
def A.k257:=@A.kk 257 16 [.tmp 4] A.b257 (by kernel_rfl) rfl
def A.Qz:=A.q Tryz.f258
def A.mC:=A.ql A.Qz 0 []
def A.b258:=(fun x0=>A.qb A.Qz [x0]) A.mC
def A.k258:=@A.kk 258 22 [.tmp 4] A.b258 (by kernel_rfl) rfl
def A.b288:=A.q Tryz.f288
def A.k288:=@A.kk 288 10 [.tmp 4] A.b288 (by kernel_rfl) rfl
def A.b181:=A.q Tryz.f181
def A.k181:=@A.kk 181 19 [.tmp 2] A.b181 (by kernel_rfl) rfl
def Zz1:Fn A.C 256 [(.str [48,49,50,51,52,53,54,55,56,57])] h N (fun v _ _=>v=.aX [.agg (Zot 10),.bool true]):=by
 intro w
 rw[aZ,A.k256 (by simp)]
 simp[A.b256]
 refine Zal [(3,19)] (fun e r st=>e=.exit 0/\st.n=N+1/\aL N st.w=[]/\ah h N st.h (N+1)/\st.h.get N=some (.cells (Zot 10) 266 true)) (fun m r st=>st.n=N+1/\aL N st.w=[]/\ah h N st.h (N+1)/\∃k,m=10-k/\k<=10/\r.get 4=some (.int .i64 k)/\st.h.get N=some (.cells (Zot k) 266 true)) 10 ?_ ?_ ?_
 ·exact⟨rfl,rfl,(ah.refl.set (Yv5 _)).up (by omega),0,by omega,by omega,by simp,by simp⟩
 ·rintro m r ⟨H,n1,W⟩ hr hf ⟨hn,hW,hK,k,rfl,hk,h4,zgc⟩
  simp only at hn hW hK zgc
  subst hn
  rw[cn]
  by_cases aW:k<10
  ·obtain⟨c,hc,hcu⟩:=Yjf aW
   unfold Ytg at hc
   have a1:¬128<=cX c:=by omega
   have a2:cX c<256:=by omega
   have a3:0<=cX c:=by omega
   have a4:(cX c).toNat=48+k:=by omega
   have zij:(k:Int)<10:=by omega
   have hs:=Yj1 aW
   have q1:=zq k
   simp(disch:=first|(simp;done)|omega|(simp only[bH,cy,bC];omega)|rfl) [-getElem?_pos,A.qT,hr,hf,h4,zij,hc,a1,a2,a3,a4,hs,zgc,hW]
   exact⟨_,by omega,hK.set (Yv5 N),k+1,rfl,by omega,by simp,rfl⟩
  ·have:k=10:=by omega
   subst this
   simp[A.qT,hr,hf,h4,zgc,hW]
   exact hK
 ·rintro e r ⟨H,n1,W⟩ hr ⟨rfl,hn,hW,hK,zgc⟩
  simp only at hn hW hK zgc
  subst hn
  have q1:=zq 10
  simp[hr,Ret,hW,zgc,aI,aK,zq,Zyi]
  exact hK.set (Yv5 N)
def Zoi{c:UInt8}{w:List Nat}{e:TypeId}{rw:Bool}(hr:h.get i=some (.cells (Zot 10) e rw)):A.C.call (.func 288 [] []) [.ptr i 0,.int .u8 (cX c)] ⟨h,N,w⟩=some (.bool (jN c),⟨h,N,w⟩):=by
 apply Call.eq
 rw[aZ,A.k288 (by simp)]
 have hu:=Ybu c
 have e2:(Zot 10)[(cX c).toNat]?=some (.bool (jN c)):=by
  rw[LU (by omega),Yfl]
  congr 2
  rw[decide_eq_decide];omega
 simp(disch:=omega) [A.b288,hr,hu,e2]
def Yjh{k:Nat}{c:UInt8}(hl:s.length=k+1)(hc:s[k]?=some c):cO s=(cO (s.take k)&&jN c):=by
 unfold cO
 have:s=s.take k++[c]:=by
  conv=>lhs;rw[<-AO k s]
  rw[rV hc,zd (by omega)]
 conv=>lhs;rw[this]
 simp
def Yfk{s:bj}{c:UInt8}(hc:s[0]?=some c):cO s=(jN c&&cO (s.drop 1)):=by
 cases s with
 |nil=>simp at hc
 |cons d s=>simp at hc;subst hc;rfl
def Yjg{k:Nat}{c:UInt8}(hc:s[k]?=some c)(hd:jN c=false):cO s=false:=by
 unfold cO
 rw[List.all_eq_false]
 exact⟨c,eI hc,by simp[hd]⟩
def QA(s:bj)(v:V):Prop:=∃t:bj,v=.str t/\t.length<=s.length/\cO t=cO s/\(cO s=true->t=[])
def Zrr{e:TypeId}{rw:Bool}(kh:h.get i=some (.cells (Zot 10) e rw))(hl:s.length<4611686018427387904):Fn A.C 258 [.str s,.ptr i 0] h N (fun v _ _=>QA s v):=by
 intro w
 rw[aZ,A.k258 (by simp)]
 simp[A.b258]
 refine Zal [(0,0),(5,20)] (fun e r st=>e=.exit 0/\st=⟨h,N,[]⟩/\∃t:bj,r.get 0=some (.str t)/\t.length<=s.length/\cO t=cO s/\(cO s=true->t=[])) (fun m r st=>st=⟨h,N,[]⟩/\∃t:bj,m=t.length/\t.length<=s.length/\r.get 0=some (.str t)/\cO t=cO s) s.length ?_ ?_ ?_
 ·exact⟨rfl,s,rfl,by omega,by simp,rfl⟩
 ·rintro m r _ hr hf ⟨rfl,t,rfl,hle,h0,ht⟩
  rw[cn]
  by_cases hz:t.length=0
  ·have:t=[]:=rz hz
   subst this
   simp[A.mC,hf,h0,ht]
  ·obtain⟨k,hk⟩:∃k,t.length=k+1:=⟨t.length-1,by omega⟩
   obtain⟨c,hc⟩:=eQ (l:=t) (k:=k) (by omega)
   have jO:(t.length:Int)=k+1:=by omega
   have sW:(0:Int)<(k:Int)+1:=by omega
   have hk1:(k:Int)+1-1=k:=by omega
   have Ag:=fun w=>Zoi (c:=c) (N:=N) (w:=w) kh
   by_cases hd:jN c=true
   ·simp(disch:=first|(simp;done)|omega|(simp only[bH,cy,bC];omega)|rfl) [-getElem?_pos,A.mC,hr,hf,h0,jO,sW,hk1,hc,Ag,hd,aH]
    exact⟨k,by omega,t.take k,by simp;omega,by simp;omega,rfl,by rw[<-ht,Yjh hk hc,hd];simp⟩
   ·have hd:jN c=false:=by simpa using hd
    simp(disch:=first|(simp;done)|omega|(simp only[bH,cy,bC];omega)|rfl) [-getElem?_pos,A.mC,hr,hf,h0,jO,sW,hk1,hc,Ag,hd,aH]
    have hq:=Yjg hc hd
    rw[ht]at hq
    simp[hq,hle]
    rw[ht];exact hq
 ·rintro _ r _ hr ⟨rfl,rfl,t,h0,hle,ht,he⟩
  simp[h0,Ret,QA]
  exact⟨ah.refl,hle,ht,he⟩
def Zt0{e:TypeId}{rw:Bool}(kh:h.get i=some (.cells (Zot 10) e rw))(hl:s.length<4611686018427387904):Fn A.C 257 [.str s,.ptr i 0] h N (fun v _ _=>QA s v):=by
 intro w
 rw[aZ,A.k257 (by simp)]
 simp[A.b257]
 refine Zal [(0,0),(5,14)] (fun e r st=>e=.exit 0/\st=⟨h,N,[]⟩/\∃t:bj,r.get 0=some (.str t)/\t.length<=s.length/\cO t=cO s/\(cO s=true->t=[])) (fun m r st=>st=⟨h,N,[]⟩/\∃t:bj,m=t.length/\t.length<=s.length/\r.get 0=some (.str t)/\cO t=cO s) s.length ?_ ?_ ?_
 ·exact⟨rfl,s,rfl,by omega,by simp,rfl⟩
 ·rintro m r _ hr hf ⟨rfl,t,rfl,hle,h0,ht⟩
  rw[cn]
  by_cases hz:t.length=0
  ·have:t=[]:=rz hz
   subst this
   simp[A.zgv,hf,h0,ht]
  ·cases t with
   |nil=>simp at hz
   |cons c t=>
    have sW:(0:Int)<(t.length:Int)+1:=by omega
    have Ag:=fun w=>Zoi (c:=c) (N:=N) (w:=w) kh
    have MI:=Yfk (s:=c::t) (c:=c) rfl
    by_cases hd:jN c=true
    ·simp(disch:=first|(simp;done)|omega|(simp only[bH,cy,bC];omega)|rfl) [A.zgv,hr,hf,h0,sW,Ag,hd,aH]
     simp only[bC]at hle
     rw[hd]at MI
     exact⟨t.length,by omega,t,rfl,by omega,rfl,by rw[<-ht,MI];rfl⟩
    ·have hd:jN c=false:=by simpa using hd
     simp[A.zgv,hr,hf,h0,sW,Ag,hd]
     rw[hd]at MI
     rw[ht]at MI
     simp only[bC]at hle
     simp[MI,hle]
     rw[ht,MI];rfl
 ·rintro _ r _ hr ⟨rfl,rfl,t,h0,hle,ht,he⟩
  simp[h0,Ret,QA]
  exact⟨ah.refl,hle,ht,he⟩
def Zyv(hl:s.length<4611686018427387904):Fn A.C 226 [.str s,(.str [48,49,50,51,52,53,54,55,56,57])] h N (fun v _ _=>QA s v):=by
 intro w
 rw[aZ,A.k226 (by simp)]
 by_cases he:s=[]
 ·subst he
  simp[A.b226,Ret]
  exact⟨ah.refl,[],rfl,Yv5 _,rfl,fun _=>rfl⟩
 ·have e1:(s==[])=false:=by simp[he]
  have e2:s.isEmpty=false:=by simp[he]
  simp[A.b226,e1]
  refine av Zz1 ?_
  rintro v h1 n1 k1 rfl
  have q1:=zq 10
  simp[]
  refine av (Zrr (e:=266) (rw:=true) ?_ hl) ?_
  ·simp
  rintro v h2 n2 k2 ⟨t,rfl,hle,ht,hte⟩
  have tW:h2.get n1=some (.cells (Zot 10) 266 true):=by
   rw[k2.get _ (by omega)]
   simp
  simp[]
  refine av (Zt0 (e:=266) (rw:=true) tW (by omega)) ?_
  rintro v h3 n3 k3 ⟨u,rfl,zfR,hu,hue⟩
  have kk:ah h N h3 n3:=(((k1.set k1.le).set k1.le).up (xS n1)).trans (k2.trans k3)
  simp[Ret]
  exact⟨k1.le,kk,u,rfl,by omega,by rw[hu,ht],fun h=>hue (by rw[ht];exact h)⟩
def Zhs{s:bj}{h:T O}{N:Nat}(hl:s.length<4611686018427387904):Fn A.C 181 [.str s] h N (fun v _ _=>v=.bool (ij s)):=by
 intro w
 rw[aZ,A.k181 (by simp)]
 cases s with
 |nil=>simp[A.b181,Ret,ij];exact ah.refl
 |cons c s=>
  simp[A.b181]
  refine av (Zyv hl) ?_
  rintro v h1 n1 k1 ⟨t,rfl,hle,ht,hte⟩
  have hd:ij (c::s)=(cO (c::s)&&(decide (cX c≠48)||decide (s=[]))):=by
   have:decide (c.toNat≠48)=decide (cX c≠48):=by unfold cX;rw[decide_eq_decide];omega
   simp only[ij,this];rfl
  by_cases ha:cO (c::s)=true
  ·have:=hte ha
   subst this
   by_cases h0:cX c=48
   ·have hc:c=48:=by unfold cX at h0;exact UInt8.toNat_inj.1 (by show c.toNat=48;omega)
    subst hc
    simp[hd,ha,h0,Ret,k1]
    cases s<;>rfl
   ·simp[hd,ha,h0,Ret,k1]
  ·have ha:cO (c::s)=false:=by simpa using ha
   rw[ha]at ht
   have e1:(t==[])=false:=by
    cases t with
    |nil=>cases ht
    |cons=>rfl
   have e2:t.isEmpty=false:=by
    cases t with
    |nil=>cases ht
    |cons=>rfl
   simp[hd,ha,e1,Ret,k1]
def A.QN:=A.q Tryz.f252
def A.q_:=A.ql A.QN 0 []
def A.b252:=(fun x0=>A.qb A.QN [x0]) A.q_
def A.k252:=@A.kk 252 77 [.tmp 2,.tmp 3] A.b252 (by kernel_rfl) rfl
def A.b224:=A.q Tryz.f224
def A.k224:=@A.kk 224 18 [.tmp 2,.tmp 3] A.b224 (by kernel_rfl) rfl
def Yiz{s:bj}{h:T O}{N:Nat}(hd:cO s=true)(h1:1<=s.length)(h2:s.length<=18):Fn A.C 252 [.str s] h N (fun v _ _=>v=.aX [.int .i64 (aN s:Nat),.bh]):=by
 intro w
 obtain⟨c,hc⟩:=eQ (l:=s) (k:=0) (by omega)
 have oD:=M7 hd hc
 have a1:¬cX c=45:=by omega
 have a2:¬cX c=43:=by omega
 have a3:(0:Int)<(s.length:Int):=by omega
 have a5:(s.length:Int)<19:=by omega
 have xO:0<s.length:=by omega
 have cv:s≠[]:=fun h=>by rw[h]at h1;simp at h1
 have iM:s.head?=some c:=by cases s with
  |nil=>simp at hc
  |cons=>simpa using hc
 rw[aZ,A.k252 (by simp)]
 by_cases a4:(s.length:Int)<10
 all_goals
  simp(disch:=first|(simp;done)|omega|(simp only[bH,cy,bC];omega)|rfl) [-getElem?_pos,A.b252,a3,a4,a5,cv,xO,iM,hc,a_,a1,a2]
  refine Zal [(2,3),(6,6),(8,8),(49,63)] (fun e r st=>st.n=N+1/\aL N st.w=[]/\ah h N st.h (N+1)/\e=.exit 0/\r.get 6=some (.int .i64 (aN s:Nat))) (fun m r st=>st.n=N+1/\aL N st.w=[]/\ah h N st.h (N+1)/\st.h.get N=some (.cells (JM s) 5 true)/\∃k,m=s.length-k/\k<=s.length/\r.get 49=some (.int .i64 k)/\r.get 6=some (.int .i64 (aN (s.take k):Nat))) s.length ?_ ?_ ?_
  ·exact⟨rfl,rfl,(ah.refl.set (Yv5 _)).up (by omega),by simp,0,by omega,by omega,by simp,by simp[aN]⟩
  ·rintro m r ⟨H,n1,W⟩ hr hf ⟨hn,hW,hK,zgc,k,rfl,hk,ym,h6⟩
   simp only at hn hW hK zgc
   subst hn
   rw[cn]
   by_cases aW:k<s.length
   ·obtain⟨c,hc⟩:=eQ aW
    have rW:=M7 hd hc
    have hb:=Ybc hc
    have hv:=Znz hc
    have hb1:=RZ hd k hk
    have pN:=R4 (a:=k) (b:=17) (by omega)
    have b1:¬9<cX c-48:=by omega
    have b2:bA .u8 (cX c-48)=cX c-48:=A4 (by omega) (by omega)
    have b3:((aN (s.take (k+1)):Nat):Int)=(aN (s.take k):Nat)*10+(cX c-48):=by
     rw[hv];unfold cX at*;omega
    have b4:((aN (s.take k):Nat):Int)<100000000000000000:=by
     have:(10:Nat)^17=100000000000000000:=by decide
     omega
    generalize hy:aN (s.take (k+1))=y at*
    generalize aN (s.take k)=x at*
    simp(disch:=first|(simp;done)|omega|(simp only[bH,cy,bC];omega)|rfl) [A.q_,hr,hf,ym,h6,aW,zgc,hb,b1,b2,hW]
    exact⟨_,by omega,hK,k+1,rfl,by omega,by simp,by rw[hy,b3]⟩
   ·have:k=s.length:=by omega
    subst this
    simp[A.q_,hr,hf,ym,hW]
    rw[At]at h6
    exact⟨hK,h6⟩
  ·rintro _ r ⟨H,n1,W⟩ hr ⟨hn,hW,hK,rfl,h6⟩
   simp only at hn hW hK
   subst hn
   simp[hr,Ret,hW,hK,h6,hc,a1]
def Yo1{s:bj}{h:T O}{N:Nat}(hd:cO s=true)(h1:1<=s.length)(h2:s.length<=18):Fn A.C 224 [.str s] h N (fun v _ _=>v=.aX [.int .i64 (aN s:Nat),.bh]):=by
 intro w
 rw[aZ,A.k224 (by simp)]
 simp[A.b224]
 refine av (Yiz hd h1 h2) ?_
 rintro v h1 n1 k1 rfl
 simp[a_,Ret,k1]
end
end Go.Mx
