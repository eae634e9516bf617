/-num-/
import Derived.Test.YtgnadghjglamaaaGreatDoorRcM
set_option linter.all false
namespace Go.Mx
noncomputable section
open Go Go.Proofs
variable {N:Nat} {a b:Int} {h:T O} {r0:T V} {x y:V}
set_option maxHeartbeats 2000000
set_option maxRecDepth 1000000
def A.J7:=A.q Tryz.f185
def A.rm:=A.qt A.J7 [] [] [1,1,1,1,1,1,1]
def A.m_:=(fun y0=>A.qt A.J7 [] [([1,1,1,1,1,1,1],y0)] [1,1]) A.rm
def A.b185:=(fun y0=>A.qt A.J7 [] [([1,1],y0)] []) A.m_
def A.k185:=@A.kk 185 84 [.cell 4 (some 2),.cell 5 (some 2)] A.b185 (by kernel_rfl) rfl
def A.b201:=A.q Tryz.f201
def A.k201:=@A.kk 201 21 [.cell 4 (some 2)] A.b201 (by kernel_rfl) rfl
def A.Qd:=A.q Tryz.f190
def A.rn:=A.ql A.Qd 0 []
def A.b190:=(fun x0=>A.qb A.Qd [x0]) A.rn
def A.k190:=@A.kk 190 23 [.cell 4 (some 2)] A.b190 (by kernel_rfl) rfl
def Zww(hb:0<b):(if a.tmod b<0 then a.tdiv b-1 else a.tdiv b)=a/b/\(if a.tmod b<0 then a.tmod b+b else a.tmod b)=a%b:=by
 have h1:=Int.mul_tdiv_add_tmod a b
 have h2:=Int.tmod_lt_of_pos a hb
 have h3: -b<a.tmod b:=by
  have:=Int.tmod_lt_of_pos (-a) hb
  rw[Int.neg_tmod]at this
  omega
 have key:∀q r:Int,b*q+r=a->0<=r->r<b->q=a/b/\r=a%b:=by
  intro q r e r0 r1
  have:=(Int.ediv_emod_unique hb (r:=r) (q:=q) (a:=a)).2 ⟨by omega,r0,r1⟩
  exact⟨this.1.symm,this.2.symm⟩
 by_cases h:a.tmod b<0
 ·rw[aQ h,aQ h]
  exact key _ _ (by rw[Int.mul_sub];omega) (by omega) (by omega)
 ·rw[aA h,aA h]
  exact key _ _ (by omega) (by omega) h2
def Ydv(hb:0<b):∀q r:Int,q=(if decide (a<0)=true then -((a.natAbs/b.natAbs:Nat):Int) else (a.natAbs/b.natAbs:Nat))->r=(if decide (a<0)=true then -((a.natAbs%b.natAbs:Nat):Int) else (a.natAbs%b.natAbs:Nat))->(if r<0 then q-1 else q)=a/b/\(if r<0 then r+b else r)=a%b:=by
 intro q r hq hr
 have h1:=tW a.natAbs b.natAbs
 have h2:=kW a.natAbs (show 0<b.natAbs by omega)
 have hbe:(b.natAbs:Int)=b:=by omega
 have iW:b*((a.natAbs/b.natAbs:Nat):Int)+((a.natAbs%b.natAbs:Nat):Int)=a.natAbs:=by
  rw[<-hbe,<-LK,<-Int.natCast_add,eG,h1]
 have key:∀q r:Int,b*q+r=a->0<=r->r<b->q=a/b/\r=a%b:=by
  intro q r e r0 r1
  have:=(Int.ediv_emod_unique hb (r:=r) (q:=q) (a:=a)).2 ⟨by omega,r0,r1⟩
  exact⟨this.1.symm,this.2.symm⟩
 generalize a.natAbs/b.natAbs=Q at*
 generalize a.natAbs%b.natAbs=R at*
 by_cases ha:a<0
 ·simp only[ha,decide_true,if_true]at hq hr
  subst hq hr
  by_cases h: -(R:Int)<0
  ·rw[aQ h,aQ h]
   exact key _ _ (by rw[Int.mul_sub,Int.mul_neg];omega) (by omega) (by omega)
  ·rw[aA h,aA h]
   exact key _ _ (by rw[Int.mul_neg];omega) (by omega) (by omega)
 ·simp only[ha,decide_false,gV,if_false]at hq hr
  subst hq hr
  rw[aA (by omega),aA (by omega)]
  exact key _ _ (by omega) (by omega) (by omega)
def Yl0(hb:0<b):wl (a%b)<=wl b:=by
 apply J8
 have h1:=DL a hb
 have h2:=DK a (show b≠0 by omega)
 omega
def Zov{c:Bool}{n:Nat}:(if c=true then -(n:Int) else (n:Int)).natAbs=n:=by split<;>omega
def Yh1{H:T O}{n m:Nat}{nq nr q s:Int}{uq ur:V}{W:List Nat}(hW:aD N W=[])(hK:ae h N H n)(hm:N+4<=m)(hmn:m+1<n)(hq:In H n (.agg [.int .i64 nq,uq]) q)(hr:In H n (.agg [.int .i64 nr,ur]) s)(oq:V.one uq=true)(or:V.one ur=true)
  (gz:H.get (N+2)=some (.cells [.int .i64 0,.aa] 108 true)) (gt:H.get (N+3)=some (.cells [.int .i64 0,.aa] 108 true)) (gq:H.get m=some (.cells [.int .i64 nq,uq] 108 true)) (gr:H.get (m+1)=some (.cells [.int .i64 nr,ur] 108 true))
  (r4:r0.get 4=some (.ptr (N+2) 0)) (r5:r0.get 5=some (.ptr (N+3) 0)) (MA:r0.get 14=some (.ptr m 0)) (yX:r0.get 15=some (.ptr (m+1) 0)):
  Code A.C none A.rm ⟨r0,84,[]⟩ ⟨H,n,W⟩ (fun e fr st=>e=.ret/\∃r,fr=⟨r,84,[]⟩/\r.get 4=some (.ptr (N+2) 0)/\r.get 5=some (.ptr (N+3) 0)/\J9 h N (N+2) q st/\J9 h N (N+3) s st):=by
 have n1:m<n:=by omega
 have n2:N+2<n:=by omega
 have n3:N+3<n:=by omega
 have d1:¬m=N+2:=by omega
 have d2:¬m=N+3:=by omega
 have d3:¬N+2=m:=by omega
 have d4:¬N+3=m:=by omega
 have d5:¬N+2=m+1:=by omega
 have d6:¬N+3=m+1:=by omega
 have d7:¬m+1=N+2:=by omega
 have d8:¬m+1=N+3:=by omega
 have d9:¬N+3=N+2:=by omega
 have d10:¬N+2=N+3:=by omega
 rw[dk]
 have k1:=(hK.set (i:=N+2) (o:=.cells [.int .i64 nq,uq] 108 true) (by omega)).set (i:=N+3) (o:=.cells [.int .i64 nr,ur] 108 true) (by omega)
 have lI:=(hq.aG (c1:=[.int .i64 nq,uq]) (e1:=108) (w1:=true) gz (by simp) rfl)
 have bK:=(hr.aG (c1:=[.int .i64 nq,uq]) (e1:=108) (w1:=true) gz (by simp) rfl)
 have gt2:(H.set (N+2) (.cells [.int .i64 nq,uq] 108 true)).get (N+3)=some (.cells [.int .i64 0,.aa] 108 true):=by rw[T.aj,aA d9];exact gt
 have hq3:=(lI.aG (c1:=[.int .i64 nr,ur]) (e1:=108) (w1:=true) gt2 (by simp) rfl)
 have PO:=(bK.aG (c1:=[.int .i64 nr,ur]) (e1:=108) (w1:=true) gt2 (by simp) rfl)
 have f_:aD N ((N+3)::(N+2)::W)=[]:=by simp[aD,hW]
 unfold V.one at oq or
 simp(disch:=first|(simp;done)|omega|(simp only[Zab,aq,ak];omega)|rfl) [-getElem?_pos,A.rm,r4,r5,MA,yX,gz,gt,gq,gr,n1,n2,n3,hmn,d1,d2,d3,d4,d5,d6,d7,d8,d9,d10,oq,or,aJ,aE,ag,bE,bU.bZ]
 rw[NA (by simp[d1,d2,d3,d4,d5,d6,d7,d8,d9,d10]<;>omega)]
 simp(disch:=first|(simp;done)|omega|(simp only[Zab,aq,ak];omega)|rfl) [-getElem?_pos,r4,r5]
 exact⟨⟨f_,k1,nq,uq,by simp,hq3⟩,⟨f_,k1,nr,ur,by simp,PO⟩⟩
def Yk0{H:T O}{n1 n2:Int}{u1 u2:V}(hx:In H (N+4) (.agg [.int .i64 n1,u1]) a)(hy:In H (N+4) (.agg [.int .i64 n2,u2]) b)(hb:0<b)(la:wl a<10000000000)(lb:wl b<10000000000)(hK:ae h N H (N+4))(oy:V.one u2=true)
  (gx:H.get N=some (.cells [.int .i64 n1,u1] 108 true)) (gy:H.get (N+1)=some (.cells [.int .i64 n2,u2] 108 true)) (gz:H.get (N+2)=some (.cells [.int .i64 0,.aa] 108 true)) (gt:H.get (N+3)=some (.cells [.int .i64 0,.aa] 108 true)) (r2:r0.get 2=some (.ptr N 0)) (r3:r0.get 3=some (.ptr (N+1) 0)) (r4:r0.get 4=some (.ptr (N+2) 0)) (r5:r0.get 5=some (.ptr (N+3) 0)):
  Code A.C none A.m_ ⟨r0,84,[]⟩ ⟨H,N+4,[]⟩ (fun e fr st=>e=.ret/\∃r,fr=⟨r,84,[]⟩/\r.get 4=some (.ptr (N+2) 0)/\r.get 5=some (.ptr (N+3) 0)/\J9 h N (N+2) (a/b) st/\J9 h N (N+3) (a%b) st):=by
 rw[dk]
 simp(disch:=first|(simp;done)|omega|(simp only[Zab,aq,ak];omega)|rfl) [-getElem?_pos,A.m_,r2,gx,aJ,aE]
 refine az (CS hx) ?_
 rintro _ h1 N1 k1 ⟨ua,rfl,Qe⟩
 have ft:=k1.le
 have Qf:=(k1.get (N+1) (by omega)).trans gy
 simp(disch:=first|(simp;done)|omega|(simp only[Zab,aq,ak];omega)|rfl) [-getElem?_pos,r3,Qf,aJ,aE]
 refine az (CS (hy.ah k1)) ?_
 rintro _ h2 N2 k2 ⟨ub,rfl,Ka⟩
 have gJ:=k2.le
 have vJ:=Qe.ah k2
 have EA:(aN a.natAbs).length<10000000000:=la
 have TZ:(aN b.natAbs).length<10000000000:=lb
 simp(disch:=first|(simp;done)|omega|(simp only[Zab,aq,ak];omega)|rfl) [-getElem?_pos,]
 refine az (Zrv vJ Ka (by omega) (by omega) (by omega)) ?_
 rintro _ h3 N3 k3 ⟨q,r,rfl,hq,hr⟩
 simp(disch:=first|(simp;done)|omega|(simp only[Zab,aq,ak];omega)|rfl) [-getElem?_pos,]
 have lq:=Es (uZ a.natAbs b.natAbs)
 have lr:=Es (Nat.mod_le a.natAbs b.natAbs)
 refine az (Et hq (by omega)) ?_
 rintro vq h4 N4 k4 hq4
 simp(disch:=first|(simp;done)|omega|(simp only[Zab,aq,ak];omega)|rfl) [-getElem?_pos,]
 refine az (Et (hr.ah k4) (by omega)) ?_
 rintro vr h5 N5 k5 Ni
 have kA:=(((k1.trans k2).trans k3).trans k4).trans k5
 have zfa:=kA.le
 have hq5:=hq4.ah k5
 have gy5:=(kA.get (N+1) (by omega)).trans gy
 have gz5:=(kA.get (N+2) (by omega)).trans gz
 have gt5:=(kA.get (N+3) (by omega)).trans gt
 obtain⟨qv,JU⟩:∃q,(if decide (a<0)=true then -((a.natAbs/b.natAbs:Nat):Int) else (a.natAbs/b.natAbs:Nat))=q:=⟨_,rfl⟩
 obtain⟨rv,JV⟩:∃q,(if decide (a<0)=true then -((a.natAbs%b.natAbs:Nat):Int) else (a.natAbs%b.natAbs:Nat))=q:=⟨_,rfl⟩
 rw[JU]at hq5
 rw[JV]at Ni
 obtain⟨e1,e2⟩:=Ydv hb qv rv JU.symm JV.symm
 have wq:wl qv<20000000000:=by
  have:qv.natAbs=a.natAbs/b.natAbs:=by rw[<-JU];exact Zov
  unfold wl;rw[this];omega
 have wr:wl rv<20000000000:=by
  have:rv.natAbs=a.natAbs%b.natAbs:=by rw[<-JV];exact Zov
  unfold wl;rw[this];omega
 obtain⟨nq,uq,rfl,oq⟩:=hq5.cells
 obtain⟨nr,ur,rfl,or⟩:=Ni.cells
 have kB:=fun o1 o2=>aI (aI (ae.refl (h:=h5) (n:=N5)) o1) o2
 have oq':=oq
 have or':=or
 unfold V.one at oq or oy
 have d1:¬N5=N5+1:=by omega
 have gq6:(((h5.set N5 (.cells [.int .i64 0,.aa] 108 true)).set (N5+1) (.cells [.int .i64 0,.aa] 108 true)).set N5 (.cells [.int .i64 nq,uq] 108 true)).get N5=some (.cells [.int .i64 nq,uq] 108 true):=by simp
 simp(disch:=first|(simp;done)|omega|(simp only[Zab,aq,ak];omega)|rfl) [-getElem?_pos,oq,or,ag,bE,aJ,aE]
 have kC:=((kB (.cells [.int .i64 0,.aa] 108 true) (.cells [.int .i64 0,.aa] 108 true)).set (i:=N5) (o:=.cells [.int .i64 nq,uq] 108 true) (aZ _)).set (i:=N5+1) (o:=.cells [.int .i64 nr,ur] 108 true) (by omega)
 generalize hH6:(((h5.set N5 (.cells [.int .i64 0,.aa] 108 true)).set (N5+1) (.cells [.int .i64 0,.aa] 108 true)).set N5 (.cells [.int .i64 nq,uq] 108 true)).set (N5+1) (.cells [.int .i64 nr,ur] 108 true)=H6 at*
 have q6:H6.get N5=some (.cells [.int .i64 nq,uq] 108 true):=by rw[<-hH6];simp
 have r6:H6.get (N5+1)=some (.cells [.int .i64 nr,ur] 108 true):=by rw[<-hH6];simp
 have Qg:=hq5.ah kC
 have hr6:=Ni.ah kC
 have gy6:=(kC.get (N+1) (by omega)).trans gy5
 have gz6:=(kC.get (N+2) (by omega)).trans gz5
 have gt6:=(kC.get (N+3) (by omega)).trans gt5
 refine az (JY hr6) ?_
 rintro _ h7 N7 k7 rfl
 have zfb:=k7.le
 have q7:=(k7.get N5 (by omega)).trans q6
 have r7:=(k7.get (N5+1) (by omega)).trans r6
 have gy7:=(k7.get (N+1) (by omega)).trans gy6
 have gz7:=(k7.get (N+2) (by omega)).trans gz6
 have gt7:=(k7.get (N+3) (by omega)).trans gt6
 have Qh:=Qg.ah k7
 have Qi:=hr6.ah k7
 have kF:=((hK.trans kA).trans kC).trans k7
 have mq:¬N5<N:=by omega
 have mr:¬N5+1<N:=by omega
 have hWW:aD N [N5+1,N5]=[]:=by simp[aD,mq,mr]
 by_cases eI:rv<0
 ·have c1:df rv<0:=by simp[df,eI]
  rw[aQ eI]at e1 e2
  have hn7:N5<N7:=by omega
  have zfc:N5+1<N7:=by omega
  have hny:N+1<N7:=by omega
  simp(disch:=first|(simp;done)|omega|(simp only[Zab,aq,ak];omega)|rfl) [-getElem?_pos,c1,r3,q7,r7,gy7,aJ,aE,ag,hn7]
  refine az JX ?_
  rintro _ h8 N8 k8 rfl
  simp(disch:=first|(simp;done)|omega|(simp only[Zab,aq,ak];omega)|rfl) [-getElem?_pos,]
  refine az (Yhf (Qh.ah k8) (In.small (z:=1) (by omega) (by omega)) (by omega) (by decide+kernel)) ?_
  rintro vq9 h9 N9 k9 hq9
  have k89:=k8.trans k9
  have r9:=(k89.get (N5+1) (by omega)).trans r7
  have y9:=(k89.get (N+1) (by omega)).trans gy7
  have hr9:=Qi.ah k89
  have hb9:In h9 N9 (.agg [.int .i64 n2,u2]) b:=(((((hy.ah k1).ah k2).ah k3).ah k4).ah k5 |>.ah kC |>.ah k7).ah k89
  have zeO:=k89.le
  have z1:N5+1<N9:=by omega
  have z2:N+1<N9:=by omega
  simp(disch:=first|(simp;done)|omega|(simp only[Zab,aq,ak];omega)|rfl) [-getElem?_pos,r3,r9,y9,aJ,aE,ag,z1,z2]
  refine az (Qj hr9 hb9 (by omega) (by omega)) ?_
  rintro zfd jw N10 k10 Qk
  have zeP:=k10.le
  have Ql:=hq9.ah k10
  obtain⟨T0,T1,rfl,oq2⟩:=Ql.cells
  obtain⟨nr2,ur2,rfl,or2⟩:=Qk.cells
  have Sw:=(k10.get N5 (by omega)).trans ((k89.get N5 (by omega)).trans q7)
  have oS:=(k10.get (N5+1) (by omega)).trans r9
  have Xz:=(k10.get (N+2) (by omega)).trans ((k89.get (N+2) (by omega)).trans gz7)
  have t10:=(k10.get (N+3) (by omega)).trans ((k89.get (N+3) (by omega)).trans gt7)
  have zeh:=oq2
  have zei:=or2
  unfold V.one at oq2 or2
  have z3:N5<N10:=by omega
  have z4:N5+1<N10:=by omega
  simp(disch:=first|(simp;done)|omega|(simp only[Zab,aq,ak];omega)|rfl) [-getElem?_pos,Sw,oS,oq2,or2,ag,bE,z3,z4]
  have q11:=Ql.aG (c1:=[.int .i64 T0,T1]) (e1:=108) (w1:=true) Sw Qh.nu rfl
  have pE:=Qk.aG (c1:=[.int .i64 T0,T1]) (e1:=108) (w1:=true) Sw Qh.nu rfl
  have Qm:(jw.set N5 (.cells [.int .i64 T0,T1] 108 true)).get (N5+1)=some (.cells [.int .i64 nr,ur] 108 true):=by rw[T.aj,aA (by omega)];exact oS
  have q12:=q11.aG (c1:=[.int .i64 nr2,ur2]) (e1:=108) (w1:=true) Qm Qi.nu rfl
  have Kb:=pE.aG (c1:=[.int .i64 nr2,ur2]) (e1:=108) (w1:=true) Qm Qi.nu rfl
  rw[e1]at q12
  rw[e2]at Kb
  have kG:=(((kF.trans k89).trans k10).set (i:=N5) (o:=.cells [.int .i64 T0,T1] 108 true) (by omega)).set (i:=N5+1) (o:=.cells [.int .i64 nr2,ur2] 108 true) (by omega)
  refine mJ (Yh1 (m:=N5) (by simp[aD,mq,mr]) kG (by omega) (by omega) q12 Kb zeh zei (by rw[T.aj,aA (by omega),T.aj,aA (by omega)];exact Xz) (by rw[T.aj,aA (by omega),T.aj,aA (by omega)];exact t10) (by simp) (by simp) (by simp[r4]) (by simp[r5]) (by simp) (by simp)) ?_
  rintro e fr st ⟨rfl,r,rfl,p1,p2,p3,p4⟩
  simp(disch:=first|(simp;done)|omega|(simp only[Zab,aq,ak];omega)|rfl) [-getElem?_pos,p1,p2]
  exact⟨p3,p4⟩
 ·have c1:¬df rv<0:=by unfold df;rw[aA eI];split<;>omega
  rw[aA eI]at e1 e2
  rw[e1]at Qh
  rw[e2]at Qi
  simp(disch:=first|(simp;done)|omega|(simp only[Zab,aq,ak];omega)|rfl) [-getElem?_pos,c1]
  refine mJ (Yh1 hWW kF (by omega) (by omega) Qh Qi oq' or' gz7 gt7 q7 r7 (by simp[r4]) (by simp[r5]) (by simp) (by simp)) ?_
  rintro e fr st ⟨rfl,r,rfl,p1,p2,p3,p4⟩
  simp(disch:=first|(simp;done)|omega|(simp only[Zab,aq,ak];omega)|rfl) [-getElem?_pos,p1,p2]
  exact⟨p3,p4⟩
def Zrx(hx:In h N x a)(hy:In h N y b)(hb:0<b)(la:wl a<10000000000)(lb:wl b<10000000000):Fn A.C 185 [x,y] h N (fun v h' n'=>∃q r,v=.aS [q,r]/\In h' n' q (a/b)/\In h' n' r (a%b)):=by
 intro w
 rw[aV,A.k185 (by simp)]
 obtain⟨n1,u1,rfl,o1⟩:=hx.cells
 obtain⟨n2,u2,rfl,o2⟩:=hy.cells
 have kk:=aI (aI (aI (aI (ae.refl (h:=h) (n:=N)) (.cells [.int .i64 n1,u1] 108 true)) (.cells [.int .i64 n2,u2] 108 true)) (.cells [.int .i64 0,.aa] 108 true)) (.cells [.int .i64 0,.aa] 108 true)
 have So:=o2
 unfold V.one at o1 o2
 have go:∀r:T V,r.get 2=some (.ptr N 0)->r.get 3=some (.ptr (N+1) 0)->r.get 4=some (.ptr (N+2) 0)->r.get 5=some (.ptr (N+3) 0)->bH A.C [.fin [.cell 4 (some 2),.cell 5 (some 2)] ⟨h,N,w⟩] (fx (A.C.code none A.m_ ⟨r,84,[]⟩ ⟨(((h.set N (.cells [.int .i64 n1,u1] 108 true)).set (N+1) (.cells [.int .i64 n2,u2] 108 true)).set (N+1+1) (.cells [.int .i64 0,.aa] 108 true)).set (N+1+1+1) (.cells [.int .i64 0,.aa] 108 true),N+1+1+1+1,[]⟩)) (Co (aF (fun v h' n'=>∃q r,v=.aS [q,r]/\In h' n' q (a/b)/\In h' n' r (a%b)) h N w)):=by
  intro r r2 r3 r4 r5
  refine mJ (Yk0 (hx.ah kk) (hy.ah kk) hb la lb kk So (by simp) (by simp) (by simp) (by simp) r2 r3 r4 r5) ?_
  rintro e fr ⟨h5,n5,w5⟩ ⟨rfl,r',rfl,Qn,r5',⟨hW,hK,n6,u6,g6,hi⟩,⟨_,_,n7,u7,g7,EB⟩⟩
  simp only at hW hK g6 hi g7 EB
  simp(disch:=first|(simp;done)|omega|(simp only[Zab,aq,ak];omega)|rfl) [-getElem?_pos,Qn,r5',g6,g7,aJ,aE,aF,hW]
  exact⟨hK,_,_,⟨rfl,rfl⟩,hi,EB⟩
 rcases id hx with⟨e1,s1,s2⟩|⟨i,o,l,c,e1,_⟩
 ·simp only[V.agg.injEq,gC,V.int.injEq,true_and,and_true]at e1
  obtain⟨rfl,rfl⟩:=e1
  rcases id hy with⟨e2,t1,t2⟩|⟨i,o,l,c,e2,_⟩
  ·simp only[V.agg.injEq,gC,V.int.injEq,true_and,and_true]at e2
   obtain⟨rfl,rfl⟩:=e2
   by_cases uF:n1= -9223372036854775808
   ·simp(disch:=first|(simp;done)|omega|(simp only[Zab,aq,ak];omega)|rfl) [-getElem?_pos,A.b185,aJ,aE,ag,aL,uF]
    subst uF
    exact go _ (by simp) (by simp) (by simp) (by simp)
   ·have hz:¬n2=0:=by omega
    obtain⟨f1,f2⟩:=Zww (a:=n1) hb
    have b1:(n1.tdiv n2).natAbs<=n1.natAbs:=by rw[Int.natAbs_tdiv];exact uZ _ _
    have b2:(n1.tmod n2).natAbs<=n1.natAbs:=by rw[Int.natAbs_tmod];exact Nat.mod_le _ _
    have b3:=Int.tmod_lt_of_pos n1 hb
    obtain⟨q,hq⟩:∃q,n1.tdiv n2=q:=⟨_,rfl⟩
    obtain⟨s,hs⟩:∃q,n1.tmod n2=q:=⟨_,rfl⟩
    rw[hq]at b1 f1
    rw[hs]at b2 b3 f1 f2
    have w1:bn .i64 q=q:=cL (by omega) (by omega)
    have d1:¬N=N+1:=by omega
    by_cases eI:s<0
    ·rw[aQ eI]at f1 f2
     have w2:bn .i64 (s+n2)=s+n2:=cL (by omega) (by omega)
     have xN: -9223372036854775808<q:=by
      have:=Int.mul_tdiv_add_tmod n1 n2
      omega
     have w3:bn .i64 (q-1)=q-1:=cL (by omega) (by omega)
     simp(disch:=first|(simp;done)|omega|(simp only[Zab,aq,ak];omega)|rfl) [-getElem?_pos,A.b185,aJ,aE,ag,aL,uF,hz,hq,hs,w1,w2,w3,eI,aF,bU.bZ]
     exact⟨(kk.set (by omega)).set (by omega),_,_,⟨rfl,rfl⟩,by rw[<-f1];exact In.small (by omega) (by omega),by rw[<-f2];exact In.small (by omega) (by omega)⟩
    ·rw[aA eI]at f1 f2
     simp(disch:=first|(simp;done)|omega|(simp only[Zab,aq,ak];omega)|rfl) [-getElem?_pos,A.b185,aJ,aE,ag,aL,uF,hz,hq,hs,w1,eI,aF,bU.bZ]
     exact⟨(kk.set (by omega)).set (by omega),_,_,⟨rfl,rfl⟩,by rw[<-f1];exact In.small (by omega) (by omega),by rw[<-f2];exact In.small (by omega) (by omega)⟩
  ·simp only[V.agg.injEq,gC,V.int.injEq,true_and,and_true]at e2
   obtain⟨rfl,rfl⟩:=e2
   simp(disch:=first|(simp;done)|omega|(simp only[Zab,aq,ak];omega)|rfl) [-getElem?_pos,A.b185,aJ,aE,ag,aL]
   exact go _ (by simp) (by simp) (by simp) (by simp)
 ·simp only[V.agg.injEq,gC,V.int.injEq,true_and,and_true]at e1
  obtain⟨rfl,rfl⟩:=e1
  simp(disch:=first|(simp;done)|omega|(simp only[Zab,aq,ak];omega)|rfl) [-getElem?_pos,A.b185,aJ,aE,ag,aL,o2]
  exact go _ (by simp) (by simp) (by simp) (by simp)
def Yhj(hx:In h N x a)(hy:In h N y b)(hb:0<b)(la:wl a<10000000000)(lb:wl b<10000000000):Fn A.C 201 [x,y] h N (fun v h' n'=>In h' n' v (a/b)):=by
 intro w
 rw[aV,A.k201 (by simp)]
 obtain⟨n1,u1,rfl,o1⟩:=hx.cells
 obtain⟨n2,u2,rfl,o2⟩:=hy.cells
 have kk:=aI (aI (aI (ae.refl (h:=h) (n:=N)) (.cells [.int .i64 n1,u1] 108 true)) (.cells [.int .i64 n2,u2] 108 true)) (.cells [.int .i64 0,.aa] 108 true)
 have mI:=hx.ah kk
 have uU:=hy.ah kk
 have CD:=JY uU
 unfold V.one at o1 o2
 have c1:¬df b<0:=by unfold df;rw[aA (by omega)];split<;>omega
 simp(disch:=first|(simp;done)|omega|(simp only[Zab,aq,ak];omega)|rfl) [-getElem?_pos,A.b201,aJ,aE,ag,o1,o2]
 refine az CD ?_
 rintro _ h1 m1 k1 rfl
 have ft:=k1.le
 have g0:=k1.get N (by omega)
 have g1:=k1.get (N+1) (by omega)
 have g2:=k1.get (N+1+1) (by omega)
 simp at g0 g1 g2
 simp(disch:=first|(simp;done)|omega|(simp only[Zab,aq,ak];omega)|rfl) [-getElem?_pos,c1,g0,g1,aJ,aE]
 refine az (Zrx (mI.ah k1) (uU.ah k1) hb la lb) ?_
 rintro _ h2 m2 k2 ⟨q,r,rfl,hq,hr⟩
 have gJ:=k2.le
 have g22:=(k2.get (N+1+1) (by omega)).trans g2
 obtain⟨n3,u3,rfl,o3⟩:=hq.cells
 obtain⟨n4,u4,rfl,o4⟩:=hr.cells
 unfold V.one at o3 o4
 have d1:¬m2=m2+1:=by omega
 have d2:¬N+1+1=m2:=by omega
 have d3:¬N+1+1=m2+1:=by omega
 have mq:¬m2<N:=by omega
 have Kc:¬m2+1<N:=by omega
 have mr:¬N+1+1<N:=by omega
 have kE:=((aI (aI (ae.refl (h:=h2) (n:=m2)) (.cells [.int .i64 0,.aa] 108 true)) (.cells [.int .i64 0,.aa] 108 true)).set (i:=m2) (o:=.cells [.int .i64 n3,u3] 108 true) (aZ _)).set (i:=m2+1) (o:=.cells [.int .i64 n4,u4] 108 true) (by omega)
 have g23:=(kE.get (N+1+1) (by omega)).trans g22
 have d4:¬N+1=m2:=by omega
 simp(disch:=first|(simp;done)|omega|(simp only[Zab,aq,ak];omega)|rfl) [-getElem?_pos,g22,aJ,aE,ag,bE,o3,o4,d1,d2,d3,d4,aF,mq,Kc,mr]
 exact⟨(((kk.trans k1).trans k2).trans kE).set (by omega),(hq.ah kE).aG g23 (by simp) rfl⟩
structure T2 (h:T O) (N G m:Nat) (r:T V) (st:St):Prop where
 w:aD N st.w=[]
 ah:ae h N st.h st.n
 le:N+3<=st.n
 row:st.h.get (N+2)=some (.cells [.int .i64 0,.aa] 108 true)
 ex:∃(n1 n2:Int) (u1 u2:V) (p:Nat),st.h.get N=some (.cells [.int .i64 n1,u1] 108 true)/\st.h.get (N+1)=some (.cells [.int .i64 n2,u2] 108 true)/\In st.h st.n (.agg [.int .i64 n1,u1]) p/\In st.h st.n (.agg [.int .i64 n2,u2]) m/\Nat.gcd p m=G/\wl p<10000000000/\wl m<10000000000
def Yf6{G:Nat}(a2:r0.get 2=some (.ptr N 0))(a3:r0.get 3=some (.ptr (N+1) 0)):
  ∀x r st,(∀t,jR [(5,6),(11,21)] t=false->r.get t=r0.get t)->Fx [(5,6),(11,21)] r0 23 ⟨r,23,[]⟩->T2 h N G x r st->Code A.C none A.rn ⟨r,23,[]⟩ st (Rd [(5,6),(11,21)] r0 23 (T2 h N G) x (fun e r st=>e=.exit 0/\T2 h N G 0 r st)):=by
 rintro m r ⟨H,n0,W⟩ hr hf ⟨hW,hK,hle,aM,n1,n2,u1,u2,p,g0,g1,hp,hm,hg,lp,lm⟩
 simp only at hW hK hle aM g0 g1 hp hm
 rw[dk]
 simp(disch:=first|(simp;done)|omega|(simp only[Zab,aq,ak];omega)|rfl) [-getElem?_pos,A.rn,hr,hf,a2,a3,g1,aJ,aE]
 refine az (JY hm) ?_
 rintro _ h1 m1 k1 rfl
 have ft:=k1.le
 have f0:=(k1.get N (by omega)).trans g0
 have f1:=(k1.get (N+1) (by omega)).trans g1
 have f2:=(k1.get (N+2) (by omega)).trans aM
 by_cases h0:m=0
 ·subst h0
  simp(disch:=first|(simp;done)|omega|(simp only[Zab,aq,ak];omega)|rfl) [-getElem?_pos,hr,hf,df,aL]
  exact⟨hW,hK.trans k1,by show N+3<=m1;omega,f2,n1,n2,u1,u2,p,f0,f1,hp.ah k1,hm.ah k1,hg,lp,lm⟩
 ·have c1:¬df m=0:=by unfold df;rw[aA (by omega),aA (by omega)];decide
  simp(disch:=first|(simp;done)|omega|(simp only[Zab,aq,ak];omega)|rfl) [-getElem?_pos,hr,hf,a2,a3,c1,aL,f0,f1,aJ,aE]
  refine az (Zrx (hp.ah k1) (hm.ah k1) (by omega) lp lm) ?_
  rintro _ h2 m2 k2 ⟨q,s,rfl,hq,hs⟩
  have gJ:=k2.le
  have e0:=(k2.get N (by omega)).trans f0
  have e1:=(k2.get (N+1) (by omega)).trans f1
  have e2:=(k2.get (N+2) (by omega)).trans f2
  obtain⟨n3,u3,rfl,o3⟩:=hq.cells
  obtain⟨n4,u4,rfl,o4⟩:=hs.cells
  obtain⟨_,_,e5,o2⟩:=hm.cells
  simp only[V.agg.injEq,gC,V.int.injEq,true_and,and_true]at e5
  obtain⟨rfl,rfl⟩:=e5
  have So:=o2
  unfold V.one at o3 o4 o2
  have kE:=((aI (aI (ae.refl (h:=h2) (n:=m2)) (.cells [.int .i64 0,.aa] 108 true)) (.cells [.int .i64 0,.aa] 108 true)).set (i:=m2) (o:=.cells [.int .i64 n3,u3] 108 true) (aZ _)).set (i:=m2+1) (o:=.cells [.int .i64 n4,u4] 108 true) (by omega)
  have i0:=(kE.get N (by omega)).trans e0
  have i1:=(kE.get (N+1) (by omega)).trans e1
  have i2:=(kE.get (N+2) (by omega)).trans e2
  have d1:¬m2=m2+1:=by omega
  have d2:¬N=m2:=by omega
  have d3:¬N=m2+1:=by omega
  have d4:¬N+1=m2:=by omega
  have d5:¬N+1=m2+1:=by omega
  have d6:¬m2=N:=by omega
  have d7:¬m2+1=N:=by omega
  have d8:¬m2=N+1:=by omega
  have d9:¬m2+1=N+1:=by omega
  have d10:¬N=N+1:=by omega
  have l1:N<m2+1+1:=by omega
  have l2:N+1<m2+1+1:=by omega
  simp(disch:=first|(simp;done)|omega|(simp only[Zab,aq,ak];omega)|rfl) [-getElem?_pos,hr,hf,a2,a3,e0,e1,aJ,aE,ag,bE,o2,o3,o4,d1,d2,d3,d4,d5,d6,d7,d8,d9,d10,l1,l2,bU.bZ]
  rw[NA (by simp[d1,d2,d3,d4,d5,d6,d7,d8,d9,d10]<;>omega)]
  simp(disch:=first|(simp;done)|omega|(simp only[Zab,aq,ak];omega)|rfl) [-getElem?_pos,hr,hf]
  have mq:¬m2<N:=by omega
  have Kc:¬m2+1<N:=by omega
  have q1:=((hm.ah k1).ah k2).ah kE
  have s1:=hs.ah kE
  have q2:=q1.aG (c1:=[.int .i64 n2,u2]) (e1:=108) (w1:=true) i0 hp.nu rfl
  have s2:=s1.aG (c1:=[.int .i64 n2,u2]) (e1:=108) (w1:=true) i0 hp.nu rfl
  have i3:(((((h2.set m2 (.cells [.int .i64 0,.aa] 108 true)).set (m2+1) (.cells [.int .i64 0,.aa] 108 true)).set m2 (.cells [.int .i64 n3,u3] 108 true)).set (m2+1) (.cells [.int .i64 n4,u4] 108 true)).set N (.cells [.int .i64 n2,u2] 108 true)).get (N+1)=some (.cells [.int .i64 n2,u2] 108 true):=by rw[T.aj,aA (by omega)];exact i1
  have q3:=q2.aG (c1:=[.int .i64 n4,u4]) (e1:=108) (w1:=true) i3 hm.nu rfl
  have s3:=s2.aG (c1:=[.int .i64 n4,u4]) (e1:=108) (w1:=true) i3 hm.nu rfl
  refine⟨p%m,kW _ (by omega),by simp[aD,hW,mq,Kc],((((hK.trans k1).trans k2).trans kE).set (aZ _)).set (by omega),by show N+3<=m2+1+1;omega,?_,n2,n4,u2,u4,m,by simp,by simp,q3,?_,?_,lm,?_⟩
  ·rw[T.aj,aA (by omega),T.aj,aA (by omega)];exact i2
  ·rw[<-Int.natCast_emod]at s3;exact s3
  ·rw[<-hg,Nat.gcd_comm p m,Nat.gcd_rec m p,Nat.gcd_comm]
  ·have:=Yl0 (a:=(p:Int)) (b:=(m:Int)) (by omega)
   rw[<-Int.natCast_emod]at this
   omega
def Yhv(hx:In h N x a)(hy:In h N y b)(la:wl a<10000000000)(lb:wl b<10000000000):Fn A.C 190 [x,y] h N (fun v h' n'=>In h' n' v (Int.gcd a b:Nat)):=by
 intro w
 rw[aV,A.k190 (by simp)]
 obtain⟨n1,u1,rfl,o1⟩:=hx.cells
 obtain⟨n2,u2,rfl,o2⟩:=hy.cells
 have kk:=aI (aI (aI (ae.refl (h:=h) (n:=N)) (.cells [.int .i64 n1,u1] 108 true)) (.cells [.int .i64 n2,u2] 108 true)) (.cells [.int .i64 0,.aa] 108 true)
 have mI:=hx.ah kk
 have uU:=hy.ah kk
 unfold V.one at o1 o2
 simp(disch:=first|(simp;done)|omega|(simp only[Zab,aq,ak];omega)|rfl) [-getElem?_pos,A.b190,aJ,aE,ag,o1,o2]
 refine az (Yic mI (by omega)) ?_
 rintro v1 h1 m1 k1 oC
 have ft:=k1.le
 have g1:=k1.get (N+1) (by omega)
 simp at g1
 have l1:N+1<m1:=by omega
 simp(disch:=first|(simp;done)|omega|(simp only[Zab,aq,ak];omega)|rfl) [-getElem?_pos,g1,l1,aJ,aE]
 refine az (Yic (uU.ah k1) (by omega)) ?_
 rintro v2 h2 m2 k2 jQ
 have JT:=oC.ah k2
 have k12:=k1.trans k2
 have gJ:=k2.le
 obtain⟨n3,u3,rfl,o3⟩:=oC.cells
 obtain⟨n4,u4,rfl,o4⟩:=jQ.cells
 unfold V.one at o3 o4
 have i0:=k12.get N (by omega)
 have i1:=k12.get (N+1) (by omega)
 have i2:=k12.get (N+1+1) (by omega)
 simp at i0 i1 i2
 have l2:N<m2:=by omega
 have l3:N+1<m2:=by omega
 have l4:N<m1:=by omega
 simp(disch:=first|(simp;done)|omega|(simp only[Zab,aq,ak];omega)|rfl) [-getElem?_pos,i0,i1,aJ,aE,ag,bE,o3,o4,l1,l2,l3,l4,bU.bZ]
 have q1:=JT.aG (c1:=[.int .i64 n3,u3]) (e1:=108) (w1:=true) i0 hx.nu rfl
 have s1:=jQ.aG (c1:=[.int .i64 n3,u3]) (e1:=108) (w1:=true) i0 hx.nu rfl
 have i3:(h2.set N (.cells [.int .i64 n3,u3] 108 true)).get (N+1)=some (.cells [.int .i64 n2,u2] 108 true):=by rw[T.aj,aA (by omega)];exact i1
 have q2:=q1.aG (c1:=[.int .i64 n4,u4]) (e1:=108) (w1:=true) i3 hy.nu rfl
 have s2:=s1.aG (c1:=[.int .i64 n4,u4]) (e1:=108) (w1:=true) i3 hy.nu rfl
 have wa:wl (a.natAbs:Int)=wl a:=by unfold wl;rw[eG]
 have wb:wl (b.natAbs:Int)=wl b:=by unfold wl;rw[eG]
 refine c_ [(5,6),(11,21)] _ (T2 h N (Int.gcd a b)) b.natAbs ?_ (Yf6 (by simp) (by simp)) ?_
 ·refine⟨by simp[aD],((kk.trans k12).set (aZ _)).set (by omega),by show N+3<=m2;omega,?_,n3,n4,u3,u4,a.natAbs,by simp,by simp,q2,s2,rfl,by rw[wa];exact la,by rw[wb];exact lb⟩
  rw[T.aj,aA (by omega),T.aj,aA (by omega)];exact i2
 rintro e r ⟨h5,m5,W5⟩ hr ⟨rfl,hW,hK,hle,aM,n5,n6,u5,u6,p,g5,g6,hp,hm,hg,lp,lm⟩
 simp only at hW hK hle aM g5 g6 hp hm
 obtain⟨_,_,e5,o5⟩:=hp.cells
 simp only[V.agg.injEq,gC,V.int.injEq,true_and,and_true]at e5
 obtain⟨rfl,rfl⟩:=e5
 unfold V.one at o5
 rw[Nat.gcd_zero_right]at hg
 have EC:h5.get (N+1+1)=some (.cells [.int .i64 0,.aa] 108 true):=aM
 have mq:¬N+1+1<N:=by omega
 simp(disch:=first|(simp;done)|omega|(simp only[Zab,aq,ak];omega)|rfl) [-getElem?_pos,hr,g5,EC,aJ,aE,ag,bE,o5,aF,hW,mq]
 exact⟨hK.set (by omega),by rw[<-hg];exact hp.aG EC (by simp) rfl⟩
def A.b90:=A.q Tryz.f90
def A.k90:=@A.kk 90 7 [.tmp 4] A.b90 (by kernel_rfl) rfl
def A.b189:=A.q Tryz.f189
def A.k189:=@A.kk 189 7 [.tmp 4] A.b189 (by kernel_rfl) rfl
def A.b74:=A.q Tryz.f74
def A.k74:=@A.kk 74 16 [.tmp 6] A.b74 (by kernel_rfl) rfl
def zd{b:Bool}{e:Int}{st:St}:A.C.call (.func 90 [] []) [.bool b,.int .i64 e] st=some (.int .i64 (if b=true then e else 0),st):=by
 apply Call.eq
 rw[aV,A.k90 (by simp)]
 cases b<;>simp[A.b90]
def BA{b:Bool}{e:Int}{st:St}:A.C.call (.func 189 [] []) [.bool b,.int .i64 e] st=some (.int .i64 (if b=true then e else 0),st):=by
 apply Call.eq
 rw[aV,A.k189 (by simp)]
 cases b<;>simp[A.b189]
def Zl6{x lo hi:Int}{st:St}:A.C.call (.func 74 [] []) [.int .i64 x,.int .i64 lo,.int .i64 hi] st=some (.int .i64 (if x<lo\/hi<x then 3 else 0),st):=by
 apply Call.eq
 rw[aV,A.k74 (by simp)]
 by_cases h1:x<lo
 ·simp[A.b74,h1,zd]
 ·by_cases h2:hi<x<;>simp[A.b74,h1,h2,zd]
variable {s:aU}
def A.b245:=A.q Tryz.f245
def A.k245:=@A.kk 245 18 [.tmp 4] A.b245 (by kernel_rfl) rfl
def A.b186:=A.q Tryz.f186
def A.k186:=@A.kk 186 11 [.tmp 4,.tmp 5] A.b186 (by kernel_rfl) rfl
def A.b226:=A.q Tryz.f226
def A.k226:=@A.kk 226 15 [.tmp 4,.tmp 5] A.b226 (by kernel_rfl) rfl
def A.b218:=A.q Tryz.f218
def A.k218:=@A.kk 218 8 [.tmp 4] A.b218 (by kernel_rfl) rfl
def A.b246:=A.q Tryz.f246
def A.k246:=@A.kk 246 13 [.tmp 4] A.b246 (by kernel_rfl) rfl
def A.b217:=A.q Tryz.f217
def A.k217:=@A.kk 217 8 [.tmp 4] A.b217 (by kernel_rfl) rfl
def A.b279:=A.q Tryz.f279
def A.k279:=@A.kk 279 8 [.tmp 4] A.b279 (by kernel_rfl) rfl
def A.Qo:=A.q Tryz.f244
def A.CW:=A.ql A.Qo 0 []
def A.b244:=(fun x0=>A.qb A.Qo [x0]) A.CW
def A.k244:=@A.kk 244 143 [.tmp 4] A.b244 (by kernel_rfl) rfl
def A.b216:=A.q Tryz.f216
def A.k216:=@A.kk 216 23 [.tmp 4,.tmp 5,.tmp 6] A.b216 (by kernel_rfl) rfl
def A.b168:=A.q Tryz.f168
def A.k168:=@A.kk 168 13 [.tmp 4,.tmp 5,.tmp 6] A.b168 (by kernel_rfl) rfl
def Qp{s:aU}{st:St}:A.C.call (.func 245 [] []) [.str s,.str [45]] st=some (.bool (cP s),st):=by
 apply Call.eq
 rw[aV,A.k245 (by simp)]
 cases s with
 |nil=>simp[A.b245,cP]
 |cons c s=>
  have e:(([c]:aU)==[45])=decide (c.toNat=45):=by
   rw[Bool.eq_iff_iff]
   simp only[beq_iff_eq,decide_eq_true_eq,gC,and_true]
   exact⟨fun h=>by rw[h];rfl,fun h=>UInt8.toNat_inj.1 h⟩
  have h1:(1:Int)<=(s.length:Int)+1:=by omega
  simp(disch:=first|(simp;done)|omega|(simp only[Zab,aq,ak];omega)|rfl) [-getElem?_pos,A.b245,cP,aC,e,h1]
def Zr1{st:St}:A.C.call (.func 186 [] []) [.str s,.str [45]] st=some (.aS [.str (bu s),.bool (cP s)],st):=by
 apply Call.eq
 rw[aV,A.k186 (by simp)]
 simp[A.b186]
 rw[A.k226 (by simp)]
 by_cases hn:cP s=true
 ·have h1:1<=s.length:=by cases s<;>simp[cP]at hn ⊢
  have iW:(1:Int)<=s.length:=by omega
  simp(disch:=first|(simp;done)|omega|(simp only[Zab,aq,ak];omega)|rfl) [-getElem?_pos,A.b226,Qp,hn,aC,iW,bu]
 ·simp(disch:=first|(simp;done)|omega|(simp only[Zab,aq,ak];omega)|rfl) [-getElem?_pos,A.b226,Qp,hn,bu]
def Zjg{st:St}:A.C.call (.func 218 [] []) [.str s,.str [45]] st=some (.str (bu s),st):=by
 apply Call.eq
 rw[aV,A.k218 (by simp)]
 simp[A.b218]
 rw[A.k246 (by simp)]
 by_cases hn:cP s=true
 ·have h1:1<=s.length:=by cases s<;>simp[cP]at hn ⊢
  have iW:(1:Int)<=s.length:=by omega
  simp(disch:=first|(simp;done)|omega|(simp only[Zab,aq,ak];omega)|rfl) [-getElem?_pos,A.b246,Qp,hn,aC,iW,bu]
 ·simp(disch:=first|(simp;done)|omega|(simp only[Zab,aq,ak];omega)|rfl) [-getElem?_pos,A.b246,Qp,hn,bu]
def Zrn{st:St}:A.C.call (.func 217 [] []) [.str s,.str [45]] st=some (.bool (cP s),st):=by
 apply Call.eq
 rw[aV,A.k217 (by simp)]
 simp(disch:=first|(simp;done)|omega|(simp only[Zab,aq,ak];omega)|rfl) [-getElem?_pos,A.b217,Qp]
def Zrm{st:St}:A.C.call (.func 279 [] []) [.str s,.int .u8 47] st=some (.int .i64 (if ai s<s.length then (ai s:Int) else -1),st):=by
 apply Call.eq
 rw[aV,A.k279 (by simp)]
 have e:=Zj6 s 0
 simp only[vW]at e
 simp(disch:=first|(simp;done)|omega|(simp only[Zab,aq,ak];omega)|rfl) [-getElem?_pos,A.b279,JM,B9,e]
def Zvz{st:St}:A.C.call (.func 244 [] []) [.str s,.str [47]] st=some (.int .i64 (if ai s<s.length then (ai s:Int) else -1),st):=by
 apply Call.eq
 rw[aV,A.k244 (by simp)]
 by_cases hs:s=[47]
 ·subst hs
  simp(disch:=first|(simp;done)|omega|(simp only[Zab,aq,ak];omega)|rfl) [-getElem?_pos,A.b244,aL,ai]
 ·have e1:(([47]:aU)==s)=false:=by simp;exact fun h=>hs h.symm
  have e2:cR 47=47:=rfl
  simp(disch:=first|(simp;done)|omega|(simp only[Zab,aq,ak];omega)|rfl) [-getElem?_pos,A.b244,aL,Zrm,e1,e2]
def Yh4{st:St}(hl:s.length<4611686018427387904):A.C.call (.func 168 [] []) [.str s,.str [47]] st=some (.aS [.str (s.take (ai s)),.str (s.drop (ai s+1)),.bool (decide (ai s<s.length))],st):=by
 apply Call.eq
 rw[aV,A.k168 (by simp)]
 simp[A.b168]
 rw[A.k216 (by simp)]
 have hle:=BQ s
 by_cases hs:ai s<s.length
 ·simp(disch:=first|(simp;done)|omega|(simp only[Zab,aq,ak];omega)|rfl) [-getElem?_pos,A.b216,Zvz,hs,aC]
  try omega
 ·have:s.take (ai s)=s:=iP (by omega)
  have h2:s.drop (ai s+1)=[]:=zv (by omega)
  simp(disch:=first|(simp;done)|omega|(simp only[Zab,aq,ak];omega)|rfl) [-getElem?_pos,A.b216,Zvz,hs,this,h2]
end
end Go.Mx
