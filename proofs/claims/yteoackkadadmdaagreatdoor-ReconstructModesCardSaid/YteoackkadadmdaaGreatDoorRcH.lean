/-lensletref01-/
import Derived.Test.YteoackkadadmdaaGreatDoorRbK
set_option linter.all false
namespace Go.Mx
open Go Go.Proofs
set_option maxRecDepth 1000000
def A.np:av:=.seq (sr [mv 8 0,ni 9 8 0]
 (cd 9
 (.skip)
 (.exit 0)))
 (.block 1 (sr [mv 10 0,bc 11 .rem 10 1000000000,mv 5 11]
 (.seq (sr [mv 12 5,bc 13 .lss 12 0]
 (cd 13
 (.aR [mv 14 5,ge 15 (.bin .sub (.node []) false (kq 0) (tq 14)),mv 5 15])
 (.skip)))
 (sr [mv 16 3,mv 17 5,ge 18 (.aV 3 1 1 [.int .i64 0] [(0,1,(tq 17))]),ge 19 (.append 1 8 3 [.int .i64 0] (tq 16) (tq 18)),mv 3 19]
 (.aR [mv 20 0,bc 21 .quo 20 1000000000,mv 0 21])))))
def A.b174:av:=sr [ge 2 (.alloc [.bool false,.aa] 139)]
 (sr [mN 3]
 (sr [mv 6 0,bc 7 .lss 6 0,mv 4 7]
 (.seq (.block 0 (.loop A.np))
 (sr [mv 22 4,mv 23 3,c2 24 220 22 23,gn (.store 2 (tq 2) (tq 24))]
 (.ret)))))
def A.c174:A.F 174=some ⟨25,[.cell 2 (some 2)],A.b174⟩:=by kernel_rfl
def A.k174:=@A.kk 174 _ _ _ A.c174 rfl
def Ycf{s:aQ}(hd:cH s=true)(h1:1<=s.length)(h2:s.length<=3000000000){h:T O}{N:Nat}:Fn A.C 173 [.str (45::s)] h N (fun v h' n'=>Rg h' n' v (-((aH s:Nat):Int))):=by
 intro w
 have a1:cK 45=45:=rfl
 have a2:(1:Int)<=(s.length:Int)+1:=by omega
 have a3:∀st:St,tk st (some (.str (45::s))) (some (some (.int .i64 1))) (some none)=some (.str s,st):=fun st=>by rw[GH (by omega) (by simp only[bD];omega)];rfl
 rw[aO,A.k173 (by simp)]
 simp[A.b173,a1,a3,aC]
 refine bP [(0,0),(4,4),(16,32)] (fun e r st=>e=.exit 0/\∃m,m<=9/\Qw (h.set N (.cells [.bool false,.aa] 139 true)) (N+1) s m r st) (Qw (h.set N (.cells [.bool false,.aa] 139 true)) (N+1) s) s.length ?_ ?_ ?_
 ·exact⟨by simp,ab.refl,s,.aa,[],by simp,rfl,h1,aW _,hd,by simp,Own.nil,Di.nil,by simp,by simp[vI,pI]⟩
 ·rintro m r ⟨H,n1,W⟩ hr hf ⟨hW,hK,cur,u,l,g0,cO,m1,m2,oQ,g4,ho,iE,xx,hv⟩
  simp only at hW hK ho
  subst cO
  rw[bq]
  by_cases h9:9<cur.length
  ·have Hr:(9:Int)<(cur.length:Int):=by omega
   have fi:=hK.le
   have Hs:=ME (s:=cur.drop (cur.length-9)) (st:=⟨H,n1,W⟩) (Qv oQ _) (by simp;omega)
   have Cl:((cur.length:Int)-9).toNat=cur.length-9:=by omega
   have EE:=AZ (Qv oQ (cur.length-9))
   have iz:(cur.drop (cur.length-9)).length=9:=by simp;omega
   rw[iz]at EE
   have iU:=Zwu (cur.take (cur.length-9)) (cur.drop (cur.length-9))
   rw[BL,iz,show (10:Nat)^9=1000000000 by decide]at iU
   generalize hD:aH (cur.drop (cur.length-9))=D at*
   obtain⟨v',h',w',e1,e2,e3,e4,e5⟩:=sE (x:=[.int .i64 (D:Int)]) (u:=.slice n1 0 1 (some 1) 1) (bytes:=8) (w:=W) (ho.ae (ab.refl.new (.cells [.int .i64 (D:Int)] 3 true))) (by omega) (by decide) rfl (by simp[eD,St.row,aE]) (by rw[Cc];omega)
   rw[<-DN]at e5
   simp(disch:=first|(simp;done)|omega|rfl) [A.jN,hf,g0,g4,Hr,Cl,aC,Hs,ad,e1]
   refine⟨cur.length-9,by omega,⟨by rw[e2];exact hW,(hK.new _).then e3,cur.take (cur.length-9),v',l++[(D:Int)],by simp,by simp,by omega,by omega,Ztt oQ _,by simp,e5,iE.app (Di.one (by omega) (by omega)),by simp;omega,?_⟩⟩
   rw[B5,iN,zk,uO,<-hv]
   have Ht:((aH cur:Nat):Int)=(aH (cur.take (cur.length-9)):Nat)*1000000000+D:=by omega
   rw[Ht]
   generalize ((aH (cur.take (cur.length-9)):Nat):Int)=X
   generalize pI l.length=P
   grind
  ·have Hr:¬(9:Int)<(cur.length:Int):=by omega
   simp[A.jN,hf,g0,Hr]
   exact⟨cur.length,by omega,hW,hK,cur,u,l,by simp[g0],rfl,m1,m2,oQ,by simp[g4],ho,iE,xx,hv⟩
 ·rintro _ r ⟨H,n1,W⟩ hr ⟨rfl,m,m9,hW,hK,cur,u,l,g0,cO,m1,m2,oQ,g4,ho,iE,xx,hv⟩
  simp only at hW hK ho
  subst cO
  have fi:=hK.le
  have Hs:=ME (s:=cur) (st:=⟨H,n1,W⟩) oQ (by omega)
  have EE:=AZ oQ
  have hp9:=OG m9
  generalize hD:aH cur=D at*
  obtain⟨v',h',w',e1,e2,e3,e4,e5⟩:=sE (x:=[.int .i64 (D:Int)]) (u:=.slice n1 0 1 (some 1) 1) (bytes:=8) (w:=W) (ho.ae (ab.refl.new (.cells [.int .i64 (D:Int)] 3 true))) (by omega) (by decide) rfl (by simp[eD,St.row,aE]) (by rw[Cc];omega)
  rw[<-DN]at e5
  simp[hr,g0,g4,Hs,ad,e1]
  have kp:Di (l++[(D:Int)]):=iE.app (Di.one (by omega) (by omega))
  refine aA (xn (b:=true) (n:=aH s) e5.sl kp (by rw[B5];exact hv) (by simp;omega)) ?_
  rintro y h5 n5 k5 hy
  have kk:=((hK.new (.cells [.int .i64 (D:Int)] 3 true)).then e3).trans k5
  have vt:=kk.le
  have oe:=kk.get N (by omega)
  simp at oe
  obtain⟨u5,rfl,Ag⟩:=hy
  have He:=fun c1 (hc:c1.length=2)=>Sl.setInt (i:=N) (c1:=c1) (e1:=139) (w1:=true) Ag oe (by intro x hx k m;simp at hx;rcases hx with rfl|rfl<;>simp) hc
  have Bk:=Sl.form Ag |>.one
  unfold V.one at Bk
  have ow:ax N w'=[]:=MV (uz N) (by rw[e2];exact hW)
  have k0:=(ab.refl (h:=h) (n:=N)).new (.cells [.bool false,.aa] 139 true)
  simp[hr,oe,ad,bO,Bk,aS,aE,az,ow]
  exact⟨(k0.trans kk).set (aW N),u5,by simp,by simpa[Dn]using He _ rfl⟩
structure Yb (h:T O) (N a:Nat) (neg:Bool) (m:Nat) (r:T V) (st:St):Prop where
 w:ax N st.w=[]
 ae:ab h N st.h st.n
 ex:∃z u l,z.natAbs=m/\m<=a/\(z<0->neg=true)/\(0<z->neg=false)/\r.get 0=some (.int .i64 z)/\r.get 3=some u/\Own 1 3 N st.h st.n u (o_ l)/\Di l/\vI l+pI l.length*m=a/\l.length<=100/\(m≠0->pI l.length<=a)
def Ybw{z:Int}{h:T O}{N:Nat}(h1: -9223372036854775808<=z)(h2:z<9223372036854775808):Fn A.C 174 [.int .i64 z] h N (fun v h' n'=>Rg h' n' v z):=by
 intro w
 rw[aO,A.k174 (by simp)]
 have kB:=(ab.refl (h:=h) (n:=N)).new (.cells [.bool false,.aa] 139 true)
 simp[A.b174]
 refine bP [(0,0),(3,3),(5,5),(8,21)] (fun e r st=>e=.exit 0/\Yb (h.set N (.cells [.bool false,.aa] 139 true)) (N+1) z.natAbs (decide (z<0)) 0 r st) (Yb (h.set N (.cells [.bool false,.aa] 139 true)) (N+1) z.natAbs (decide (z<0))) z.natAbs ?_ ?_ ?_
 ·exact⟨by simp,ab.refl,z,.aa,[],rfl,aW _,fun h=>by simp[h],fun h=>by simp;omega,by simp,by simp,Own.nil,Di.nil,by simp[vI,pI],by simp,fun h=>by simp[pI];omega⟩
 ·rintro m r ⟨H,n1,W⟩ hr hf ⟨hW,hK,y,u,l,rfl,hm,wZ,ff,g0,g3,ho,hd,hv,hl,hp⟩
  simp only at hW hK ho
  rw[bq]
  by_cases hy:y=0
  ·subst hy
   simp[A.np,hf,g0]
   exact⟨hW,hK,0,u,l,rfl,by omega,wZ,ff,by simp[g0],by simp[g3],ho,hd,hv,hl,hp⟩
  ·have fi:=hK.le
   obtain⟨d,pE⟩:∃d:Nat,d=y.natAbs%1000000000:=⟨_,rfl⟩
   obtain⟨q,rO⟩:∃q:Nat,q=y.natAbs/1000000000:=⟨_,rfl⟩
   have iz:d<1000000000:=by omega
   have wA:(y.tdiv 1000000000).natAbs=q:=by rw[Int.natAbs_tdiv];exact rO.symm
   have jQ:(y.tmod 1000000000).natAbs=d:=by rw[Int.natAbs_tmod];exact pE.symm
   have Tz:(y<0->y.tdiv 1000000000<=0)/\(0<y->0<=y.tdiv 1000000000):=by
    constructor
    ·intro h
     have:(-y).tdiv 1000000000= -(y.tdiv 1000000000):=Int.neg_tdiv _ _
     have h3:0<=(-y).tdiv 1000000000:=Int.tdiv_nonneg (by omega) (by omega)
     omega
    ·intro h
     exact Int.tdiv_nonneg (by omega) (by omega)
   have hms:(y<0->y.tmod 1000000000<=0)/\(0<y->0<=y.tmod 1000000000):=by
    constructor
    ·intro h
     have:(-y).tmod 1000000000= -(y.tmod 1000000000):=Int.neg_tmod _ _
     have h3:0<=(-y).tmod 1000000000:=Int.tmod_nonneg _ (by omega)
     omega
    ·intro h
     exact Int.tmod_nonneg _ (by omega)
   generalize hyq:y.tdiv 1000000000=Y at*
   generalize hym:y.tmod 1000000000=D at*
   have w1:bu .i64 Y=Y:=cF (by omega) (by omega)
   have w2:bu .i64 (0-D)= -D:=by rw[Int.zero_sub];exact cF (by omega) (by omega)
   have w3:bu .i64 (-D)= -D:=cF (by omega) (by omega)
   have hlen:l.length+1<=100:=by
    apply Classical.byContradiction
    intro hc
    have h5:l.length=100:=by omega
    have h6:=hp (by omega)
    rw[h5,QC]at h6
    have h7:(1000000000^100:Nat)<=z.natAbs:=by exact_mod_cast h6
    have h8:(9223372036854775808:Nat)<1000000000^100:=by decide
    omega
   obtain⟨v',h',w',e1,e2,e3,e4,e5⟩:=sE (x:=[.int .i64 (d:Int)]) (u:=.slice n1 0 1 (some 1) 1) (bytes:=8) (w:=W) (ho.ae (ab.refl.new (.cells [.int .i64 (d:Int)] 3 true))) (by omega) (by decide) rfl (by simp[eD,St.row,aE]) (by rw[Cc];omega)
   rw[<-DN]at e5
   have gZ:vI (l++[(d:Int)])+pI (l++[(d:Int)]).length*(q:Int)=z.natAbs:=by
    rw[B5,iN,zk,uO,<-hv]
    have:(y.natAbs:Int)=1000000000*(q:Int)+d:=by omega
    rw[this]
    generalize pI l.length=P
    grind
   have hqa:q<y.natAbs:=by omega
   have ZE:q≠0->pI (l++[(d:Int)]).length<=z.natAbs:=fun hq=>by
    have h3:0<=vI (l++[(d:Int)]):=uP (hd.app (Di.one (by omega) (by omega)))
    have h4:0<pI (l++[(d:Int)]).length:=B4 _
    have h5:pI (l++[(d:Int)]).length*1<=pI (l++[(d:Int)]).length*(q:Int):=qt (by omega) (by omega)
    omega
   have fin:Yb (h.set N (.cells [.bool false,.aa] 139 true)) (N+1) z.natAbs (decide (z<0)) q ((r.set 3 v').set 0 (.int .i64 Y)) ⟨h',n1+1+1,w'⟩:=⟨by rw[e2];exact hW,(hK.new _).then e3,Y,v',l++[(d:Int)],wA,by omega,fun h=>wZ (by have:=Tz.2;omega),fun h=>ff (by have:=Tz.1;omega),by simp,by simp,e5,hd.app (Di.one (by omega) (by omega)),gZ,by simp;omega,ZE⟩
   obtain⟨f1,f2,f3⟩:=fin
   by_cases hD:D<0
   ·have QF: -D=(d:Int):=by omega
    rw[QF]at w2 w3
    simp[A.np,hf,g0,g3,hy,hyq,hym,hD,w1,w3,QF,ad,e1]
    exact⟨q,by omega,f1,f2,by simpa using f3⟩
   ·have QF:D=(d:Int):=by omega
    have hD':¬(d:Int)<0:=by omega
    simp[A.np,hf,g0,g3,hy,hyq,hym,hD',w1,QF,ad,e1]
    exact⟨q,by omega,f1,f2,by simpa using f3⟩
 ·rintro _ r ⟨H,n1,W⟩ hr ⟨rfl,hW,hK,y,u,l,hy,hm,wZ,ff,g0,g3,ho,hd,hv,hl,hp⟩
  simp only at hW hK ho
  have h0:y=0:=by omega
  subst h0
  have jt:vI l=(z.natAbs:Nat):=by simpa using hv
  simp[hr,g3]
  refine aA (xn (n:=z.natAbs) ho.sl hd jt (by omega)) ?_
  rintro v5 h5 n5 k5 Qt
  have ez:(if decide (z<0)=true then -((z.natAbs:Nat):Int) else ((z.natAbs:Nat):Int))=z:=by
   by_cases h0:z<0<;>simp[h0]<;>omega
  rw[ez]at Qt
  have vt:=hK.le
  have Hl:=k5.le
  have oe:=(k5.get N (by omega)).trans (hK.get N (by omega))
  rw[T.ag,aF rfl]at oe
  obtain⟨u5,rfl,Ag⟩:=Qt
  have p1:=Sl.form Ag |>.one
  have p2:=Sl.form Ag |>.cells
  unfold V.one at p1
  unfold V.cells at p2
  have ow:ax N W=[]:=MV (uz N) hW
  simp[hr,oe,ad,bO,p1,aS,aE,az,ow]
  exact⟨((kB.trans hK).trans k5).set (aW N),u5,by simp,Sl.setInt Ag oe je rfl⟩
def Zsf{z:Int}{h:T O}{N:Nat}(hl:(aN z).length<=2000000000):Fn A.C 173 [.str (aN z)] h N (fun v h' n'=>Rg h' n' v z):=by
 have h1:1<=(aq z.natAbs).length:=List.length_pos_iff.2 (IY _)
 unfold aN at hl ⊢
 by_cases hz:z<0
 ·rw[aF hz]at hl ⊢
  simp only[bD]at hl
  have e: -((aH (aq z.natAbs):Nat):Int)=z:=by rw[GA];omega
  have:=Ycf (A8 z.natAbs) h1 (by omega) (h:=h) (N:=N)
  rw[e]at this
  exact this
 ·rw[ar hz]at hl ⊢
  have e:((aH (aq z.natAbs):Nat):Int)=z:=by rw[GA];omega
  have:=Qx (A8 z.natAbs) h1 (by omega) (h:=h) (N:=N)
  rw[e]at this
  exact this
def Zse{h h2:T O}{N n2:Nat}{a b:Int}{x y:V}(hx:Sl h2 n2 x (dI (ds a.natAbs)))(hy:Sl h2 n2 y (dI (ds b.natAbs)))(r0:h2.get N=some (.cells [.bool false,.aa] 139 true))(r1:h2.get (N+1)=some (.cells [.bool false,.aa] 139 true)):Rg ((h2.set N (.cells [.bool (decide (a<0)),x] 139 true)).set (N+1) (.cells [.bool (decide (b<0)),y] 139 true)) n2 (.agg [.bool (decide (a<0)),x]) a/\Rg ((h2.set N (.cells [.bool (decide (a<0)),x] 139 true)).set (N+1) (.cells [.bool (decide (b<0)),y] 139 true)) n2 (.agg [.bool (decide (b<0)),y]) b:=by
 have EH:(h2.set N (.cells [.bool (decide (a<0)),x] 139 true)).get (N+1)=some (.cells [.bool false,.aa] 139 true):=by rw[T.ag,ar (by omega)];exact r1
 exact⟨⟨x,rfl,Sl.setInt (Sl.setInt hx r0 je rfl) EH je rfl⟩,⟨y,rfl,Sl.setInt (Sl.setInt hy r0 je rfl) EH je rfl⟩⟩
def Nc{q:Rat}{h:T O}{N:Nat}(l1:(aN q.num).length<=1000000000)(l2:(aq q.den).length<=1000000000):Fn A.C 118 [.str (a_ q)] h N (fun v h' n'=>∃x y,v=.bg [x,y]/\Rg h' n' x q.num/\Rg h' n' y (q.den:Int)):=by
 intro w
 have ay:(a_ q).length<=3000000000:=by
  unfold a_
  split
  ·omega
  ·simp only[iN,bD];omega
 have cE:=fun st=>EF (s:=a_ q) (st:=st) (by omega)
 have hsa:=I1 q
 have htk:=Li q
 have jW:=(ab.refl (h:=h) (n:=N)).new (.cells [.bool false,.aa] 139 true)
 have k0:=jW.new (.cells [.bool false,.aa] 139 true)
 have XR:¬N+1=N:=by omega
 have d5':¬N=N+1:=by omega
 rw[aO,A.k118 (by simp)]
 by_cases hd:q.den=1
 ·have he:ah (a_ q)=(a_ q).length:=by
   have:=Cs q
   have h2:ah (a_ q)<=(a_ q).length:=by
    rw[hsa]
    unfold a_
    rw[aF hd]
    exact aW _
   omega
  have kY:a_ q=aN q.num:=by unfold a_;rw[aF hd]
  have c1:((ah (a_ q):Int)=((a_ q).length:Int)):=by omega
  rw[hd]
  simp[A.b118,cE,he]
  rw[kY]
  refine aA (Zsf (z:=q.num) (by omega)) ?_
  rintro v1 h1 n1 k1 ⟨x,rfl,hx⟩
  simp[]
  refine aA (Ybw (z:=1) (by omega) (by omega)) ?_
  rintro v2 h2 n2 k2 ⟨y,rfl,hy⟩
  have fl:=k1.le
  have gX:=k2.le
  have hx:=Sl.ae hx k2
  have r0:=(k2.get N (by omega)).trans (k1.get N (by omega))
  have r1:=(k2.get (N+1) (by omega)).trans (k1.get (N+1) (by omega))
  simp at r0 r1
  have xp:=(Sl.form hx).one
  have pT:=(Sl.form hy).one
  have CT:=(Sl.form hx).cells
  have uA:=(Sl.form hy).cells
  unfold V.one at xp pT
  unfold V.cells at CT uA
  obtain⟨e1,e2⟩:=Zse (h:=h) (b:=1) hx hy r0 r1
  have M3:N<n1:=by omega
  have M4:N<n2:=by omega
  have M5:N+1<n2:=by omega
  simp[r0,r1,ad,bO,xp,pT,aS,aE,az]
  simp only[show decide ((1:Int)<0)=false from rfl]at e1 e2
  exact⟨(((k0.trans k1).trans k2).set (by omega)).set (by omega),_,_,⟨rfl,rfl⟩,e1,e2⟩
 ·have cW:=(Cs q).2 hd
  have xo:=Lj q hd
  have c1:¬((ah (a_ q):Int)=((a_ q).length:Int)):=by omega
  have c2:¬(ah (a_ q)=(a_ q).length):=by omega
  have c3:(ah (a_ q):Int)<=((a_ q).length:Int):=by omega
  have c4:(ah (a_ q):Int)+1<=((a_ q).length:Int):=by omega
  have c5:((ah (a_ q):Int)+1).toNat=ah (a_ q)+1:=by omega
  have Vl:aH (aq q.den)=q.den:=GA _
  simp[A.b118,cE,c1,c3,aC,htk]
  refine aA (Zsf (z:=q.num) (by omega)) ?_
  rintro v1 h1 n1 k1 ⟨x,rfl,hx⟩
  simp(disch:=omega) [c5,aC,xo]
  refine aA (Qx (A8 q.den) (List.length_pos_iff.2 (IY _)) (by omega)) ?_
  rintro v2 h2 n2 k2 hy
  rw[Vl]at hy
  obtain⟨y,rfl,hy⟩:=hy
  have fl:=k1.le
  have gX:=k2.le
  have hx:=Sl.ae hx k2
  have r0:=(k2.get N (by omega)).trans (k1.get N (by omega))
  have r1:=(k2.get (N+1) (by omega)).trans (k1.get (N+1) (by omega))
  simp at r0 r1
  have xp:=(Sl.form hx).one
  have pT:=(Sl.form hy).one
  have CT:=(Sl.form hx).cells
  have uA:=(Sl.form hy).cells
  unfold V.one at xp pT
  unfold V.cells at CT uA
  obtain⟨e1,e2⟩:=Zse (h:=h) (b:=(q.den:Int)) hx hy r0 r1
  have M3:N<n1:=by omega
  have M4:N<n2:=by omega
  have M5:N+1<n2:=by omega
  have xQ:¬(q.den:Int)<0:=by omega
  simp only[show decide ((q.den:Int)<0)=false by simp[xQ]]at e1 e2
  simp[r0,r1,ad,bO,xp,pT,M3,M4,M5,aS,aE,cA.cB,az,xQ]
  exact⟨(((k0.trans k1).trans k2).set (by omega)).set (by omega),_,_,⟨rfl,rfl⟩,e1,e2⟩
def Nd{n:Nat}:(aq n).length<=9↔n<1000000000:=NY (k:=9) (by omega)
def Ykf{n:Nat}(h:n<1000000000)(st:St):A.C.call (.func 219 [] []) [.str (aq n)] st=some (.int .i64 n,st):=by
 have:=ME (s:=aq n) (st:=st) (A8 n) (by have:=Nd.2 h;omega)
 rwa [GA]at this
variable {q:Rat}
def A.b177:av:=sr [mc 2 0,mc 3 0,ge 4 (.ba (.const (.bool false)))]
 (sr [mv 10 0,mv 5 10]
 (.seq (sr [mv 11 5,ge 12 (.len 0 (tq 11)),bc 13 .gtr 12 20]
 (cd 13
 (sr [mc 2 0,mc 3 0,ge 4 (.ba (.const (.bool false)))]
 (.ret))
 (.skip)))
 (sr [mv 14 5,ge 15 (.len 0 (tq 14)),bc 16 .gtr 15 0,mv 17 16,mg 18 5 17,gy 19 17 (.aZ (tq 18) (kq 0)),gy 20 17 (.bin .eql (.aM .int) true (tq 19) (.const (.int .u8 45))),pf 21 17 20,mv 6 21]
 (.seq (sr [mv 22 6]
 (cd 22
 (.aR [mv 23 5,ge 24 (.aD (tq 23) (some (kq 1)) none),mv 5 24])
 (.skip)))
 (sr [mv 25 5,c1 26 116 25,mv 7 26]
 (.seq (sr [mv 27 7,bc 28 .gtr 27 9,mv 29 28,mh 30 5 29,gz 31 29 (.len 0 (tq 30)),mh 32 7 29,gz 33 29 (.bin .sub (.node []) false (tq 31) (tq 32)),gz 34 29 (.bin .gtr (.node []) false (tq 33) (kq 10)),pt 35 29 34]
 (cd 35
 (sr [mc 2 0,mc 3 0,ge 4 (.ba (.const (.bool false)))]
 (.ret))
 (.skip)))
 (sr [mv 36 5,mv 37 7,ge 38 (.aD (tq 36) none (some (tq 37))),c1 39 219 38,mv 8 39,mc 9 1]
 (.seq (sr [mv 40 7,mv 41 5,ge 42 (.len 0 (tq 41)),bi 43 .lss 40 42]
 (cd 43
 (.aR [mv 44 5,mv 45 7,bc 46 .add 45 1,ge 47 (.aD (tq 44) (some (tq 46)) none),c1 48 219 47,mv 9 48])
 (.skip)))
 (.seq (sr [mv 49 6]
 (cd 49
 (.aR [mv 50 8,ge 51 (.bin .sub (.node []) false (kq 0) (tq 50)),mv 8 51])
 (.skip)))
 (sr [mv 52 8,mv 53 9,mv 2 52,mv 3 53,ge 4 (.ba (.const (.bool true)))]
 (.ret)))))))))))
def A.c177:A.F 177=some ⟨54,[.tmp 2,.tmp 3,.tmp 4],A.b177⟩:=by kernel_rfl
def A.k177:=@A.kk 177 _ _ _ A.c177 rfl
def QB(q:Rat):aQ:=if q.den=1 then aq q.num.natAbs else aq q.num.natAbs++47::aq q.den
def Bn(q:Rat):a_ q=if q.num<0 then 45::QB q else QB q:=by
 unfold a_ QB aN
 by_cases h1:q.den=1<;>by_cases h2:q.num<0<;>simp[h1,h2]
def Yju(q:Rat):ah (QB q)=(aq q.num.natAbs).length:=by
 unfold QB
 split
 ·exact Vs (Ph (A8 _))
 ·exact Vr (Ph (A8 _))
def Ypj(q:Rat):(QB q).take (aq q.num.natAbs).length=aq q.num.natAbs:=by
 unfold QB
 split
 ·exact eZ (aW _)
 ·exact List.take_left
def Ypk(h:q.den≠1):(QB q).drop ((aq q.num.natAbs).length+1)=aq q.den:=by
 unfold QB
 rw[ar h,<-List.drop_drop,List.drop_left];rfl
def Yk6(q:Rat):(QB q).length=(aq q.num.natAbs).length+(if q.den=1 then 0 else (aq q.den).length+1):=by
 unfold QB
 split<;>simp
def Yc(q:Rat):∃c t,QB q=c::t/\48<=c.toNat:=by
 obtain⟨c,t,h,h1,_⟩:=Zp5 (n:=q.num.natAbs)
 unfold QB
 split
 ·exact⟨c,t,h,h1⟩
 ·exact⟨c,t++47::aq q.den,by rw[h];rfl,h1⟩
def Ycc{st:St}(hl:(a_ q).length<=20):A.C.call (.func 177 [] []) [.str (a_ q)] st=some (if q.num.natAbs<1000000000/\q.den<1000000000 then .bg [.int .i64 q.num,.int .i64 q.den,.bool true] else .bg [.int .i64 0,.int .i64 0,.bool false],st):=by
 obtain⟨c,t,hB,hc⟩:=Yc q
 have hs:=Yju q
 have ht:=Ypj q
 have Jl:=Yk6 q
 have h9:=Nd (n:=q.num.natAbs)
 have h9d:=Nd (n:=q.den)
 have hn:=fun h st=>Ykf (n:=q.num.natAbs) h st
 have hd:=fun h st=>Ykf (n:=q.den) h st
 have xo:=Ypk (q:=q)
 have CZ:¬cK c=45:=by unfold cK;omega
 have kY:=Bn q
 have Yd:(QB q).length<=20:=by
  rw[kY]at hl
  split at hl
  ·simp only[bD]at hl;omega
  ·exact hl
 have cE:=fun st=>EF (s:=QB q) (st:=st) (by omega)
 rw[hs]at cE
 have fP:(QB q)[0]?=some c:=by rw[hB];rfl
 have hh:(QB q).head?=some c:=by rw[hB];rfl
 have bB:QB q≠[]:=by rw[hB];simp
 have CQ:0<(QB q).length:=by rw[hB];simp
 have C0:(0:Int)<((QB q).length:Int):=by omega
 have tr:¬(20:Int)<((QB q).length:Int):=by omega
 have yB:(aq q.num.natAbs).length<=(QB q).length:=by omega
 have zaV:((aq q.num.natAbs).length:Int)<=((QB q).length:Int):=by omega
 have k0:0<=(aq q.num.natAbs).length:=tH _
 have w1:bu .i64 (((QB q).length:Int)-((aq q.num.natAbs).length:Int))=((QB q).length:Int)-((aq q.num.natAbs).length:Int):=cF (by omega) (by omega)
 have w2:bu .i64 (((aq q.num.natAbs).length:Int)+1)=((aq q.num.natAbs).length:Int)+1:=cF (by omega) (by omega)
 have a3:∀st:St,tk st (some (.str (45::QB q))) (some (some (.int .i64 1))) (some none)=some (.str (QB q),st):=fun st=>by rw[GH (by omega) (by simp only[bD];omega)];rfl
 have a4:∀st:St,tk st (some (.str (QB q))) (some none) (some (some (.int .i64 (aq q.num.natAbs).length)))=some (.str (aq q.num.natAbs),st):=fun st=>by rw[VW (by omega) (by omega),Int.toNat_natCast,ht]
 apply Call.eq
 rw[aO,A.k177 (by simp),kY]
 by_cases e9:q.num.natAbs<1000000000
 ·have g9:¬(9:Int)<((aq q.num.natAbs).length:Int):=by have:=h9.2 e9;omega
  have hn:=hn e9
  by_cases e1:q.den=1
  ·rw[aF e1]at Jl
   have EJ:¬(10:Int)<((QB q).length:Int)-((aq q.num.natAbs).length:Int):=by omega
   have Nf:¬((aq q.num.natAbs).length:Int)<((QB q).length:Int):=by omega
   have Ng:¬(aq q.num.natAbs).length<(QB q).length:=by omega
   rw[e1]
   by_cases hz:q.num<0
   ·have ez:(q.num.natAbs:Int)= -q.num:=by omega
    have w3:bu .i64 (0-(q.num.natAbs:Int))=q.num:=by rw[ez];rw[cF (by omega) (by omega)];omega
    have a5:cK 45=45:=rfl
    have ed:(QB q).length+1<=20:=by rw[kY,aF hz]at hl;simpa using hl
    have CO:¬(20:Int)<((QB q).length:Int)+1:=by omega
    have yI:(0:Int)<((QB q).length:Int)+1:=by omega
    simp(disch:=first|(simp;done)|omega|rfl) [-getElem?_pos,A.b177,hz,CO,yI,a3,a5,cE,aC,g9,EJ,Nf,w1,a4,hn,e9]
    omega
   ·have ez:(q.num.natAbs:Int)=q.num:=by omega
    simp(disch:=first|(simp;done)|omega|rfl) [-getElem?_pos,A.b177,hz,fP,CQ,tr,CZ,cE,aC,g9,EJ,Nf,w1,a4,hn,ez,e9]
  ·rw[ar e1]at Jl
   have xo:=xo e1
   have Nf:((aq q.num.natAbs).length:Int)<((QB q).length:Int):=by omega
   have Ng:(aq q.num.natAbs).length<(QB q).length:=by omega
   have a6:∀st:St,tk st (some (.str (QB q))) (some (some (.int .i64 (((aq q.num.natAbs).length:Int)+1)))) (some none)=some (.str (aq q.den),st):=fun st=>by
    rw[GH (by omega) (by omega)]
    have:(((aq q.num.natAbs).length:Int)+1).toNat=(aq q.num.natAbs).length+1:=by omega
    rw[this,xo]
   by_cases e10:q.den<1000000000
   ·have EJ:¬(10:Int)<((QB q).length:Int)-((aq q.num.natAbs).length:Int):=by have:=h9d.2 e10;omega
    have hd:=hd e10
    by_cases hz:q.num<0
    ·have ez:(q.num.natAbs:Int)= -q.num:=by omega
     have w3:bu .i64 (0-(q.num.natAbs:Int))=q.num:=by rw[ez];rw[cF (by omega) (by omega)];omega
     have a5:cK 45=45:=rfl
     have ed:(QB q).length+1<=20:=by rw[kY,aF hz]at hl;simpa using hl
     have CO:¬(20:Int)<((QB q).length:Int)+1:=by omega
     have yI:(0:Int)<((QB q).length:Int)+1:=by omega
     simp(disch:=first|(simp;done)|omega|rfl) [-getElem?_pos,A.b177,hz,CO,yI,a3,a5,a6,cE,aC,g9,EJ,Nf,w1,w2,a4,hn,hd,e9,e10]
     omega
    ·have ez:(q.num.natAbs:Int)=q.num:=by omega
     simp(disch:=first|(simp;done)|omega|rfl) [-getElem?_pos,A.b177,hz,fP,CQ,tr,CZ,a6,cE,aC,g9,EJ,Nf,w1,w2,a4,hn,hd,ez,e9,e10]
   ·have EJ:(10:Int)<((QB q).length:Int)-((aq q.num.natAbs).length:Int):=by
     have:¬(aq q.den).length<=9:=fun hc=>e10 (h9d.1 hc)
     omega
    by_cases hz:q.num<0
    ·have a5:cK 45=45:=rfl
     have ed:(QB q).length+1<=20:=by rw[kY,aF hz]at hl;simpa using hl
     have CO:¬(20:Int)<((QB q).length:Int)+1:=by omega
     have yI:(0:Int)<((QB q).length:Int)+1:=by omega
     simp(disch:=first|(simp;done)|omega|rfl) [-getElem?_pos,A.b177,hz,CO,yI,a3,a5,cE,aC,g9,EJ,w1,e9,e10]
    ·simp(disch:=first|(simp;done)|omega|rfl) [-getElem?_pos,A.b177,hz,fP,CQ,tr,CZ,cE,g9,EJ,w1,e9,e10]
 ·have g9:(9:Int)<((aq q.num.natAbs).length:Int):=by
   have:¬(aq q.num.natAbs).length<=9:=fun hc=>e9 (h9.1 hc)
   omega
  by_cases hz:q.num<0
  ·have a5:cK 45=45:=rfl
   have ed:(QB q).length+1<=20:=by rw[kY,aF hz]at hl;simpa using hl
   have CO:¬(20:Int)<((QB q).length:Int)+1:=by omega
   have yI:(0:Int)<((QB q).length:Int)+1:=by omega
   simp(disch:=first|(simp;done)|omega|rfl) [-getElem?_pos,A.b177,hz,CO,yI,a3,a5,cE,aC,g9,e9]
  ·simp(disch:=first|(simp;done)|omega|rfl) [-getElem?_pos,A.b177,hz,fP,CQ,tr,CZ,cE,g9,e9]
def Zyq{st:St}(h1:20<(a_ q).length):A.C.call (.func 177 [] []) [.str (a_ q)] st=some (.bg [.int .i64 0,.int .i64 0,.bool false],st):=by
 have h2:(20:Int)<((a_ q).length:Int):=by omega
 apply Call.eq
 rw[aO,A.k177 (by simp)]
 simp[A.b177,h2]
def Yef(h:q.num.natAbs<1000000000/\q.den<1000000000):(a_ q).length<=20:=by
 have h1:=Nd.2 h.1
 have h2:=Nd.2 h.2
 have h3:=Yk6 q
 rw[Bn]
 split
 ·simp only[bD];split at h3<;>omega
 ·split at h3<;>omega
def Zwi{st:St}:A.C.call (.func 177 [] []) [.str (a_ q)] st=some (if q.num.natAbs<1000000000/\q.den<1000000000 then .bg [.int .i64 q.num,.int .i64 q.den,.bool true] else .bg [.int .i64 0,.int .i64 0,.bool false],st):=by
 by_cases h:(a_ q).length<=20
 ·exact Ycc h
 ·rw[ar fun hc=>h (Yef hc)]
  exact Zyq (by omega)
variable {j:Nat}
set_option maxHeartbeats 2000000
def A.b122:av:=sr [ge 4 (.ba (.const (.str [])))]
 (sr [mv 16 0,c1 17 177 16,mv 15 17,xt 18 15 0,xt 19 15 1,xt 20 15 2,mv 5 18,mv 6 19,mv 7 20]
 (sr [mv 22 1,c1 23 177 22,mv 21 23,xt 24 21 0,xt 25 21 1,xt 26 21 2,mv 8 24,mv 9 25,mv 10 26]
 (.seq (sr [mv 27 7,mv 28 27,mg 29 10 28,pf 30 28 29]
 (cd 30
 (sr [mv 31 5,mv 32 8,bi 33 .mul 31 32,mv 34 6,mv 35 9,bi 36 .mul 34 35,c2 37 178 33 36,mv 4 37]
 (.ret))
 (.skip)))
 (sr [mv 39 0,c1 40 118 39,mv 38 40,xt 41 38 0,xt 42 38 1,ge 11 (.alloc [.bool false,.aa] 139),ge 12 (.alloc [.bool false,.aa] 139),gn (.store 2 (tq 11) (tq 41)),gn (.store 2 (tq 12) (tq 42))]
 (sr [mv 44 1,c1 45 118 44,mv 43 45,xt 46 43 0,xt 47 43 1,ge 13 (.alloc [.bool false,.aa] 139),ge 14 (.alloc [.bool false,.aa] 139),gn (.store 2 (tq 13) (tq 46)),gn (.store 2 (tq 14) (tq 47))]
 (.seq (.aX [lN 48 2 11,lN 49 2 13,c2 50 180 48 49,lN 51 2 12,lN 52 2 14,c2 53 180 51 52,c2 54 179 50 53,mv 4 54] [0,0,3,0,0,31,63,127])
 (.ret)))))))
def A.c122:A.F 122=some ⟨55,[.tmp 4],A.b122⟩:=by kernel_rfl
def A.k122:=@A.kk 122 _ _ _ A.c122 rfl
def Zpx(a b:Rat):a*b=Rat.divInt (a.num*b.num) ((a.den:Int)*(b.den:Int)):=by
 rw[Rat.mul_def,Rat.normalize_eq_mkRat,<-Rat.divInt_ofNat]
 simp
def Zqb(a b:Rat):a+b=Rat.divInt (a.num*(b.den:Int)+b.num*(a.den:Int)) ((a.den:Int)*(b.den:Int)):=by
 rw[Rat.add_def,Rat.normalize_eq_mkRat,<-Rat.divInt_ofNat]
 simp
def Nh{a b:Nat}(h1:a<1000000000)(h2:b<1000000000):a*b<=1000000000000000000:=by
 have:=uI (Nat.le_of_lt h1) (Nat.le_of_lt h2)
 omega
def QG(q:Rat):∃(n d:Int) (o:Bool),(∀st,A.C.call (.func 177 [] []) [.str (a_ q)] st=some (.bg [.int .i64 n,.int .i64 d,.bool o],st))/\(o=true->n=q.num/\d=(q.den:Int)/\q.num.natAbs<1000000000/\q.den<1000000000):=by
 by_cases f:q.num.natAbs<1000000000/\q.den<1000000000
 ·exact⟨q.num,q.den,true,fun st=>by rw[Zwi,aF f],fun _=>⟨rfl,rfl,f⟩⟩
 ·exact⟨0,0,false,fun st=>by rw[Zwi,ar f],fun h=>by cases h⟩
def Rg.pj{h:T O}{N:Nat}{v:V}{z:Int}(s:Rg h N v z):∃u,v=.agg [.bool (decide (z<0)),u]/\V.one u=true/\V.cells u=[u]/\Gd u:=by
 obtain⟨u,rfl,hu⟩:=s
 exact⟨u,rfl,(Sl.form hu).one,(Sl.form hu).cells,Sl.form hu⟩
def Ni{a b:Int}{k:Nat}(h1:a.natAbs<2^j)(h2:b.natAbs<2^k):(a*b).natAbs<2^(j+k):=by
 rw[wK,kQ]
 exact BQ h1 h2
def Zq2{a b:Int}(h1:a.natAbs<2^j)(h2:b.natAbs<2^j):(a+b).natAbs<2^(j+1):=by
 have:=Int.natAbs_add_le a b
 rw[gE];omega
def Tg{a b:Rat}{k:Nat}{h:T O}{N:Nat}(ha:Qb j a)(hb:Qb k b)(hj:j<=400000000)(hk:k<=400000000):Fn A.C 122 [.str (a_ a),.str (a_ b)] h N (fun u _ _=>u=.str (a_ (a*b))):=by
 intro w
 obtain⟨n1,d1,o1,pr,f1⟩:=QG a
 obtain⟨n2,d2,o2,jV,f2⟩:=QG b
 have pa:=Rat.den_pos a
 have pb:=Rat.den_pos b
 rw[aO,A.k122 (by simp)]
 have key:(o1=true/\o2=true)\/(o1=false\/(o1=true/\o2=false)):=by cases o1<;>cases o2<;>simp
 rcases key with⟨rfl,rfl⟩|key
 ·obtain⟨rfl,rfl,g1⟩:=f1 rfl
  obtain⟨rfl,rfl,g2⟩:=f2 rfl
  have m1:(a.num*b.num).natAbs<=1000000000000000000:=by rw[wK];exact Nh g1.1 g2.1
  have m2:a.den*b.den<=1000000000000000000:=Nh g1.2 g2.2
  have m3:0<a.den*b.den:=zc pa pb
  have e2:(a.den:Int)*(b.den:Int)=((a.den*b.den:Nat):Int):=by simp
  have w1:bu .i64 (a.num*b.num)=a.num*b.num:=cF (by omega) (by omega)
  have w2:bu .i64 ((a.den:Int)*(b.den:Int))=(a.den:Int)*(b.den:Int):=by rw[e2];exact cF (by omega) (by omega)
  have ho:=fun st=>Yql (p:=a.num*b.num) (q:=(a.den:Int)*(b.den:Int)) (st:=st) (by omega) (by omega) (by omega) (by omega) (by omega)
  rw[<-Zpx]at ho
  simp[A.b122,pr,jV,w1,w2,ho,az]
  exact ab.refl
 ·have la:=Fi ha.1
  have Jo:=C9 ha.2
  have lb:=Fi hb.1
  have Ye:=C9 hb.2
  have z1:=tR ha.1
  have z2:=tR hb.1
  have z3:=tR ha.2
  have z4:=tR hb.2
  rcases key with rfl|⟨rfl,rfl⟩
  all_goals simp[A.b122,pr,jV]
  all_goals
   refine aA (Nc (q:=a) (by omega) (by omega)) ?_
   rintro _ h1 t1 k1 ⟨x1,y1,rfl,X1,Y1⟩
   obtain⟨u1,rfl,p1,p2,F1⟩:=X1.pj
   obtain⟨v1,rfl,p3,p4,G1⟩:=Y1.pj
   unfold V.one at p1 p3
   unfold V.cells at p2 p4
   have KA:=((((ab.refl (h:=h1) (n:=t1)).new (.cells [.bool false,.aa] 139 true)).new (.cells [.bool false,.aa] 139 true)).set (i:=t1) (o:=.cells [.bool (decide (a.num<0)),u1] 139 true) (aW _)).set (i:=t1+1) (o:=.cells [.bool (decide ((a.den:Int)<0)),v1] 139 true) (by omega)
   have c0:¬t1+1=t1:=by omega
   have c00:¬t1=t1+1:=by omega
   simp[p1,p3,bO,ad]
   generalize Ak:(((h1.set t1 (.cells [.bool false,.aa] 139 true)).set (t1+1) (.cells [.bool false,.aa] 139 true)).set t1 (.cells [.bool (decide (a.num<0)),u1] 139 true)).set (t1+1) (.cells [.bool (decide ((a.den:Int)<0)),v1] 139 true)=HA at*
   have Fp:HA.get t1=some (.cells [.bool (decide (a.num<0)),u1] 139 true):=by rw[<-Ak];simp
   have Nj:HA.get (t1+1)=some (.cells [.bool (decide ((a.den:Int)<0)),v1] 139 true):=by rw[<-Ak];simp
   have X1:=X1.ae KA
   have Y1:=Y1.ae KA
   clear Ak
   refine aA (Nc (q:=b) (by omega) (by omega)) ?_
   rintro _ h2 t2 k2 ⟨x2,y2,rfl,X2,Y2⟩
   obtain⟨u2,rfl,p5,p6,F2⟩:=X2.pj
   obtain⟨v2,rfl,p7,p8,G2⟩:=Y2.pj
   unfold V.one at p5 p7
   unfold V.cells at p6 p8
   have KB:=((((ab.refl (h:=h2) (n:=t2)).new (.cells [.bool false,.aa] 139 true)).new (.cells [.bool false,.aa] 139 true)).set (i:=t2) (o:=.cells [.bool (decide (b.num<0)),u2] 139 true) (aW _)).set (i:=t2+1) (o:=.cells [.bool (decide ((b.den:Int)<0)),v2] 139 true) (by omega)
   have c1:¬t2+1=t2:=by omega
   have c11:¬t2=t2+1:=by omega
   have i2:=k2.le
   generalize Hz:(((h2.set t2 (.cells [.bool false,.aa] 139 true)).set (t2+1) (.cells [.bool false,.aa] 139 true)).set t2 (.cells [.bool (decide (b.num<0)),u2] 139 true)).set (t2+1) (.cells [.bool (decide ((b.den:Int)<0)),v2] 139 true)=HB at*
   have Al:HB.get t2=some (.cells [.bool (decide (b.num<0)),u2] 139 true):=by rw[<-Hz];simp
   have HC:HB.get (t2+1)=some (.cells [.bool (decide ((b.den:Int)<0)),v2] 139 true):=by rw[<-Hz];simp
   have Am:=(KB.get t1 (by omega)).trans ((k2.get t1 (by omega)).trans Fp)
   have EK:=(KB.get (t1+1) (by omega)).trans ((k2.get (t1+1) (by omega)).trans Nj)
   have X1:=(X1.ae k2).ae KB
   have Y1:=(Y1.ae k2).ae KB
   have X2:=X2.ae KB
   have Y2:=Y2.ae KB
   have K2:ab h N HB (t2+1+1):=((k1.trans KA).trans k2).trans KB
   have j1:t1<t2+1+1:=by omega
   have j2:t1+1<t2+1+1:=by omega
   have j3:t2<t2+1+1:=by omega
   simp[p5,p7,bO,ad,Hz,Al,Am,aS,aE]
   refine aA (M8 X1 X2 (by omega) (by omega)) ?_
   rintro _ h3 t3 k3 X3
   have i3:=k3.le
   have Yf:=(k3.get (t2+1) (by omega)).trans HC
   have QH:=(k3.get (t1+1) (by omega)).trans EK
   simp[Yf,QH,aS,aE]
   refine aA (M8 (Y1.ae k3) (Y2.ae k3) (by rw[dJ];omega) (by rw[dJ];omega)) ?_
   rintro _ h4 t4 k4 X4
   have m1:=tR (Ni ha.1 hb.1)
   have m2:=tR (Ni (a:=(a.den:Int)) (b:=(b.den:Int)) (j:=j) (k:=k) (by rw[dJ];exact ha.2) (by rw[dJ];exact hb.2))
   simp[]
   refine aA (Ya (X3.ae k4) X4 (Is (by omega) (by omega)) (by omega) (by omega)) ?_
   rintro _ h5 t5 k5 rfl
   have j4:t2+1<t3:=by omega
   have j5:t1+1<t3:=by omega
   rw[<-Zpx]
   have i1:=k1.le
   simp[-ax,cA.cB,j1,j4,j5,az]
   exact⟨xy (by simp;omega),((K2.trans k3).trans k4).trans k5⟩
set_option maxHeartbeats 2000000
def A.b226:av:=sr [ge 4 (.ba (.const (.str [])))]
 (sr [mv 16 0,c1 17 177 16,mv 15 17,xt 18 15 0,xt 19 15 1,xt 20 15 2,mv 5 18,mv 6 19,mv 7 20]
 (sr [mv 22 1,c1 23 177 22,mv 21 23,xt 24 21 0,xt 25 21 1,xt 26 21 2,mv 8 24,mv 9 25,mv 10 26]
 (.seq (sr [mv 27 7,mv 28 27,mg 29 10 28,pf 30 28 29]
 (cd 30
 (sr [mv 31 5,mv 32 9,bi 33 .mul 31 32,mv 34 8,mv 35 6,bi 36 .mul 34 35,bi 37 .add 33 36,mv 38 6,mv 39 9,bi 40 .mul 38 39,c2 41 178 37 40,mv 4 41]
 (.ret))
 (.skip)))
 (sr [mv 43 0,c1 44 118 43,mv 42 44,xt 45 42 0,xt 46 42 1,ge 11 (.alloc [.bool false,.aa] 139),ge 12 (.alloc [.bool false,.aa] 139),gn (.store 2 (tq 11) (tq 45)),gn (.store 2 (tq 12) (tq 46))]
 (sr [mv 48 1,c1 49 118 48,mv 47 49,xt 50 47 0,xt 51 47 1,ge 13 (.alloc [.bool false,.aa] 139),ge 14 (.alloc [.bool false,.aa] 139),gn (.store 2 (tq 13) (tq 50)),gn (.store 2 (tq 14) (tq 51))]
 (.seq (.aX [lN 52 2 11,lN 53 2 14,c2 54 180 52 53,lN 55 2 13,lN 56 2 12,c2 57 180 55 56,c2 58 258 54 57,lN 59 2 12,lN 60 2 14,c2 61 180 59 60,c2 62 179 58 61,mv 4 62] [0,0,3,0,0,31,63,0,0,511,1023,2047])
 (.ret)))))))
def A.c226:A.F 226=some ⟨63,[.tmp 4],A.b226⟩:=by kernel_rfl
def A.k226:=@A.kk 226 _ _ _ A.c226 rfl
def Zj{a b:Rat}{j k:Nat}{h:T O}{N:Nat}(ha:Qb j a)(hb:Qb k b)(hj:j<=400000000)(hk:k<=400000000):Fn A.C 226 [.str (a_ a),.str (a_ b)] h N (fun u _ _=>u=.str (a_ (a+b))):=by
 intro w
 obtain⟨n1,d1,o1,pr,f1⟩:=QG a
 obtain⟨n2,d2,o2,jV,f2⟩:=QG b
 have pa:=Rat.den_pos a
 have pb:=Rat.den_pos b
 rw[aO,A.k226 (by simp)]
 have key:(o1=true/\o2=true)\/(o1=false\/(o1=true/\o2=false)):=by cases o1<;>cases o2<;>simp
 rcases key with⟨rfl,rfl⟩|key
 ·obtain⟨rfl,rfl,g1⟩:=f1 rfl
  obtain⟨rfl,rfl,g2⟩:=f2 rfl
  have m1:(a.num*(b.den:Int)).natAbs<=1000000000000000000:=by rw[wK,dJ];exact Nh g1.1 g2.2
  have m4:(b.num*(a.den:Int)).natAbs<=1000000000000000000:=by rw[wK,dJ];exact Nh g2.1 g1.2
  have m2:a.den*b.den<=1000000000000000000:=Nh g1.2 g2.2
  have m3:0<a.den*b.den:=zc pa pb
  have e2:(a.den:Int)*(b.den:Int)=((a.den*b.den:Nat):Int):=by simp
  have w1:bu .i64 (a.num*(b.den:Int))=a.num*(b.den:Int):=cF (by omega) (by omega)
  have w3:bu .i64 (b.num*(a.den:Int))=b.num*(a.den:Int):=cF (by omega) (by omega)
  have w2:bu .i64 ((a.den:Int)*(b.den:Int))=(a.den:Int)*(b.den:Int):=by rw[e2];exact cF (by omega) (by omega)
  have w4:bu .i64 (a.num*(b.den:Int)+b.num*(a.den:Int))=a.num*(b.den:Int)+b.num*(a.den:Int):=cF (by omega) (by omega)
  have ho:=fun st=>Yql (p:=a.num*(b.den:Int)+b.num*(a.den:Int)) (q:=(a.den:Int)*(b.den:Int)) (st:=st) (by omega) (by omega) (by omega) (by omega) (by omega)
  rw[<-Zqb]at ho
  simp[A.b226,pr,jV,w1,w2,w3,w4,ho,az]
  exact ab.refl
 ·have la:=Fi ha.1
  have Jo:=C9 ha.2
  have lb:=Fi hb.1
  have Ye:=C9 hb.2
  have z1:=tR ha.1
  have z2:=tR hb.1
  have z3:=tR ha.2
  have z4:=tR hb.2
  rcases key with rfl|⟨rfl,rfl⟩
  all_goals simp[A.b226,pr,jV]
  all_goals
   refine aA (Nc (q:=a) (by omega) (by omega)) ?_
   rintro _ h1 t1 k1 ⟨x1,y1,rfl,X1,Y1⟩
   obtain⟨u1,rfl,p1,p2,F1⟩:=X1.pj
   obtain⟨v1,rfl,p3,p4,G1⟩:=Y1.pj
   unfold V.one at p1 p3
   unfold V.cells at p2 p4
   have KA:=((((ab.refl (h:=h1) (n:=t1)).new (.cells [.bool false,.aa] 139 true)).new (.cells [.bool false,.aa] 139 true)).set (i:=t1) (o:=.cells [.bool (decide (a.num<0)),u1] 139 true) (aW _)).set (i:=t1+1) (o:=.cells [.bool (decide ((a.den:Int)<0)),v1] 139 true) (by omega)
   have c0:¬t1+1=t1:=by omega
   have c00:¬t1=t1+1:=by omega
   simp[p1,p3,bO,ad]
   generalize Ak:(((h1.set t1 (.cells [.bool false,.aa] 139 true)).set (t1+1) (.cells [.bool false,.aa] 139 true)).set t1 (.cells [.bool (decide (a.num<0)),u1] 139 true)).set (t1+1) (.cells [.bool (decide ((a.den:Int)<0)),v1] 139 true)=HA at*
   have Fp:HA.get t1=some (.cells [.bool (decide (a.num<0)),u1] 139 true):=by rw[<-Ak];simp
   have Nj:HA.get (t1+1)=some (.cells [.bool (decide ((a.den:Int)<0)),v1] 139 true):=by rw[<-Ak];simp
   have X1:=X1.ae KA
   have Y1:=Y1.ae KA
   clear Ak
   refine aA (Nc (q:=b) (by omega) (by omega)) ?_
   rintro _ h2 t2 k2 ⟨x2,y2,rfl,X2,Y2⟩
   obtain⟨u2,rfl,p5,p6,F2⟩:=X2.pj
   obtain⟨v2,rfl,p7,p8,G2⟩:=Y2.pj
   unfold V.one at p5 p7
   unfold V.cells at p6 p8
   have KB:=((((ab.refl (h:=h2) (n:=t2)).new (.cells [.bool false,.aa] 139 true)).new (.cells [.bool false,.aa] 139 true)).set (i:=t2) (o:=.cells [.bool (decide (b.num<0)),u2] 139 true) (aW _)).set (i:=t2+1) (o:=.cells [.bool (decide ((b.den:Int)<0)),v2] 139 true) (by omega)
   have c1:¬t2+1=t2:=by omega
   have c11:¬t2=t2+1:=by omega
   have i2:=k2.le
   generalize Hz:(((h2.set t2 (.cells [.bool false,.aa] 139 true)).set (t2+1) (.cells [.bool false,.aa] 139 true)).set t2 (.cells [.bool (decide (b.num<0)),u2] 139 true)).set (t2+1) (.cells [.bool (decide ((b.den:Int)<0)),v2] 139 true)=HB at*
   have Al:HB.get t2=some (.cells [.bool (decide (b.num<0)),u2] 139 true):=by rw[<-Hz];simp
   have HC:HB.get (t2+1)=some (.cells [.bool (decide ((b.den:Int)<0)),v2] 139 true):=by rw[<-Hz];simp
   have Am:=(KB.get t1 (by omega)).trans ((k2.get t1 (by omega)).trans Fp)
   have EK:=(KB.get (t1+1) (by omega)).trans ((k2.get (t1+1) (by omega)).trans Nj)
   have X1:=(X1.ae k2).ae KB
   have Y1:=(Y1.ae k2).ae KB
   have X2:=X2.ae KB
   have Y2:=Y2.ae KB
   have K2:ab h N HB (t2+1+1):=((k1.trans KA).trans k2).trans KB
   have j1:t1<t2+1+1:=by omega
   have j2:t1+1<t2+1+1:=by omega
   have j3:t2<t2+1+1:=by omega
   simp[p5,p7,bO,ad,Hz,HC,Am,aS,aE]
   refine aA (M8 X1 Y2 (by omega) (by rw[dJ];omega)) ?_
   rintro _ h3 t3 k3 X3
   have i3:=k3.le
   have Yg:=(k3.get t2 (by omega)).trans Al
   have Yf:=(k3.get (t2+1) (by omega)).trans HC
   have QH:=(k3.get (t1+1) (by omega)).trans EK
   simp[Yg,QH,aS,aE]
   refine aA (M8 (X2.ae k3) (Y1.ae k3) (by omega) (by rw[dJ];omega)) ?_
   rintro _ h4 t4 k4 X4
   have i4:=k4.le
   have b1:=Ni (b:=(b.den:Int)) (k:=k) ha.1 (by rw[dJ];exact hb.2)
   have b2:=Ni (b:=(a.den:Int)) (k:=j) hb.1 (by rw[dJ];exact ha.2)
   rw[Nat.add_comm k j]at b2
   have m1:=tR b1
   have m2:=tR b2
   have m3:=tR (Zq2 b1 b2)
   have m4:=tR (Ni (a:=(a.den:Int)) (b:=(b.den:Int)) (j:=j) (k:=k) (by rw[dJ];exact ha.2) (by rw[dJ];exact hb.2))
   simp[]
   refine aA (Ymn (X3.ae k4) X4 (by omega) (by omega)) ?_
   rintro _ h5 t5 k5 X5
   have i5:=k5.le
   have gD2:=(k5.get (t2+1) (by omega)).trans ((k4.get (t2+1) (by omega)).trans Yf)
   have QI:=(k5.get (t1+1) (by omega)).trans ((k4.get (t1+1) (by omega)).trans QH)
   simp[gD2,QI,aS,aE]
   refine aA (M8 (((Y1.ae k3).ae k4).ae k5) (((Y2.ae k3).ae k4).ae k5) (by rw[dJ];omega) (by rw[dJ];omega)) ?_
   rintro _ h6 t6 k6 X6
   simp[]
   refine aA (Ya (X5.ae k6) X6 (Is (by omega) (by omega)) (by omega) (by omega)) ?_
   rintro _ h7 t7 k7 rfl
   have j4:t2+1<t3:=by omega
   have j5:t1+1<t3:=by omega
   have j6:t2<t3:=by omega
   have j7:t2+1<t5:=by omega
   have j8:t1+1<t5:=by omega
   rw[<-Zqb]
   have i1:=k1.le
   simp[-ax,cA.cB,j1,j5,j6,j7,j8,az]
   exact⟨xy (by simp;omega),((((K2.trans k3).trans k4).trans k5).trans k6).trans k7⟩
set_option maxHeartbeats 2000000
def A.b202:av:=sr [ge 4 (.ba (.const (.int .u64 0))),ge 5 (.ba (.const (.int .u64 0)))]
 (sr [mv 14 0,ge 15 (.bin .and (.node []) false (tq 14) (.const (.int .u64 4294967295))),mv 6 15]
 (sr [mv 16 0,ge 17 (.bin .shr (.node []) false (tq 16) (.const (.int .u64 32))),mv 7 17]
 (sr [mv 18 1,ge 19 (.bin .and (.node []) false (tq 18) (.const (.int .u64 4294967295))),mv 8 19]
 (sr [mv 20 1,ge 21 (.bin .shr (.node []) false (tq 20) (.const (.int .u64 32))),mv 9 21]
 (sr [mv 22 6,mv 23 8,bi 24 .mul 22 23,mv 10 24]
 (sr [mv 25 7,mv 26 8,bi 27 .mul 25 26,mv 28 10,ge 29 (.bin .shr (.node []) false (tq 28) (.const (.int .u64 32))),bi 30 .add 27 29,mv 11 30]
 (sr [mv 31 11,ge 32 (.bin .and (.node []) false (tq 31) (.const (.int .u64 4294967295))),mv 12 32]
 (sr [mv 33 11,ge 34 (.bin .shr (.node []) false (tq 33) (.const (.int .u64 32))),mv 13 34]
 (sr [mv 35 12,mv 36 6,mv 37 9,bi 38 .mul 36 37,bi 39 .add 35 38,mv 12 39]
 (sr [mv 40 7,mv 41 9,bi 42 .mul 40 41,mv 43 13,bi 44 .add 42 43,mv 45 12,ge 46 (.bin .shr (.node []) false (tq 45) (.const (.int .u64 32))),bi 47 .add 44 46,mv 4 47]
 (sr [mv 48 0,mv 49 1,bi 50 .mul 48 49,mv 5 50]
 (.ret))))))))))))
def A.c202:A.F 202=some ⟨51,[.tmp 4,.tmp 5],A.b202⟩:=by kernel_rfl
def A.k202:=@A.kk 202 _ _ _ A.c202 rfl
def Yqp{x y:Nat}(hx:x<18446744073709551616)(hy:y<18446744073709551616):cJ (cJ (cN (au x 32) (au y 32)) (au (cJ (cN (au x 32) (eL y)) (au (cN (eL x) (eL y)) 32)) 32)) (au (cJ (eL (cJ (cN (au x 32) (eL y)) (au (cN (eL x) (eL y)) 32))) (cN (eL x) (au y 32))) 32)=cn (x*y):=by
 simp only[cJ,cN,au,eL,cn,Nat.reducePow]
 have ex:x=x/4294967296*4294967296+x%4294967296:=by omega
 have ey:y=y/4294967296*4294967296+y%4294967296:=by omega
 have oM:x%4294967296<4294967296:=kh _ (by decide)
 have xf:y%4294967296<4294967296:=kh _ (by decide)
 have sW:x/4294967296<4294967296:=by omega
 have rZ:y/4294967296<4294967296:=by omega
 generalize x/4294967296=x1 at*
 generalize x%4294967296=x0 at*
 generalize y/4294967296=y1 at*
 generalize y%4294967296=y0 at*
 have a1:x0*y0<=4294967295*4294967295:=uI (by omega) (by omega)
 have a2:x1*y0<=4294967295*4294967295:=uI (by omega) (by omega)
 have a3:x0*y1<=4294967295*4294967295:=uI (by omega) (by omega)
 have a4:x1*y1<=4294967295*4294967295:=uI (by omega) (by omega)
 have e:x*y=x1*y1*18446744073709551616+(x1*y0+x0*y1)*4294967296+x0*y0:=by
  subst ex;subst ey
  grind
 rw[e]
 generalize x0*y0=p at*
 generalize x1*y0=q at*
 generalize x0*y1=u at*
 generalize x1*y1=z at*
 omega
def LD{h:T O}{N:Nat}{x y:Nat}(hx:x<18446744073709551616)(hy:y<18446744073709551616):Fn A.C 202 [.int .u64 x,.int .u64 y] h N (fun v' h' N'=>h'=h/\N'=N/\v'=.bg [.int .u64 (cn (x*y):Nat),.int .u64 (bG (x*y):Nat)]):=by
 intro w
 rw[aO,A.k202 (by simp)]
 simp(disch:=first|(simp;done)|omega|(simp only[bI,cC,bD];omega)|rfl) [A.b202]
 rw[Yqp hx hy]
 exact⟨rfl,ab.refl,rfl,rfl,rfl⟩
def A.nt:av:=.seq (sr [mv 6 3,bc 7 .gtr 6 0,mv 8 7,mg 9 0 8,mg 10 3 8,gy 11 8 (.bin .sub (.node []) false (tq 10) (kq 1)),gy 12 8 (.aU 1 (tq 9) (tq 11)),gy 13 8 (.load none (tq 12)),gy 14 8 (.bin .eql (.aM .int) true (tq 13) (.const (.int .u64 0))),pf 15 8 14]
 (cd 15
 (.skip)
 (.exit 0)))
 (.block 1 (.aR [mv 16 3,bc 17 .sub 16 1,mv 3 17]))
def A.b240:av:=sr [mN 2]
 (sr [mv 4 0,ln 5 4,mv 3 5]
 (.seq (.block 0 (.loop A.nt))
 (sr [mv 18 0,mv 19 3,ge 20 (.cQ 1 (tq 18) none (some (tq 19)) none),mv 2 20]
 (.ret))))
def A.c240:A.F 240=some ⟨21,[.tmp 2],A.b240⟩:=by kernel_rfl
def A.k240:=@A.kk 240 _ _ _ A.c240 rfl
def CB{h:T O}{N:Nat}{v:V}{l:List Nat}(hs:Sl h N v (dg l))(hl:l.length<1152921504606846976):Fn A.C 240 [v] h N (fun v' h' N'=>Sl h' N' v' (dg (se l))):=by
 intro w
 have hlen:=hs.len
 rw[bI]at hlen
 rw[aO,A.k240 (by simp)]
 simp[A.b240,hlen]
 refine bP [(3,3),(6,17)] (fun e r st=>e=.exit 0/\st=⟨h,N,[]⟩/\∃k,k<=l.length/\r.get 3=some (.int .i64 k)/\se l=l.take k) (fun k r st=>st=⟨h,N,[]⟩/\k<=l.length/\r.get 3=some (.int .i64 k)/\se (l.take k)=se l) l.length ?_ ?_ ?_
 ·exact⟨rfl,aW _,by simp,by simp⟩
 ·rintro k r _ hr hf ⟨rfl,hk,h3,ht⟩
  rw[bq]
  cases k with
  |zero=>
   have:se l=[]:=ht.symm
   simp[A.nt,h3,hf,this]
   exact⟨0,by omega,rfl,.inl rfl⟩
  |succ k=>
   obtain⟨d,hd⟩:∃d,l[k]?=some d:=⟨_,cZ (by omega)⟩
   obtain⟨i,o,c,e,rw,q1,q2,q3,q4⟩:=hs.at (fv hd)
   have e1:l.take (k+1)=l.take k++[d]:=by rw[tE,hd];rfl
   have k1:(0:Int)<(k:Int)+1:=by omega
   have k2:(k:Int)<(l.length:Int):=by omega
   by_cases h0:d=0
   ·subst h0
    rw[e1,Zpc]at ht
    simp(disch:=first|(simp;done)|omega|(simp only[bI,cC,bD];omega)|rfl) [A.nt,h3,hr,hf,k1,hlen,q1,q3,q4]
    exact⟨k,by omega,by omega,rfl,ht⟩
   ·rw[e1,Zpd h0]at ht
    have hz:((d:Int)==0)=false:=by simp;omega
    simp(disch:=first|(simp;done)|omega|(simp only[bI,cC,bD];omega)|rfl) [A.nt,h3,hr,hf,k1,hlen,q1,q3,q4,hz]
    exact⟨k+1,hk,rfl,by rw[e1];exact ht.symm⟩
 ·rintro _ r _ hr ⟨rfl,rfl,k,hk,h3,ht⟩
  simp[hr,h3,AG,aC]
  obtain⟨v',e1,e2⟩:=Dj (w:=[]) hs (lo:=0) (hi:=k) (tH _) (by rw[bI];exact hk) none (some (.int .i64 k)) (.inr ⟨rfl,rfl⟩) (.inl rfl)
  rw[e1]
  simp[az]
  refine⟨ab.refl,?_⟩
  rw[ht,show dg (l.take k)=(dg l).take k by simp[dg]]
  exact e2
end Go.Mx
