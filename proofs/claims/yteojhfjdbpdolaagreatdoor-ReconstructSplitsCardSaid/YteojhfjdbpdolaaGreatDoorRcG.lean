/-lensletref01-/
import Derived.Test.YteojhfjdbpdolaaGreatDoorRbK
set_option linter.all false
namespace Go.Mx
noncomputable section
open Go Go.Proofs
set_option maxRecDepth 1000000
def A.b188:=A.q Tryz.f188
def A.k188:=@A.kk 188 61 [.tmp 4] A.b188 (by kernel_rfl) rfl
def Fo{z:Int}:Bp [.int .i64 z,.int .i64 (-z)]=some (.int .i64 (z.natAbs:Nat)):=by
 have h:Bp [.int .i64 z,.int .i64 (-z)]=some (.int .i64 (if z< -z then -z else z)):=rfl
 rw[h]
 congr 2
 split<;>omega
def Ymv{a:Int}{m:Nat}(hm:0<m):(Rat.divInt a m).num=a.tdiv (Nat.gcd a.natAbs m:Nat)/\(Rat.divInt a m).num.natAbs<=a.natAbs/\(Rat.divInt a m).den=m/Nat.gcd a.natAbs m:=by
 have hb:(0:Int)<(m:Int):=by omega
 have h1:=Io (a:=a) hb
 have h2:=Oz (a:=a) hb
 rw[dR]at h1 h2
 have hd:((Nat.gcd a.natAbs m:Nat):Int)∣a:=Int.gcd_dvd_left (a:=a) (b:=(m:Int))
 refine⟨?_,?_,h2.symm⟩
 ·rw[Int.tdiv_eq_ediv_of_dvd hd,Rat.num_divInt,Int.sign_eq_one_of_pos hb,Int.one_mul,Int.gcd_comm]
  rfl
 ·rw[<-h1]
  have:=vk a.natAbs (Nat.gcd a.natAbs m)
  generalize a.natAbs/Nat.gcd a.natAbs m=k at*
  split
  ·rw[xY,dR];exact this
  ·rw[dR];exact this
def Ysv{a:Int}{m:Nat}{st:St}(hm:0<m)(h1: -4000000000000000000<=a)(h2:a<=4000000000000000000)(h3:m<=4000000000000000000):A.C.call (.func 188 [] []) [.int .i64 a,.int .i64 m] st=some (.str (aS (Rat.divInt a m)),st):=by
 apply Call.eq
 rw[aR,A.k188 (by simp)]
 have c1:¬a< -4000000000000000000:=by omega
 have c2:¬4000000000000000000<a:=by omega
 have c3:¬(m:Int)< -4000000000000000000:=by omega
 have c4:¬4000000000000000000<(m:Int):=by omega
 have c5:¬(m:Int)<0:=by omega
 have w1:bj .i64 (-a)= -a:=cD (by omega) (by omega)
 have w2:bj .i64 (0-a)= -a:=by rw[Int.zero_sub];exact w1
 have hg:=fun st=>Yfx (a:=a.natAbs) (b:=m) (st:=st) (by omega) (by omega)
 obtain⟨e1,e2,e3⟩:=Ymv (a:=a) hm
 have zq:0<(Rat.divInt a m).den:=Rat.den_pos _
 have lL:aS (Rat.divInt a m)=if (Rat.divInt a m).den=1 then aP (Rat.divInt a m).num else aP (Rat.divInt a m).num++47::ar (Rat.divInt a m).den:=rfl
 rw[lL]
 clear lL
 have pw:0<Nat.gcd a.natAbs m:=Qi _ hm
 generalize (Rat.divInt a m).num=P at*
 generalize (Rat.divInt a m).den=D at*
 generalize Nat.gcd a.natAbs m=g at*
 have hDm:D<=m:=by rw[e3];exact vk _ _
 have e4:(m:Int).tdiv (g:Int)=(D:Int):=by rw[Bm (by omega),e3];rfl
 have g0:¬(g:Int)=0:=by omega
 have g1:¬g=0:=by omega
 have v1:bj .i64 P=P:=cD (by omega) (by omega)
 have v2:bj .i64 (-P)= -P:=cD (by omega) (by omega)
 have v3:bj .i64 (D:Int)=(D:Int):=cD (by omega) (by omega)
 have d1:∀st,A.C.call (.func 226 [] []) [.int .i64 (P.natAbs:Nat),.int .i64 1] st=some (.str (ar P.natAbs),st):=fun st=>(Kb (n:=P.natAbs) (m:=1) (st:=st) (by omega) (by omega)).trans (by rw[Mj])
 have d2:∀st,A.C.call (.func 226 [] []) [.int .i64 D,.int .i64 1] st=some (.str (ar D),st):=fun st=>(Kb (n:=D) (m:=1) (st:=st) (by omega) (by omega)).trans (by rw[Mj])
 have x1:(ar P.natAbs).length<30:=by
  have:(df P.natAbs).length<=19:=pC.1 (by omega)
  unfold ar;split<;>simp;omega
 have x2:(ar D).length<30:=by
  have:(df D).length<=19:=pC.1 (by omega)
  unfold ar;split<;>simp;omega
 have dq:IntKind.max .i64=9223372036854775807:=rfl
 have y1:¬(9223372036854775807:Int)<((ar P.natAbs).length:Int):=by omega
 have y2:¬(9223372036854775807:Int)<1+((ar P.natAbs).length:Int):=by omega
 have z1:D=1\/(¬D=1/\1<D):=by omega
 rcases z1 with rfl|⟨z1,z2⟩<;>by_cases hP:P<0
 ·simp[A.b188,c1,c2,c3,c4,c5,w1,w2,ri,Fo,hg,<-e1,e4,g0,g1,v1,v2,v3,hP,d1,d2,gL,dq,y1,y2,aP,ct.cv]
 ·simp[A.b188,c1,c2,c3,c4,c5,w1,w2,ri,Fo,hg,<-e1,e4,g0,g1,v1,v2,v3,hP,d1,d2,gL,dq,y1,y2,aP,ct.cv]
 ·have z3:(1:Int)<(D:Int):=by omega
  have y3:¬(9223372036854775807:Int)<((ar P.natAbs).length:Int)+1+1:=by omega
  have y4:¬(9223372036854775807:Int)<((ar P.natAbs).length:Int)+1+1+((ar D).length:Int):=by omega
  simp[A.b188,c1,c2,c3,c4,c5,w1,w2,ri,Fo,hg,<-e1,e4,g0,g1,v1,v2,v3,hP,d1,d2,gL,dq,y1,y2,aP,ct.cv,z1,z2,z3,y3,y4]
 ·have z3:(1:Int)<(D:Int):=by omega
  have y3:¬(9223372036854775807:Int)<((ar P.natAbs).length:Int)+1:=by omega
  have y4:¬(9223372036854775807:Int)<((ar P.natAbs).length:Int)+1+((ar D).length:Int):=by omega
  simp[A.b188,c1,c2,c3,c4,c5,w1,w2,ri,Fo,hg,<-e1,e4,g0,g1,v1,v2,v3,hP,d1,d2,gL,dq,y1,y2,aP,ct.cv,z1,z2,z3,y3,y4]
def Ysw{p q:Int}{st:St}(hq:q<0)(h1: -4000000000000000000<=p)(h2:p<=4000000000000000000)(h3: -4000000000000000000<=q):A.C.call (.func 188 [] []) [.int .i64 p,.int .i64 q] st=some (.str (aS (Rat.divInt p q)),st):=by
 apply Call.eq
 rw[aR,A.k188 (by simp)]
 have c1:¬p< -4000000000000000000:=by omega
 have c2:¬4000000000000000000<p:=by omega
 have c3:¬q< -4000000000000000000:=by omega
 have c4:¬4000000000000000000<q:=by omega
 obtain⟨a,ha⟩:∃a,a= -p:=⟨_,rfl⟩
 obtain⟨m,mC⟩:∃m:Nat,(m:Int)= -q:=⟨(-q).toNat,by omega⟩
 have hm:0<m:=by omega
 have c5:bj .i64 (-p)=a:=by rw[<-ha];exact cD (by omega) (by omega)
 have c6:bj .i64 (-q)=(m:Int):=by rw[<-mC];exact cD (by omega) (by omega)
 have gp:Rat.divInt p q=Rat.divInt a m:=by rw[ha,mC];exact(Rat.neg_divInt_neg p q).symm
 rw[gp]
 clear gp
 have w1:bj .i64 (-a)= -a:=cD (by omega) (by omega)
 have w2:bj .i64 (0-a)= -a:=by rw[Int.zero_sub];exact w1
 have hg:=fun st=>Yfx (a:=a.natAbs) (b:=m) (st:=st) (by omega) (by omega)
 obtain⟨e1,e2,e3⟩:=Ymv (a:=a) hm
 have zq:0<(Rat.divInt a m).den:=Rat.den_pos _
 have lL:aS (Rat.divInt a m)=if (Rat.divInt a m).den=1 then aP (Rat.divInt a m).num else aP (Rat.divInt a m).num++47::ar (Rat.divInt a m).den:=rfl
 rw[lL]
 clear lL
 have pw:0<Nat.gcd a.natAbs m:=Qi _ hm
 generalize (Rat.divInt a m).num=P at*
 generalize (Rat.divInt a m).den=D at*
 generalize Nat.gcd a.natAbs m=g at*
 have hDm:D<=m:=by rw[e3];exact vk _ _
 have e4:(m:Int).tdiv (g:Int)=(D:Int):=by rw[Bm (by omega),e3];rfl
 have g0:¬(g:Int)=0:=by omega
 have g1:¬g=0:=by omega
 have v1:bj .i64 P=P:=cD (by omega) (by omega)
 have v2:bj .i64 (-P)= -P:=cD (by omega) (by omega)
 have v3:bj .i64 (D:Int)=(D:Int):=cD (by omega) (by omega)
 have d1:∀st,A.C.call (.func 226 [] []) [.int .i64 (P.natAbs:Nat),.int .i64 1] st=some (.str (ar P.natAbs),st):=fun st=>(Kb (n:=P.natAbs) (m:=1) (st:=st) (by omega) (by omega)).trans (by rw[Mj])
 have d2:∀st,A.C.call (.func 226 [] []) [.int .i64 D,.int .i64 1] st=some (.str (ar D),st):=fun st=>(Kb (n:=D) (m:=1) (st:=st) (by omega) (by omega)).trans (by rw[Mj])
 have x1:(ar P.natAbs).length<30:=by
  have:(df P.natAbs).length<=19:=pC.1 (by omega)
  unfold ar;split<;>simp;omega
 have x2:(ar D).length<30:=by
  have:(df D).length<=19:=pC.1 (by omega)
  unfold ar;split<;>simp;omega
 have dq:IntKind.max .i64=9223372036854775807:=rfl
 have y1:¬(9223372036854775807:Int)<((ar P.natAbs).length:Int):=by omega
 have y2:¬(9223372036854775807:Int)<1+((ar P.natAbs).length:Int):=by omega
 have z1:D=1\/(¬D=1/\1<D):=by omega
 rcases z1 with rfl|⟨z1,z2⟩<;>by_cases hP:P<0
 ·simp[A.b188,c1,c2,c3,c4,c5,c6,hq,w1,w2,ri,Fo,hg,<-e1,e4,g0,g1,v1,v2,v3,hP,d1,d2,gL,dq,y1,y2,aP,ct.cv]
 ·simp[A.b188,c1,c2,c3,c4,c5,c6,hq,w1,w2,ri,Fo,hg,<-e1,e4,g0,g1,v1,v2,v3,hP,d1,d2,gL,dq,y1,y2,aP,ct.cv]
 ·have z3:(1:Int)<(D:Int):=by omega
  have y3:¬(9223372036854775807:Int)<((ar P.natAbs).length:Int)+1+1:=by omega
  have y4:¬(9223372036854775807:Int)<((ar P.natAbs).length:Int)+1+1+((ar D).length:Int):=by omega
  simp[A.b188,c1,c2,c3,c4,c5,c6,hq,w1,w2,ri,Fo,hg,<-e1,e4,g0,g1,v1,v2,v3,hP,d1,d2,gL,dq,y1,y2,aP,ct.cv,z1,z2,z3,y3,y4]
 ·have z3:(1:Int)<(D:Int):=by omega
  have y3:¬(9223372036854775807:Int)<((ar P.natAbs).length:Int)+1:=by omega
  have y4:¬(9223372036854775807:Int)<((ar P.natAbs).length:Int)+1+((ar D).length:Int):=by omega
  simp[A.b188,c1,c2,c3,c4,c5,c6,hq,w1,w2,ri,Fo,hg,<-e1,e4,g0,g1,v1,v2,v3,hP,d1,d2,gL,dq,y1,y2,aP,ct.cv,z1,z2,z3,y3,y4]
def Ysx{p q:Int}{st:St}(hq:q≠0)(h1: -4000000000000000000<=p)(h2:p<=4000000000000000000)(h3: -4000000000000000000<=q)(h4:q<=4000000000000000000):A.C.call (.func 188 [] []) [.int .i64 p,.int .i64 q] st=some (.str (aS (Rat.divInt p q)),st):=by
 rcases Int.lt_or_gt_of_ne hq with hq|hq
 ·exact Ysw hq h1 h2 h3
 ·obtain⟨m,rfl⟩:∃m:Nat,q=(m:Int):=⟨q.toNat,by omega⟩
  exact Ysv (by omega) h1 h2 (by omega)
def A.OG:=A.q Tryz.f222
def A.nI:=A.ql A.OG 0 []
def A.b222:=(fun x0=>A.qb A.OG [x0]) A.nI
def A.k222:=@A.kk 222 25 [.cell 2 (some 2)] A.b222 (by kernel_rfl) rfl
def Yd4{s:aQ}(hd:cJ s=true)(h1:1<=s.length)(h2:s.length<=3000000000){h:T O}{N:Nat}:Fn A.C 221 [.str (45::s)] h N (fun v h' n'=>Rg h' n' v (-((aH s:Nat):Int))):=by
 intro w
 have a1:cM 45=45:=rfl
 have a2:(1:Int)<=(s.length:Int)+1:=by omega
 have a3:∀st:St,tK st (some (.str (45::s))) (some (some (.int .i64 1))) (some none)=some (.str s,st):=fun st=>by rw[Ho (by omega) (by simp only[bo];omega)];rfl
 rw[aR,A.k221 (by simp)]
 simp[A.b221,a1,a2,a3,aG,aB]
 refine bL [(0,0),(4,4),(16,32)] (fun e r st=>e=.exit 0/\∃m,m<=9/\Sk (h.set N (.cells [.bool false,.aa] 180 true)) (N+1) s m r st) (Sk (h.set N (.cells [.bool false,.aa] 180 true)) (N+1) s) s.length ?_ ?_ ?_
 ·exact⟨by simp,ab.refl,s,.aa,[],by simp,rfl,h1,aM _,hd,by simp,Own.nil,Di.nil,by simp,by simp[vI,pI]⟩
 ·rintro m r ⟨H,n1,W⟩ hr hf ⟨hW,hK,cur,u,l,g0,cN,m1,m2,pg,g4,ho,iJ,ue,hv⟩
  simp only at hW hK ho
  subst cN
  rw[bl]
  by_cases h9:9<cur.length
  ·have Ij:(9:Int)<(cur.length:Int):=by omega
   have fx:=hK.le
   have Ik:=NR (s:=cur.drop (cur.length-9)) (st:=⟨H,n1,W⟩) (Sj pg _) (by simp;omega)
   have CY:((cur.length:Int)-9).toNat=cur.length-9:=by omega
   have Fj:=BA (Sj pg (cur.length-9))
   have gZ:(cur.drop (cur.length-9)).length=9:=by simp;omega
   rw[gZ]at Fj
   have f_:=Zye (cur.take (cur.length-9)) (cur.drop (cur.length-9))
   rw[Cl,gZ,show (10:Nat)^9=1000000000 by decide]at f_
   generalize hD:aH (cur.drop (cur.length-9))=D at*
   obtain⟨v',h',w',e1,e2,e3,e4,e5⟩:=tU (x:=[.int .i64 (D:Int)]) (u:=.slice n1 0 1 (some 1) 1) (bytes:=8) (w:=W) (ho.ae (ab.refl.new (.cells [.int .i64 (D:Int)] 3 true))) (by omega) (by decide) rfl (by simp[eL,St.row,aF]) (by rw[CM];omega)
   rw[<-El]at e5
   simp(disch:=first|(simp;done)|omega|rfl) [A.jY,hr,hf,g0,g4,h9,Ij,CY,aB,Ik,ad,e1]
   refine⟨cur.length-9,by omega,⟨by rw[e2];exact hW,(hK.new _).then e3,cur.take (cur.length-9),v',l++[(D:Int)],by simp,by simp,by omega,by omega,Zus pg _,by simp,e5,iJ.app (Di.one (by omega) (by omega)),by simp;omega,?_⟩⟩
   rw[CG,iI,zY,vz,<-hv]
   have Il:((aH cur:Nat):Int)=(aH (cur.take (cur.length-9)):Nat)*1000000000+D:=by omega
   rw[Il]
   generalize ((aH (cur.take (cur.length-9)):Nat):Int)=X
   generalize pI l.length=P
   grind
  ·have Ij:¬(9:Int)<(cur.length:Int):=by omega
   simp[A.jY,hr,hf,g0,h9,Ij]
   exact⟨cur.length,by omega,hW,hK,cur,u,l,by simp[g0],rfl,m1,m2,pg,by simp[g4],ho,iJ,ue,hv⟩
 ·rintro _ r ⟨H,n1,W⟩ hr ⟨rfl,m,m9,hW,hK,cur,u,l,g0,cN,m1,m2,pg,g4,ho,iJ,ue,hv⟩
  simp only at hW hK ho
  subst cN
  have fx:=hK.le
  have Ik:=NR (s:=cur) (st:=⟨H,n1,W⟩) pg (by omega)
  have Fj:=BA pg
  have hp9:=Qw m9
  generalize hD:aH cur=D at*
  obtain⟨v',h',w',e1,e2,e3,e4,e5⟩:=tU (x:=[.int .i64 (D:Int)]) (u:=.slice n1 0 1 (some 1) 1) (bytes:=8) (w:=W) (ho.ae (ab.refl.new (.cells [.int .i64 (D:Int)] 3 true))) (by omega) (by decide) rfl (by simp[eL,St.row,aF]) (by rw[CM];omega)
  rw[<-El]at e5
  simp[hr,g0,g4,Ik,ad,e1]
  have kV:Di (l++[(D:Int)]):=iJ.app (Di.one (by omega) (by omega))
  refine aA (xD (b:=true) (n:=aH s) e5.sl kV (by rw[CG];exact hv) (by simp;omega)) ?_
  rintro y h5 n5 k5 hy
  have kk:=((hK.new (.cells [.int .i64 (D:Int)] 3 true)).then e3).trans k5
  have ve:=kk.le
  have oP:=kk.get N (by omega)
  simp at oP
  obtain⟨u5,rfl,AR⟩:=hy
  have HU:=fun c1 (hc:c1.length=2)=>Sl.setInt (i:=N) (c1:=c1) (e1:=180) (w1:=true) AR oP (by intro x hx k m;simp at hx;rcases hx with rfl|rfl<;>simp) hc
  have BV:=Sl.form AR |>.one
  unfold V.one at BV
  have ow:ax N w'=[]:=Ok (uR N) (by rw[e2];exact hW)
  have k0:=(ab.refl (h:=h) (n:=N)).new (.cells [.bool false,.aa] 180 true)
  simp[hr,oP,ad,bC,BV,aO,aF,aE,ow]
  exact⟨(k0.trans kk).set (aM N),u5,by simp,by simpa[Dn]using HU _ rfl⟩
structure WhI (h:T O) (N a:Nat) (neg:Bool) (m:Nat) (r:T V) (st:St):Prop where
 w:ax N st.w=[]
 ae:ab h N st.h st.n
 ex:∃z u l,z.natAbs=m/\m<=a/\(z<0->neg=true)/\(0<z->neg=false)/\r.get 0=some (.int .i64 z)/\r.get 3=some u/\Own 1 3 N st.h st.n u (pz l)/\Di l/\vI l+pI l.length*m=a/\l.length<=100/\(m≠0->pI l.length<=a)
def Ydg{z:Int}{h:T O}{N:Nat}(h1: -9223372036854775808<=z)(h2:z<9223372036854775808):Fn A.C 222 [.int .i64 z] h N (fun v h' n'=>Rg h' n' v z):=by
 intro w
 rw[aR,A.k222 (by simp)]
 have kB:=(ab.refl (h:=h) (n:=N)).new (.cells [.bool false,.aa] 180 true)
 simp[A.b222]
 refine bL [(0,0),(3,3),(5,5),(8,21)] (fun e r st=>e=.exit 0/\WhI (h.set N (.cells [.bool false,.aa] 180 true)) (N+1) z.natAbs (decide (z<0)) 0 r st) (WhI (h.set N (.cells [.bool false,.aa] 180 true)) (N+1) z.natAbs (decide (z<0))) z.natAbs ?_ ?_ ?_
 ·exact⟨by simp,ab.refl,z,.aa,[],rfl,aM _,fun h=>by simp[h],fun h=>by simp;omega,by simp,by simp,Own.nil,Di.nil,by simp[vI,pI],by simp,fun h=>by simp[pI];omega⟩
 ·rintro m r ⟨H,n1,W⟩ hr hf ⟨hW,hK,y,u,l,rfl,hm,vR,eM,g0,g3,ho,hd,hv,hl,hp⟩
  simp only at hW hK ho
  rw[bl]
  by_cases hy:y=0
  ·subst hy
   simp[A.nI,hr,hf,g0,aG]
   exact⟨hW,hK,0,u,l,rfl,by omega,vR,eM,by simp[g0],by simp[g3],ho,hd,hv,hl,hp⟩
  ·have fx:=hK.le
   obtain⟨d,nY⟩:∃d:Nat,d=y.natAbs%1000000000:=⟨_,rfl⟩
   obtain⟨q,sI⟩:∃q:Nat,q=y.natAbs/1000000000:=⟨_,rfl⟩
   have gZ:d<1000000000:=by omega
   have tY:(y.tdiv 1000000000).natAbs=q:=by rw[Int.natAbs_tdiv];exact sI.symm
   have mw:(y.tmod 1000000000).natAbs=d:=by rw[Int.natAbs_tmod];exact nY.symm
   have U6:(y<0->y.tdiv 1000000000<=0)/\(0<y->0<=y.tdiv 1000000000):=by
    constructor
    ·intro h
     have:(-y).tdiv 1000000000= -(y.tdiv 1000000000):=Int.neg_tdiv _ _
     have h3:0<=(-y).tdiv 1000000000:=Int.tdiv_nonneg (by omega) (by omega)
     omega
    ·intro h
     exact Int.tdiv_nonneg (by omega) (by omega)
   have hms:(y<0->y.tmod 1000000000<=0)/\(0<y->0<=y.tmod 1000000000):=by
    constructor
    ·intro h
     have:(-y).tmod 1000000000= -(y.tmod 1000000000):=Int.neg_tmod _ _
     have h3:0<=(-y).tmod 1000000000:=Int.tmod_nonneg _ (by omega)
     omega
    ·intro h
     exact Int.tmod_nonneg _ (by omega)
   generalize hyq:y.tdiv 1000000000=Y at*
   generalize hym:y.tmod 1000000000=D at*
   have w1:bj .i64 Y=Y:=cD (by omega) (by omega)
   have w2:bj .i64 (0-D)= -D:=by rw[Int.zero_sub];exact cD (by omega) (by omega)
   have w3:bj .i64 (-D)= -D:=cD (by omega) (by omega)
   have hlen:l.length+1<=100:=by
    apply Classical.byContradiction
    intro hc
    have h5:l.length=100:=by omega
    have h6:=hp (by omega)
    rw[h5,Q5]at h6
    have h7:(1000000000^100:Nat)<=z.natAbs:=by exact_mod_cast h6
    have h8:(9223372036854775808:Nat)<1000000000^100:=by decide
    omega
   obtain⟨v',h',w',e1,e2,e3,e4,e5⟩:=tU (x:=[.int .i64 (d:Int)]) (u:=.slice n1 0 1 (some 1) 1) (bytes:=8) (w:=W) (ho.ae (ab.refl.new (.cells [.int .i64 (d:Int)] 3 true))) (by omega) (by decide) rfl (by simp[eL,St.row,aF]) (by rw[CM];omega)
   rw[<-El]at e5
   have iL:vI (l++[(d:Int)])+pI (l++[(d:Int)]).length*(q:Int)=z.natAbs:=by
    rw[CG,iI,zY,vz,<-hv]
    have:(y.natAbs:Int)=1000000000*(q:Int)+d:=by omega
    rw[this]
    generalize pI l.length=P
    grind
   have hqa:q<y.natAbs:=by omega
   have hpp:q≠0->pI (l++[(d:Int)]).length<=z.natAbs:=fun hq=>by
    have h3:0<=vI (l++[(d:Int)]):=vA (hd.app (Di.one (by omega) (by omega)))
    have h4:0<pI (l++[(d:Int)]).length:=CF _
    have h5:pI (l++[(d:Int)]).length*1<=pI (l++[(d:Int)]).length*(q:Int):=rb (by omega) (by omega)
    omega
   have fin:WhI (h.set N (.cells [.bool false,.aa] 180 true)) (N+1) z.natAbs (decide (z<0)) q ((r.set 3 v').set 0 (.int .i64 Y)) ⟨h',n1+1+1,w'⟩:=⟨by rw[e2];exact hW,(hK.new _).then e3,Y,v',l++[(d:Int)],tY,by omega,fun h=>vR (by have:=U6.2;omega),fun h=>eM (by have:=U6.1;omega),by simp,by simp,e5,hd.app (Di.one (by omega) (by omega)),iL,by simp;omega,hpp⟩
   obtain⟨f1,f2,f3⟩:=fin
   by_cases hD:D<0
   ·have Sw: -D=(d:Int):=by omega
    rw[Sw]at w2 w3
    simp[A.nI,hr,hf,g0,g3,hy,aG,hyq,hym,hD,w1,w2,w3,Sw,ad,e1]
    exact⟨q,by omega,f1,f2,by simpa using f3⟩
   ·have Sw:D=(d:Int):=by omega
    have hD':¬(d:Int)<0:=by omega
    simp[A.nI,hr,hf,g0,g3,hy,aG,hyq,hym,hD',w1,Sw,ad,e1]
    exact⟨q,by omega,f1,f2,by simpa using f3⟩
 ·rintro _ r ⟨H,n1,W⟩ hr ⟨rfl,hW,hK,y,u,l,hy,hm,vR,eM,g0,g3,ho,hd,hv,hl,hp⟩
  simp only at hW hK ho
  have h0:y=0:=by omega
  subst h0
  have iR:vI l=(z.natAbs:Nat):=by simpa using hv
  simp[hr,g3]
  refine aA (xD (n:=z.natAbs) ho.sl hd iR (by omega)) ?_
  rintro v5 h5 n5 k5 Fm
  have ez:(if decide (z<0)=true then -((z.natAbs:Nat):Int) else ((z.natAbs:Nat):Int))=z:=by
   by_cases h0:z<0<;>simp[h0]<;>omega
  rw[ez]at Fm
  have ve:=hK.le
  have Ia:=k5.le
  have oP:=(k5.get N (by omega)).trans (hK.get N (by omega))
  rw[T.ag,av rfl]at oP
  obtain⟨u5,rfl,AR⟩:=Fm
  have p1:=Sl.form AR |>.one
  have p2:=Sl.form AR |>.cells
  unfold V.one at p1
  unfold V.cells at p2
  have ow:ax N W=[]:=Ok (uR N) hW
  simp[hr,oP,ad,bC,p1,p2,aO,aF,aE,ow]
  exact⟨((kB.trans hK).trans k5).set (aM N),u5,by simp,Sl.setInt AR oP jh rfl⟩
def Ztd{z:Int}{h:T O}{N:Nat}(hl:(aP z).length<=2000000000):Fn A.C 221 [.str (aP z)] h N (fun v h' n'=>Rg h' n' v z):=by
 have h1:1<=(ar z.natAbs).length:=List.length_pos_iff.2 (JM _)
 unfold aP at hl ⊢
 by_cases hz:z<0
 ·rw[av hz]at hl ⊢
  simp only[bo]at hl
  have e: -((aH (ar z.natAbs):Nat):Int)=z:=by rw[Hh];omega
  have:=Yd4 (BJ z.natAbs) h1 (by omega) (h:=h) (N:=N)
  rw[e]at this
  exact this
 ·rw[ak hz]at hl ⊢
  have e:((aH (ar z.natAbs):Nat):Int)=z:=by rw[Hh];omega
  have:=Sm (BJ z.natAbs) h1 (by omega) (h:=h) (N:=N)
  rw[e]at this
  exact this
def Ztc{h h2:T O}{N n2:Nat}{a b:Int}{x y:V}(hx:Sl h2 n2 x (dI (ds a.natAbs)))(hy:Sl h2 n2 y (dI (ds b.natAbs)))(r0:h2.get N=some (.cells [.bool false,.aa] 180 true))(r1:h2.get (N+1)=some (.cells [.bool false,.aa] 180 true)):Rg ((h2.set N (.cells [.bool (decide (a<0)),x] 180 true)).set (N+1) (.cells [.bool (decide (b<0)),y] 180 true)) n2 (.agg [.bool (decide (a<0)),x]) a/\Rg ((h2.set N (.cells [.bool (decide (a<0)),x] 180 true)).set (N+1) (.cells [.bool (decide (b<0)),y] 180 true)) n2 (.agg [.bool (decide (b<0)),y]) b:=by
 have Im:(h2.set N (.cells [.bool (decide (a<0)),x] 180 true)).get (N+1)=some (.cells [.bool false,.aa] 180 true):=by rw[T.ag,ak (by omega)];exact r1
 exact⟨⟨x,rfl,Sl.setInt (Sl.setInt hx r0 jh rfl) Im jh rfl⟩,⟨y,rfl,Sl.setInt (Sl.setInt hy r0 jh rfl) Im jh rfl⟩⟩
def OH{q:Rat}{h:T O}{N:Nat}(l1:(aP q.num).length<=1000000000)(l2:(ar q.den).length<=1000000000):Fn A.C 182 [.str (aS q)] h N (fun v h' n'=>∃x y,v=.aX [x,y]/\Rg h' n' x q.num/\Rg h' n' y (q.den:Int)):=by
 intro w
 have ay:(aS q).length<=3000000000:=by
  unfold aS
  split
  ·omega
  ·simp only[iI,bo];omega
 have cC:=fun st=>Fk (s:=aS q) (st:=st) (by omega)
 have hsa:=JO q
 have Vq:=Ml q
 have uX:=(ab.refl (h:=h) (n:=N)).new (.cells [.bool false,.aa] 180 true)
 have k0:=uX.new (.cells [.bool false,.aa] 180 true)
 have d4':¬N+1=N:=by omega
 have d5':¬N=N+1:=by omega
 rw[aR,A.k182 (by simp)]
 by_cases hd:q.den=1
 ·have he:ah (aS q)=(aS q).length:=by
   have:=C2 q
   have h2:ah (aS q)<=(aS q).length:=by
    rw[hsa]
    unfold aS
    rw[av hd]
    exact aM _
   omega
  have lL:aS q=aP q.num:=by unfold aS;rw[av hd]
  have c1:((ah (aS q):Int)=((aS q).length:Int)):=by omega
  rw[hd]
  simp[A.b182,cC,he,aG]
  rw[lL]
  refine aA (Ztd (z:=q.num) (by omega)) ?_
  rintro v1 h1 n1 k1 ⟨x,rfl,hx⟩
  simp[]
  refine aA (Ydg (z:=1) (by omega) (by omega)) ?_
  rintro v2 h2 n2 k2 ⟨y,rfl,hy⟩
  have fu:=k1.le
  have gY:=k2.le
  have hx:=Sl.ae hx k2
  have r0:=(k2.get N (by omega)).trans (k1.get N (by omega))
  have r1:=(k2.get (N+1) (by omega)).trans (k1.get (N+1) (by omega))
  simp at r0 r1
  have xO:=(Sl.form hx).one
  have tQ:=(Sl.form hy).one
  have Dr:=(Sl.form hx).cells
  have yL:=(Sl.form hy).cells
  unfold V.one at xO tQ
  unfold V.cells at Dr yL
  obtain⟨e1,e2⟩:=Ztc (h:=h) (b:=1) hx hy r0 r1
  have Ov:N<n1:=by omega
  have Ow:N<n2:=by omega
  have Ox:N+1<n2:=by omega
  simp[r0,r1,ad,bC,xO,tQ,Dr,yL,Ov,Ow,Ox,d4',d5',aO,aF,ct.cv,aE]
  simp only[show decide ((1:Int)<0)=false from rfl]at e1 e2
  exact⟨(((k0.trans k1).trans k2).set (by omega)).set (by omega),_,_,⟨rfl,rfl⟩,e1,e2⟩
 ·have dj:=(C2 q).2 hd
  have xN:=Mm q hd
  have c1:¬((ah (aS q):Int)=((aS q).length:Int)):=by omega
  have c2:¬(ah (aS q)=(aS q).length):=by omega
  have c3:(ah (aS q):Int)<=((aS q).length:Int):=by omega
  have c4:(ah (aS q):Int)+1<=((aS q).length:Int):=by omega
  have c5:((ah (aS q):Int)+1).toNat=ah (aS q)+1:=by omega
  have XL:aH (ar q.den)=q.den:=Hh _
  simp[A.b182,cC,c1,c2,c3,c4,c5,aG,aB,Vq]
  refine aA (Ztd (z:=q.num) (by omega)) ?_
  rintro v1 h1 n1 k1 ⟨x,rfl,hx⟩
  simp(disch:=omega) [cC,c1,c2,c3,c4,c5,aG,aB,xN]
  refine aA (Sm (BJ q.den) (List.length_pos_iff.2 (JM _)) (by omega)) ?_
  rintro v2 h2 n2 k2 hy
  rw[XL]at hy
  obtain⟨y,rfl,hy⟩:=hy
  have fu:=k1.le
  have gY:=k2.le
  have hx:=Sl.ae hx k2
  have r0:=(k2.get N (by omega)).trans (k1.get N (by omega))
  have r1:=(k2.get (N+1) (by omega)).trans (k1.get (N+1) (by omega))
  simp at r0 r1
  have xO:=(Sl.form hx).one
  have tQ:=(Sl.form hy).one
  have Dr:=(Sl.form hx).cells
  have yL:=(Sl.form hy).cells
  unfold V.one at xO tQ
  unfold V.cells at Dr yL
  obtain⟨e1,e2⟩:=Ztc (h:=h) (b:=(q.den:Int)) hx hy r0 r1
  have Ov:N<n1:=by omega
  have Ow:N<n2:=by omega
  have Ox:N+1<n2:=by omega
  have uU:¬(q.den:Int)<0:=by omega
  simp only[show decide ((q.den:Int)<0)=false by simp[uU]]at e1 e2
  simp[r0,r1,ad,bC,xO,tQ,Dr,yL,Ov,Ow,Ox,d4',d5',aO,aF,ct.cv,aE,uU]
  exact⟨(((k0.trans k1).trans k2).set (by omega)).set (by omega),_,_,⟨rfl,rfl⟩,e1,e2⟩
def OI{n:Nat}:(ar n).length<=9↔n<1000000000:=PE (k:=9) (by omega)
def Ymi{n:Nat}(h:n<1000000000)(st:St):A.C.call (.func 224 [] []) [.str (ar n)] st=some (.int .i64 n,st):=by
 have:=NR (s:=ar n) (st:=st) (BJ n) (by have:=OI.2 h;omega)
 rwa [Hh]at this
def A.b187:=A.q Tryz.f187
def A.k187:=@A.kk 187 54 [.tmp 2,.tmp 3,.tmp 4] A.b187 (by kernel_rfl) rfl
def QB(q:Rat):aQ:=if q.den=1 then ar q.num.natAbs else ar q.num.natAbs++47::ar q.den
def BX(q:Rat):aS q=if q.num<0 then 45::QB q else QB q:=by
 unfold aS QB aP
 by_cases h1:q.den=1<;>by_cases h2:q.num<0<;>simp[h1,h2]
def Yls(q:Rat):ah (QB q)=(ar q.num.natAbs).length:=by
 unfold QB
 split
 ·exact XR (Q2 (BJ _))
 ·exact XQ (Q2 (BJ _))
def Yrm(q:Rat):(QB q).take (ar q.num.natAbs).length=ar q.num.natAbs:=by
 unfold QB
 split
 ·exact fe (aM _)
 ·exact List.take_left
def Yrn{q:Rat}(h:q.den≠1):(QB q).drop ((ar q.num.natAbs).length+1)=ar q.den:=by
 unfold QB
 rw[ak h,<-List.drop_drop,List.drop_left];rfl
def Ym8(q:Rat):(QB q).length=(ar q.num.natAbs).length+(if q.den=1 then 0 else (ar q.den).length+1):=by
 unfold QB
 split<;>simp
def Zxd(q:Rat):∃c t,QB q=c::t/\48<=c.toNat:=by
 obtain⟨c,t,h,h1,_⟩:=Zq4 (n:=q.num.natAbs)
 unfold QB
 split
 ·exact⟨c,t,h,h1⟩
 ·exact⟨c,t++47::ar q.den,by rw[h];rfl,h1⟩
def Yd2{q:Rat}{st:St}(hl:(aS q).length<=20):A.C.call (.func 187 [] []) [.str (aS q)] st=some (if q.num.natAbs<1000000000/\q.den<1000000000 then .aX [.int .i64 q.num,.int .i64 q.den,.bool true] else .aX [.int .i64 0,.int .i64 0,.bool false],st):=by
 obtain⟨c,t,hB,hc⟩:=Zxd q
 have hs:=Yls q
 have ht:=Yrm q
 have yf:=Ym8 q
 have h9:=OI (n:=q.num.natAbs)
 have h9d:=OI (n:=q.den)
 have hn:=fun h st=>Ymi (n:=q.num.natAbs) h st
 have hd:=fun h st=>Ymi (n:=q.den) h st
 have xN:=Yrn (q:=q)
 have Dw:¬cM c=45:=by unfold cM;omega
 have lL:=BX q
 have OJ:(QB q).length<=20:=by
  rw[lL]at hl
  split at hl
  ·simp only[bo]at hl;omega
  ·exact hl
 have cC:=fun st=>Fk (s:=QB q) (st:=st) (by omega)
 rw[hs]at cC
 have fy:(QB q)[0]?=some c:=by rw[hB];rfl
 have hh:(QB q).head?=some c:=by rw[hB];rfl
 have aW:QB q≠[]:=by rw[hB];simp
 have Dm:0<(QB q).length:=by rw[hB];simp
 have Dx:(0:Int)<((QB q).length:Int):=by omega
 have tR:¬(20:Int)<((QB q).length:Int):=by omega
 have wV:(ar q.num.natAbs).length<=(QB q).length:=by omega
 have za2:((ar q.num.natAbs).length:Int)<=((QB q).length:Int):=by omega
 have k0:0<=(ar q.num.natAbs).length:=tX _
 have w1:bj .i64 (((QB q).length:Int)-((ar q.num.natAbs).length:Int))=((QB q).length:Int)-((ar q.num.natAbs).length:Int):=cD (by omega) (by omega)
 have w2:bj .i64 (((ar q.num.natAbs).length:Int)+1)=((ar q.num.natAbs).length:Int)+1:=cD (by omega) (by omega)
 have a3:∀st:St,tK st (some (.str (45::QB q))) (some (some (.int .i64 1))) (some none)=some (.str (QB q),st):=fun st=>by rw[Ho (by omega) (by simp only[bo];omega)];rfl
 have a4:∀st:St,tK st (some (.str (QB q))) (some none) (some (some (.int .i64 (ar q.num.natAbs).length)))=some (.str (ar q.num.natAbs),st):=fun st=>by rw[Yq (by omega) (by omega),Int.toNat_natCast,ht]
 apply Call.eq
 rw[aR,A.k187 (by simp),lL]
 by_cases e9:q.num.natAbs<1000000000
 ·have g9:¬(9:Int)<((ar q.num.natAbs).length:Int):=by have:=h9.2 e9;omega
  have hn:=hn e9
  by_cases e1:q.den=1
  ·rw[av e1]at yf
   have Fp:¬(10:Int)<((QB q).length:Int)-((ar q.num.natAbs).length:Int):=by omega
   have OK:¬((ar q.num.natAbs).length:Int)<((QB q).length:Int):=by omega
   have OL:¬(ar q.num.natAbs).length<(QB q).length:=by omega
   rw[e1]
   by_cases hz:q.num<0
   ·have ez:(q.num.natAbs:Int)= -q.num:=by omega
    have w3:bj .i64 (0-(q.num.natAbs:Int))=q.num:=by rw[ez];rw[cD (by omega) (by omega)];omega
    have a5:cM 45=45:=rfl
    have dT:(QB q).length+1<=20:=by rw[lL,av hz]at hl;simpa using hl
    have AQ:¬(20:Int)<((QB q).length:Int)+1:=by omega
    have zr:(0:Int)<((QB q).length:Int)+1:=by omega
    simp(disch:=first|(simp;done)|omega|rfl) [-getElem?_pos,A.b187,hz,tR,AQ,zr,a3,a5,cC,aG,aB,g9,Fp,OK,OL,w1,w3,a4,hn,e9]
    omega
   ·have ez:(q.num.natAbs:Int)=q.num:=by omega
    simp(disch:=first|(simp;done)|omega|rfl) [-getElem?_pos,A.b187,hz,fy,hh,aW,Dm,Dx,tR,Dw,cC,aG,aB,g9,Fp,OK,OL,w1,a4,hn,ez,e9]
  ·rw[ak e1]at yf
   have xN:=xN e1
   have OK:((ar q.num.natAbs).length:Int)<((QB q).length:Int):=by omega
   have OL:(ar q.num.natAbs).length<(QB q).length:=by omega
   have a6:∀st:St,tK st (some (.str (QB q))) (some (some (.int .i64 (((ar q.num.natAbs).length:Int)+1)))) (some none)=some (.str (ar q.den),st):=fun st=>by
    rw[Ho (by omega) (by omega)]
    have:(((ar q.num.natAbs).length:Int)+1).toNat=(ar q.num.natAbs).length+1:=by omega
    rw[this,xN]
   by_cases Dy:q.den<1000000000
   ·have Fp:¬(10:Int)<((QB q).length:Int)-((ar q.num.natAbs).length:Int):=by have:=h9d.2 Dy;omega
    have hd:=hd Dy
    by_cases hz:q.num<0
    ·have ez:(q.num.natAbs:Int)= -q.num:=by omega
     have w3:bj .i64 (0-(q.num.natAbs:Int))=q.num:=by rw[ez];rw[cD (by omega) (by omega)];omega
     have a5:cM 45=45:=rfl
     have dT:(QB q).length+1<=20:=by rw[lL,av hz]at hl;simpa using hl
     have AQ:¬(20:Int)<((QB q).length:Int)+1:=by omega
     have zr:(0:Int)<((QB q).length:Int)+1:=by omega
     simp(disch:=first|(simp;done)|omega|rfl) [-getElem?_pos,A.b187,hz,tR,AQ,zr,a3,a5,a6,cC,aG,aB,g9,Fp,OK,OL,w1,w2,w3,a4,hn,hd,e9,Dy]
     omega
    ·have ez:(q.num.natAbs:Int)=q.num:=by omega
     simp(disch:=first|(simp;done)|omega|rfl) [-getElem?_pos,A.b187,hz,fy,hh,aW,Dm,Dx,tR,Dw,a6,cC,aG,aB,g9,Fp,OK,OL,w1,w2,a4,hn,hd,ez,e9,Dy]
   ·have Fp:(10:Int)<((QB q).length:Int)-((ar q.num.natAbs).length:Int):=by
     have:¬(ar q.den).length<=9:=fun hc=>Dy (h9d.1 hc)
     omega
    by_cases hz:q.num<0
    ·have a5:cM 45=45:=rfl
     have dT:(QB q).length+1<=20:=by rw[lL,av hz]at hl;simpa using hl
     have AQ:¬(20:Int)<((QB q).length:Int)+1:=by omega
     have zr:(0:Int)<((QB q).length:Int)+1:=by omega
     simp(disch:=first|(simp;done)|omega|rfl) [-getElem?_pos,A.b187,hz,tR,AQ,zr,a3,a5,cC,aG,aB,g9,Fp,w1,e9,Dy]
    ·simp(disch:=first|(simp;done)|omega|rfl) [-getElem?_pos,A.b187,hz,fy,hh,aW,Dm,Dx,tR,Dw,cC,aG,aB,g9,Fp,w1,e9,Dy]
 ·have g9:(9:Int)<((ar q.num.natAbs).length:Int):=by
   have:¬(ar q.num.natAbs).length<=9:=fun hc=>e9 (h9.1 hc)
   omega
  by_cases hz:q.num<0
  ·have a5:cM 45=45:=rfl
   have dT:(QB q).length+1<=20:=by rw[lL,av hz]at hl;simpa using hl
   have AQ:¬(20:Int)<((QB q).length:Int)+1:=by omega
   have zr:(0:Int)<((QB q).length:Int)+1:=by omega
   simp(disch:=first|(simp;done)|omega|rfl) [-getElem?_pos,A.b187,hz,tR,AQ,zr,a3,a5,cC,aG,aB,g9,e9]
  ·simp(disch:=first|(simp;done)|omega|rfl) [-getElem?_pos,A.b187,hz,fy,hh,aW,Dm,Dx,tR,Dw,cC,aG,aB,g9,e9]
def Zz8{q:Rat}{st:St}(h1:20<(aS q).length):A.C.call (.func 187 [] []) [.str (aS q)] st=some (.aX [.int .i64 0,.int .i64 0,.bool false],st):=by
 have h2:(20:Int)<((aS q).length:Int):=by omega
 apply Call.eq
 rw[aR,A.k187 (by simp)]
 simp[A.b187,h2]
def Yf4{q:Rat}(h:q.num.natAbs<1000000000/\q.den<1000000000):(aS q).length<=20:=by
 have h1:=OI.2 h.1
 have h2:=OI.2 h.2
 have h3:=Ym8 q
 rw[BX]
 split
 ·simp only[bo];split at h3<;>omega
 ·split at h3<;>omega
def Zx0{q:Rat}{st:St}:A.C.call (.func 187 [] []) [.str (aS q)] st=some (if q.num.natAbs<1000000000/\q.den<1000000000 then .aX [.int .i64 q.num,.int .i64 q.den,.bool true] else .aX [.int .i64 0,.int .i64 0,.bool false],st):=by
 by_cases h:(aS q).length<=20
 ·exact Yd2 h
 ·rw[ak fun hc=>h (Yf4 hc)]
  exact Zz8 (by omega)
variable {j:Nat}
set_option maxHeartbeats 2000000
def A.b135:=A.q Tryz.f135
def A.k135:=@A.kk 135 55 [.tmp 4] A.b135 (by kernel_rfl) rfl
def Zqs(a b:Rat):a*b=Rat.divInt (a.num*b.num) ((a.den:Int)*(b.den:Int)):=by
 rw[Rat.mul_def,Rat.normalize_eq_mkRat,<-Rat.divInt_ofNat]
 simp
def Zra(a b:Rat):a+b=Rat.divInt (a.num*(b.den:Int)+b.num*(a.den:Int)) ((a.den:Int)*(b.den:Int)):=by
 rw[Rat.add_def,Rat.normalize_eq_mkRat,<-Rat.divInt_ofNat]
 simp
def ON{a b:Nat}(h1:a<1000000000)(h2:b<1000000000):a*b<=1000000000000000000:=by
 have:=uf (Nat.le_of_lt h1) (Nat.le_of_lt h2)
 omega
def Sx(q:Rat):∃(n d:Int) (o:Bool),(∀st,A.C.call (.func 187 [] []) [.str (aS q)] st=some (.aX [.int .i64 n,.int .i64 d,.bool o],st))/\(o=true->n=q.num/\d=(q.den:Int)/\q.num.natAbs<1000000000/\q.den<1000000000):=by
 by_cases f:q.num.natAbs<1000000000/\q.den<1000000000
 ·exact⟨q.num,q.den,true,fun st=>by rw[Zx0,av f],fun _=>⟨rfl,rfl,f⟩⟩
 ·exact⟨0,0,false,fun st=>by rw[Zx0,ak f],fun h=>by cases h⟩
def Rg.pH{h:T O}{N:Nat}{v:V}{z:Int}(s:Rg h N v z):∃u,v=.agg [.bool (decide (z<0)),u]/\V.one u=true/\V.cells u=[u]/\GJ u:=by
 obtain⟨u,rfl,hu⟩:=s
 exact⟨u,rfl,(Sl.form hu).one,(Sl.form hu).cells,Sl.form hu⟩
def OO{a b:Int}{k:Nat}(h1:a.natAbs<2^j)(h2:b.natAbs<2^k):(a*b).natAbs<2^(j+k):=by
 rw[u_,ke]
 exact Bg h1 h2
def Zr2{a b:Int}(h1:a.natAbs<2^j)(h2:b.natAbs<2^j):(a+b).natAbs<2^(j+1):=by
 have:=Int.natAbs_add_le a b
 rw[gg];omega
def Yem{a b:Rat}{k:Nat}{h:T O}{N:Nat}(ha:Qb j a)(hb:Qb k b)(hj:j<=400000000)(hk:k<=400000000):Fn A.C 135 [.str (aS a),.str (aS b)] h N (fun u _ _=>u=.str (aS (a*b))):=by
 intro w
 obtain⟨n1,d1,o1,qk,f1⟩:=Sx a
 obtain⟨n2,d2,o2,jo,f2⟩:=Sx b
 have pa:=Rat.den_pos a
 have pb:=Rat.den_pos b
 rw[aR,A.k135 (by simp)]
 have key:(o1=true/\o2=true)\/(o1=false\/(o1=true/\o2=false)):=by cases o1<;>cases o2<;>simp
 rcases key with⟨rfl,rfl⟩|key
 ·obtain⟨rfl,rfl,g1⟩:=f1 rfl
  obtain⟨rfl,rfl,g2⟩:=f2 rfl
  have m1:(a.num*b.num).natAbs<=1000000000000000000:=by rw[u_];exact ON g1.1 g2.1
  have m2:a.den*b.den<=1000000000000000000:=ON g1.2 g2.2
  have m3:0<a.den*b.den:=yK pa pb
  have e2:(a.den:Int)*(b.den:Int)=((a.den*b.den:Nat):Int):=by simp
  have w1:bj .i64 (a.num*b.num)=a.num*b.num:=cD (by omega) (by omega)
  have w2:bj .i64 ((a.den:Int)*(b.den:Int))=(a.den:Int)*(b.den:Int):=by rw[e2];exact cD (by omega) (by omega)
  have ho:=fun st=>Ysx (p:=a.num*b.num) (q:=(a.den:Int)*(b.den:Int)) (st:=st) (by omega) (by omega) (by omega) (by omega) (by omega)
  rw[<-Zqs]at ho
  simp[A.b135,qk,jo,w1,w2,ho,aE]
  exact ab.refl
 ·have la:=FB ha.1
  have R4:=DI ha.2
  have lb:=FB hb.1
  have lb2:=DI hb.2
  have z1:=uB ha.1
  have z2:=uB hb.1
  have z3:=uB ha.2
  have z4:=uB hb.2
  rcases key with rfl|⟨rfl,rfl⟩
  all_goals simp[A.b135,qk,jo]
  all_goals
   refine aA (OH (q:=a) (by omega) (by omega)) ?_
   rintro _ h1 t1 k1 ⟨x1,y1,rfl,X1,Y1⟩
   obtain⟨u1,rfl,p1,p2,F1⟩:=X1.pH
   obtain⟨v1,rfl,p3,p4,G1⟩:=Y1.pH
   unfold V.one at p1 p3
   unfold V.cells at p2 p4
   have KA:=((((ab.refl (h:=h1) (n:=t1)).new (.cells [.bool false,.aa] 180 true)).new (.cells [.bool false,.aa] 180 true)).set (i:=t1) (o:=.cells [.bool (decide (a.num<0)),u1] 180 true) (aM _)).set (i:=t1+1) (o:=.cells [.bool (decide ((a.den:Int)<0)),v1] 180 true) (by omega)
   have c0:¬t1+1=t1:=by omega
   have c00:¬t1=t1+1:=by omega
   simp[p1,p2,p3,p4,bC,ad,c0]
   generalize AX:(((h1.set t1 (.cells [.bool false,.aa] 180 true)).set (t1+1) (.cells [.bool false,.aa] 180 true)).set t1 (.cells [.bool (decide (a.num<0)),u1] 180 true)).set (t1+1) (.cells [.bool (decide ((a.den:Int)<0)),v1] 180 true)=HA at*
   have FH:HA.get t1=some (.cells [.bool (decide (a.num<0)),u1] 180 true):=by rw[<-AX];simp[c0,c00]
   have OP:HA.get (t1+1)=some (.cells [.bool (decide ((a.den:Int)<0)),v1] 180 true):=by rw[<-AX];simp
   have X1:=X1.ae KA
   have Y1:=Y1.ae KA
   clear AX
   refine aA (OH (q:=b) (by omega) (by omega)) ?_
   rintro _ h2 t2 k2 ⟨x2,y2,rfl,X2,Y2⟩
   obtain⟨u2,rfl,p5,p6,F2⟩:=X2.pH
   obtain⟨v2,rfl,p7,p8,G2⟩:=Y2.pH
   unfold V.one at p5 p7
   unfold V.cells at p6 p8
   have KB:=((((ab.refl (h:=h2) (n:=t2)).new (.cells [.bool false,.aa] 180 true)).new (.cells [.bool false,.aa] 180 true)).set (i:=t2) (o:=.cells [.bool (decide (b.num<0)),u2] 180 true) (aM _)).set (i:=t2+1) (o:=.cells [.bool (decide ((b.den:Int)<0)),v2] 180 true) (by omega)
   have c1:¬t2+1=t2:=by omega
   have c11:¬t2=t2+1:=by omega
   have i2:=k2.le
   generalize It:(((h2.set t2 (.cells [.bool false,.aa] 180 true)).set (t2+1) (.cells [.bool false,.aa] 180 true)).set t2 (.cells [.bool (decide (b.num<0)),u2] 180 true)).set (t2+1) (.cells [.bool (decide ((b.den:Int)<0)),v2] 180 true)=HB at*
   have Sy:HB.get t2=some (.cells [.bool (decide (b.num<0)),u2] 180 true):=by rw[<-It];simp[c1,c11]
   have OQ:HB.get (t2+1)=some (.cells [.bool (decide ((b.den:Int)<0)),v2] 180 true):=by rw[<-It];simp
   have gB3:=(KB.get t1 (by omega)).trans ((k2.get t1 (by omega)).trans FH)
   have OR:=(KB.get (t1+1) (by omega)).trans ((k2.get (t1+1) (by omega)).trans OP)
   have X1:=(X1.ae k2).ae KB
   have Y1:=(Y1.ae k2).ae KB
   have X2:=X2.ae KB
   have Y2:=Y2.ae KB
   have K2:ab h N HB (t2+1+1):=((k1.trans KA).trans k2).trans KB
   have j1:t1<t2+1+1:=by omega
   have j2:t1+1<t2+1+1:=by omega
   have j3:t2<t2+1+1:=by omega
   simp[p5,p6,p7,p8,bC,ad,c1,It,Sy,OQ,gB3,OR,aO,aF]
   refine aA (Ms X1 X2 (by omega) (by omega)) ?_
   rintro _ h3 t3 k3 X3
   have i3:=k3.le
   have gC2:=(k3.get (t2+1) (by omega)).trans OQ
   have Sz:=(k3.get (t1+1) (by omega)).trans OR
   simp[gC2,Sz,aO,aF]
   refine aA (Ms (Y1.ae k3) (Y2.ae k3) (by rw[dR];omega) (by rw[dR];omega)) ?_
   rintro _ h4 t4 k4 X4
   have m1:=uB (OO ha.1 hb.1)
   have m2:=uB (OO (a:=(a.den:Int)) (b:=(b.den:Int)) (j:=j) (k:=k) (by rw[dR];exact ha.2) (by rw[dR];exact hb.2))
   simp[]
   refine aA (Zjy (X3.ae k4) X4 (Jg (by omega) (by omega)) (by omega) (by omega)) ?_
   rintro _ h5 t5 k5 rfl
   have j4:t2+1<t3:=by omega
   have j5:t1+1<t3:=by omega
   rw[<-Zqs]
   have i1:=k1.le
   simp[-ax,ct.cv,j1,j2,j3,j4,j5,aE]
   exact⟨yD (by simp;omega),((K2.trans k3).trans k4).trans k5⟩
end
end Go.Mx
