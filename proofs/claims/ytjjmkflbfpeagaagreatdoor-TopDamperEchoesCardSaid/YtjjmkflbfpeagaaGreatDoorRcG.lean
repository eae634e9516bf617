/-lensletref01-/
import Derived.Test.YtjjmkflbfpeagaaGreatDoorRbK
set_option linter.all false
namespace Go.Mx
noncomputable section
open Go Go.Proofs
set_option maxRecDepth 1000000
def A.b42:=A.q Tryz.f42
def A.k42:=@A.kk 42 61 [.tmp 4] A.b42 (by kernel_rfl) rfl
def CK{z:Int}:zw [.int .i64 z,.int .i64 (-z)]=some (.int .i64 (z.natAbs:Nat)):=by
 have h:zw [.int .i64 z,.int .i64 (-z)]=some (.int .i64 (if z< -z then -z else z)):=rfl
 rw[h]
 congr 2
 split<;>omega
def Yh9{a:Int}{m:Nat}(hm:0<m):(Rat.divInt a m).num=a.tdiv (Nat.gcd a.natAbs m:Nat)/\(Rat.divInt a m).num.natAbs<=a.natAbs/\(Rat.divInt a m).den=m/Nat.gcd a.natAbs m:=by
 have hb:(0:Int)<(m:Int):=by omega
 have h1:=FF (a:=a) hb
 have h2:=LD (a:=a) hb
 rw[ed]at h1 h2
 have hd:((Nat.gcd a.natAbs m:Nat):Int)∣a:=Int.gcd_dvd_left (a:=a) (b:=(m:Int))
 refine⟨?_,?_,h2.symm⟩
 ·rw[Int.tdiv_eq_ediv_of_dvd hd,Rat.num_divInt,Int.sign_eq_one_of_pos hb,Int.one_mul,Int.gcd_comm]
  rfl
 ·rw[<-h1]
  have:=sM a.natAbs (Nat.gcd a.natAbs m)
  generalize a.natAbs/Nat.gcd a.natAbs m=k at*
  split
  ·rw[zr,ed];exact this
  ·rw[ed];exact this
def Yna{a:Int}{m:Nat}{st:St}(hm:0<m)(h1: -4000000000000000000<=a)(h2:a<=4000000000000000000)(h3:m<=4000000000000000000):A.C.call (.func 42 [] []) [.int .i64 a,.int .i64 m] st=some (.str (av (Rat.divInt a m)),st):=by
 apply Call.eq
 rw[aQ,A.k42 (by simp)]
 have c1:¬a< -4000000000000000000:=by omega
 have c2:¬4000000000000000000<a:=by omega
 have c3:¬(m:Int)< -4000000000000000000:=by omega
 have c4:¬4000000000000000000<(m:Int):=by omega
 have c5:¬(m:Int)<0:=by omega
 have w1:bb .i64 (-a)= -a:=cb (by omega) (by omega)
 have w2:bb .i64 (0-a)= -a:=by rw[Int.zero_sub];exact w1
 have hg:=fun st=>Ycu (a:=a.natAbs) (b:=m) (st:=st) (by omega) (by omega)
 obtain⟨e1,e2,e3⟩:=Yh9 (a:=a) hm
 have wV:0<(Rat.divInt a m).den:=Rat.den_pos _
 have kb:av (Rat.divInt a m)=if (Rat.divInt a m).den=1 then aK (Rat.divInt a m).num else aK (Rat.divInt a m).num++47::aj (Rat.divInt a m).den:=rfl
 rw[kb]
 clear kb
 have CH:0<Nat.gcd a.natAbs m:=M9 _ hm
 generalize (Rat.divInt a m).num=P at*
 generalize (Rat.divInt a m).den=D at*
 generalize Nat.gcd a.natAbs m=g at*
 have hDm:D<=m:=by rw[e3];exact sM _ _
 have e4:(m:Int).tdiv (g:Int)=(D:Int):=by rw[yS (by omega),e3];rfl
 have g0:¬(g:Int)=0:=by omega
 have g1:¬g=0:=by omega
 have v1:bb .i64 P=P:=cb (by omega) (by omega)
 have v2:bb .i64 (-P)= -P:=cb (by omega) (by omega)
 have v3:bb .i64 (D:Int)=(D:Int):=cb (by omega) (by omega)
 have d1:∀st,A.C.call (.func 89 [] []) [.int .i64 (P.natAbs:Nat),.int .i64 1] st=some (.str (aj P.natAbs),st):=fun st=>(Hv (n:=P.natAbs) (m:=1) (st:=st) (by omega) (by omega)).trans (by rw[JH])
 have d2:∀st,A.C.call (.func 89 [] []) [.int .i64 D,.int .i64 1] st=some (.str (aj D),st):=fun st=>(Hv (n:=D) (m:=1) (st:=st) (by omega) (by omega)).trans (by rw[JH])
 have x1:(aj P.natAbs).length<30:=by
  have:(cZ P.natAbs).length<=19:=nO.1 (by omega)
  unfold aj;split<;>simp;omega
 have x2:(aj D).length<30:=by
  have:(cZ D).length<=19:=nO.1 (by omega)
  unfold aj;split<;>simp;omega
 have dJ:IntKind.max .i64=9223372036854775807:=rfl
 have y1:¬(9223372036854775807:Int)<((aj P.natAbs).length:Int):=by omega
 have y2:¬(9223372036854775807:Int)<1+((aj P.natAbs).length:Int):=by omega
 have z1:D=1\/(¬D=1/\1<D):=by omega
 rcases z1 with rfl|⟨z1,z2⟩<;>by_cases hP:P<0
 ·simp[A.b42,c1,c2,c3,c4,c5,w1,pr,CK,hg,<-e1,e4,g1,v1,v2,hP,d1,iC,dJ,y2,aK,cD.cG]
 ·simp[A.b42,c1,c2,c3,c4,c5,w1,pr,CK,hg,<-e1,e4,g1,v1,v2,hP,d1,iC,dJ,y1,aK,cD.cG]
 ·have z3:(1:Int)<(D:Int):=by omega
  have y3:¬(9223372036854775807:Int)<((aj P.natAbs).length:Int)+1+1:=by omega
  have y4:¬(9223372036854775807:Int)<((aj P.natAbs).length:Int)+1+1+((aj D).length:Int):=by omega
  simp[A.b42,c1,c2,c3,c4,c5,w1,pr,CK,hg,<-e1,e4,g1,v1,v2,v3,hP,d1,d2,iC,dJ,y2,aK,cD.cG,z1,z3,y3,y4]
 ·have z3:(1:Int)<(D:Int):=by omega
  have y3:¬(9223372036854775807:Int)<((aj P.natAbs).length:Int)+1:=by omega
  have y4:¬(9223372036854775807:Int)<((aj P.natAbs).length:Int)+1+((aj D).length:Int):=by omega
  simp[A.b42,c1,c2,c3,c4,c5,w1,pr,CK,hg,<-e1,e4,g1,v1,v2,v3,hP,d1,d2,iC,dJ,y1,aK,cD.cG,z1,z3,y3,y4]
def Ynb{p q:Int}{st:St}(hq:q<0)(h1: -4000000000000000000<=p)(h2:p<=4000000000000000000)(h3: -4000000000000000000<=q):A.C.call (.func 42 [] []) [.int .i64 p,.int .i64 q] st=some (.str (av (Rat.divInt p q)),st):=by
 apply Call.eq
 rw[aQ,A.k42 (by simp)]
 have c1:¬p< -4000000000000000000:=by omega
 have c2:¬4000000000000000000<p:=by omega
 have c3:¬q< -4000000000000000000:=by omega
 have c4:¬4000000000000000000<q:=by omega
 obtain⟨a,ha⟩:∃a,a= -p:=⟨_,rfl⟩
 obtain⟨m,k_⟩:∃m:Nat,(m:Int)= -q:=⟨(-q).toNat,by omega⟩
 have hm:0<m:=by omega
 have c5:bb .i64 (-p)=a:=by rw[<-ha];exact cb (by omega) (by omega)
 have c6:bb .i64 (-q)=(m:Int):=by rw[<-k_];exact cb (by omega) (by omega)
 have kh:Rat.divInt p q=Rat.divInt a m:=by rw[ha,k_];exact(Rat.neg_divInt_neg p q).symm
 rw[kh]
 clear kh
 have w1:bb .i64 (-a)= -a:=cb (by omega) (by omega)
 have w2:bb .i64 (0-a)= -a:=by rw[Int.zero_sub];exact w1
 have hg:=fun st=>Ycu (a:=a.natAbs) (b:=m) (st:=st) (by omega) (by omega)
 obtain⟨e1,e2,e3⟩:=Yh9 (a:=a) hm
 have wV:0<(Rat.divInt a m).den:=Rat.den_pos _
 have kb:av (Rat.divInt a m)=if (Rat.divInt a m).den=1 then aK (Rat.divInt a m).num else aK (Rat.divInt a m).num++47::aj (Rat.divInt a m).den:=rfl
 rw[kb]
 clear kb
 have CH:0<Nat.gcd a.natAbs m:=M9 _ hm
 generalize (Rat.divInt a m).num=P at*
 generalize (Rat.divInt a m).den=D at*
 generalize Nat.gcd a.natAbs m=g at*
 have hDm:D<=m:=by rw[e3];exact sM _ _
 have e4:(m:Int).tdiv (g:Int)=(D:Int):=by rw[yS (by omega),e3];rfl
 have g0:¬(g:Int)=0:=by omega
 have g1:¬g=0:=by omega
 have v1:bb .i64 P=P:=cb (by omega) (by omega)
 have v2:bb .i64 (-P)= -P:=cb (by omega) (by omega)
 have v3:bb .i64 (D:Int)=(D:Int):=cb (by omega) (by omega)
 have d1:∀st,A.C.call (.func 89 [] []) [.int .i64 (P.natAbs:Nat),.int .i64 1] st=some (.str (aj P.natAbs),st):=fun st=>(Hv (n:=P.natAbs) (m:=1) (st:=st) (by omega) (by omega)).trans (by rw[JH])
 have d2:∀st,A.C.call (.func 89 [] []) [.int .i64 D,.int .i64 1] st=some (.str (aj D),st):=fun st=>(Hv (n:=D) (m:=1) (st:=st) (by omega) (by omega)).trans (by rw[JH])
 have x1:(aj P.natAbs).length<30:=by
  have:(cZ P.natAbs).length<=19:=nO.1 (by omega)
  unfold aj;split<;>simp;omega
 have x2:(aj D).length<30:=by
  have:(cZ D).length<=19:=nO.1 (by omega)
  unfold aj;split<;>simp;omega
 have dJ:IntKind.max .i64=9223372036854775807:=rfl
 have y1:¬(9223372036854775807:Int)<((aj P.natAbs).length:Int):=by omega
 have y2:¬(9223372036854775807:Int)<1+((aj P.natAbs).length:Int):=by omega
 have z1:D=1\/(¬D=1/\1<D):=by omega
 rcases z1 with rfl|⟨z1,z2⟩<;>by_cases hP:P<0
 ·simp[A.b42,c1,c2,c3,c4,c5,c6,hq,w1,pr,CK,hg,<-e1,e4,g1,v1,v2,hP,d1,iC,dJ,y2,aK,cD.cG]
 ·simp[A.b42,c1,c2,c3,c4,c5,c6,hq,w1,pr,CK,hg,<-e1,e4,g1,v1,v2,hP,d1,iC,dJ,y1,aK,cD.cG]
 ·have z3:(1:Int)<(D:Int):=by omega
  have y3:¬(9223372036854775807:Int)<((aj P.natAbs).length:Int)+1+1:=by omega
  have y4:¬(9223372036854775807:Int)<((aj P.natAbs).length:Int)+1+1+((aj D).length:Int):=by omega
  simp[A.b42,c1,c2,c3,c4,c5,c6,hq,w1,pr,CK,hg,<-e1,e4,g1,v1,v2,v3,hP,d1,d2,iC,dJ,y2,aK,cD.cG,z1,z3,y3,y4]
 ·have z3:(1:Int)<(D:Int):=by omega
  have y3:¬(9223372036854775807:Int)<((aj P.natAbs).length:Int)+1:=by omega
  have y4:¬(9223372036854775807:Int)<((aj P.natAbs).length:Int)+1+((aj D).length:Int):=by omega
  simp[A.b42,c1,c2,c3,c4,c5,c6,hq,w1,pr,CK,hg,<-e1,e4,g1,v1,v2,v3,hP,d1,d2,iC,dJ,y1,aK,cD.cG,z1,z3,y3,y4]
def Ync{p q:Int}{st:St}(hq:q≠0)(h1: -4000000000000000000<=p)(h2:p<=4000000000000000000)(h3: -4000000000000000000<=q)(h4:q<=4000000000000000000):A.C.call (.func 42 [] []) [.int .i64 p,.int .i64 q] st=some (.str (av (Rat.divInt p q)),st):=by
 rcases Int.lt_or_gt_of_ne hq with hq|hq
 ·exact Ynb hq h1 h2 h3
 ·obtain⟨m,rfl⟩:∃m:Nat,q=(m:Int):=⟨q.toNat,by omega⟩
  exact Yna (by omega) h1 h2 (by omega)
def A.w85:=A.q Tryz.f85
def A.pU:=A.ql A.w85 0 []
def A.b85:=(fun x0=>A.qb A.w85 [x0]) A.pU
def A.k85:=@A.kk 85 25 [.cell 2 (some 2)] A.b85 (by kernel_rfl) rfl
def Ya0{s:aU}(hd:cF s=true)(h1:1<=s.length)(h2:s.length<=3000000000){h:T O}{N:Nat}:Fn A.C 84 [.str (45::s)] h N (fun v h' n'=>Rg h' n' v (-((aD s:Nat):Int))):=by
 intro w
 have a1:cJ 45=45:=rfl
 have a2:(1:Int)<=(s.length:Int)+1:=by omega
 have a3:∀st:St,oW st (some (.str (45::s))) (some (some (.int .i64 1))) (some none)=some (.str s,st):=fun st=>by rw[Ah (by omega) (by simp only[bf];omega)];rfl
 rw[aQ,A.k84 (by simp)]
 simp[A.b84,a1,a3,az]
 refine cX [(0,0),(4,4),(16,32)] (fun e r st=>e=.exit 0/\∃m,m<=9/\Pb (h.set N (.cells [.bool false,.aa] 88 true)) (N+1) s m r st) (Pb (h.set N (.cells [.bool false,.aa] 88 true)) (N+1) s) s.length ?_ ?_ ?_
 ·exact⟨by simp,ad.refl,s,.aa,[],by simp,rfl,h1,aR _,hd,by simp,Own.nil,Di.nil,by simp,by simp[vI,pI]⟩
 ·rintro m r ⟨H,n1,W⟩ hr hf ⟨hW,hK,cur,u,l,g0,dM,m1,m2,nE,g4,ho,ib,El,hv⟩
  simp only at hW hK ho
  subst dM
  rw[cm]
  by_cases h9:9<cur.length
  ·have FB:(9:Int)<(cur.length:Int):=by omega
   have gJ:=hK.le
   have FC:=Hy (s:=cur.drop (cur.length-9)) (st:=⟨H,n1,W⟩) (Pa nE _) (by simp;omega)
   have AN:((cur.length:Int)-9).toNat=cur.length-9:=by omega
   have CI:=zO (Pa nE (cur.length-9))
   have lA:(cur.drop (cur.length-9)).length=9:=by simp;omega
   rw[lA]at CI
   have iP:=Zvs (cur.take (cur.length-9)) (cur.drop (cur.length-9))
   rw[yW,lA,show (10:Nat)^9=1000000000 by decide]at iP
   generalize hD:aD (cur.drop (cur.length-9))=D at*
   obtain⟨v',h',w',e1,e2,e3,e4,e5⟩:=zH (x:=[.int .i64 (D:Int)]) (u:=.slice n1 0 1 (some 1) 1) (bytes:=8) (w:=W) (ho.ae (ad.refl.new (.cells [.int .i64 (D:Int)] 3 true))) (by omega) (by decide) rfl (by simp[iQ,St.row,aM]) (by rw[A3];omega)
   rw[<-Cn]at e5
   simp(disch:=first|(simp;done)|omega|rfl) [A.nf,hf,g0,g4,FB,AN,az,FC,ag,e1]
   refine⟨cur.length-9,by omega,⟨by rw[e2];exact hW,(hK.new _).then e3,cur.take (cur.length-9),v',l++[(D:Int)],by simp,by simp,by omega,by omega,Zsj nE _,by simp,e5,ib.app (Di.one (by omega) (by omega)),by simp;omega,?_⟩⟩
   rw[AZ,iy,xA,rP,<-hv]
   have FD:((aD cur:Nat):Int)=(aD (cur.take (cur.length-9)):Nat)*1000000000+D:=by omega
   rw[FD]
   generalize ((aD (cur.take (cur.length-9)):Nat):Int)=X
   generalize pI l.length=P
   grind
  ·have FB:¬(9:Int)<(cur.length:Int):=by omega
   simp[A.nf,hf,g0,FB]
   exact⟨cur.length,by omega,hW,hK,cur,u,l,by simp[g0],rfl,m1,m2,nE,by simp[g4],ho,ib,El,hv⟩
 ·rintro _ r ⟨H,n1,W⟩ hr ⟨rfl,m,m9,hW,hK,cur,u,l,g0,dM,m1,m2,nE,g4,ho,ib,El,hv⟩
  simp only at hW hK ho
  subst dM
  have gJ:=hK.le
  have FC:=Hy (s:=cur) (st:=⟨H,n1,W⟩) nE (by omega)
  have CI:=zO nE
  have hp9:=Mp m9
  generalize hD:aD cur=D at*
  obtain⟨v',h',w',e1,e2,e3,e4,e5⟩:=zH (x:=[.int .i64 (D:Int)]) (u:=.slice n1 0 1 (some 1) 1) (bytes:=8) (w:=W) (ho.ae (ad.refl.new (.cells [.int .i64 (D:Int)] 3 true))) (by omega) (by decide) rfl (by simp[iQ,St.row,aM]) (by rw[A3];omega)
  rw[<-Cn]at e5
  simp[hr,g0,g4,FC,ag,e1]
  have jJ:Di (l++[(D:Int)]):=ib.app (Di.one (by omega) (by omega))
  refine au (tO (b:=true) (n:=aD s) e5.sl jJ (by rw[AZ];exact hv) (by simp;omega)) ?_
  rintro y h5 n5 k5 hy
  have kk:=((hK.new (.cells [.int .i64 (D:Int)] 3 true)).then e3).trans k5
  have vT:=kk.le
  have nh:=kk.get N (by omega)
  simp at nh
  obtain⟨u5,rfl,yz⟩:=hy
  have Fo:=fun c1 (hc:c1.length=2)=>Sl.setInt (i:=N) (c1:=c1) (e1:=88) (w1:=true) yz nh (by intro x hx k m;simp at hx;rcases hx with rfl|rfl<;>simp) hc
  have yQ:=Sl.form yz |>.one
  unfold V.one at yQ
  have ow:aB N w'=[]:=Lu (wC N) (by rw[e2];exact hW)
  have k0:=(ad.refl (h:=h) (n:=N)).new (.cells [.bool false,.aa] 88 true)
  simp[hr,nh,ag,bS,yQ,aL,aM,aA,ow]
  exact⟨(k0.trans kk).set (aR N),u5,by simp,by simpa[Dn]using Fo _ rfl⟩
structure V8 (h:T O) (N a:Nat) (neg:Bool) (m:Nat) (r:T V) (st:St):Prop where
 w:aB N st.w=[]
 ae:ad h N st.h st.n
 ex:∃z u l,z.natAbs=m/\m<=a/\(z<0->neg=true)/\(0<z->neg=false)/\r.get 0=some (.int .i64 z)/\r.get 3=some u/\Own 1 3 N st.h st.n u (nQ l)/\Di l/\vI l+pI l.length*m=a/\l.length<=100/\(m≠0->pI l.length<=a)
def Yaj{z:Int}{h:T O}{N:Nat}(h1: -9223372036854775808<=z)(h2:z<9223372036854775808):Fn A.C 85 [.int .i64 z] h N (fun v h' n'=>Rg h' n' v z):=by
 intro w
 rw[aQ,A.k85 (by simp)]
 have kB:=(ad.refl (h:=h) (n:=N)).new (.cells [.bool false,.aa] 88 true)
 simp[A.b85]
 refine cX [(0,0),(3,3),(5,5),(8,21)] (fun e r st=>e=.exit 0/\V8 (h.set N (.cells [.bool false,.aa] 88 true)) (N+1) z.natAbs (decide (z<0)) 0 r st) (V8 (h.set N (.cells [.bool false,.aa] 88 true)) (N+1) z.natAbs (decide (z<0))) z.natAbs ?_ ?_ ?_
 ·exact⟨by simp,ad.refl,z,.aa,[],rfl,aR _,fun h=>by simp[h],fun h=>by simp;omega,by simp,by simp,Own.nil,Di.nil,by simp[vI,pI],by simp,fun h=>by simp[pI];omega⟩
 ·rintro m r ⟨H,n1,W⟩ hr hf ⟨hW,hK,y,u,l,rfl,hm,oT,eZ,g0,g3,ho,hd,hv,hl,hp⟩
  simp only at hW hK ho
  rw[cm]
  by_cases hy:y=0
  ·subst hy
   simp[A.pU,hf,g0]
   exact⟨hW,hK,0,u,l,rfl,by omega,oT,eZ,by simp[g0],by simp[g3],ho,hd,hv,hl,hp⟩
  ·have gJ:=hK.le
   obtain⟨d,kM⟩:∃d:Nat,d=y.natAbs%1000000000:=⟨_,rfl⟩
   obtain⟨q,vO⟩:∃q:Nat,q=y.natAbs/1000000000:=⟨_,rfl⟩
   have lA:d<1000000000:=by omega
   have CB:(y.tdiv 1000000000).natAbs=q:=by rw[Int.natAbs_tdiv];exact vO.symm
   have Ub:(y.tmod 1000000000).natAbs=d:=by rw[Int.natAbs_tmod];exact kM.symm
   have hqs:(y<0->y.tdiv 1000000000<=0)/\(0<y->0<=y.tdiv 1000000000):=by
    constructor
    ·intro h
     have:(-y).tdiv 1000000000= -(y.tdiv 1000000000):=Int.neg_tdiv _ _
     have h3:0<=(-y).tdiv 1000000000:=Int.tdiv_nonneg (by omega) (by omega)
     omega
    ·intro h
     exact Int.tdiv_nonneg (by omega) (by omega)
   have hms:(y<0->y.tmod 1000000000<=0)/\(0<y->0<=y.tmod 1000000000):=by
    constructor
    ·intro h
     have:(-y).tmod 1000000000= -(y.tmod 1000000000):=Int.neg_tmod _ _
     have h3:0<=(-y).tmod 1000000000:=Int.tmod_nonneg _ (by omega)
     omega
    ·intro h
     exact Int.tmod_nonneg _ (by omega)
   generalize hyq:y.tdiv 1000000000=Y at*
   generalize hym:y.tmod 1000000000=D at*
   have w1:bb .i64 Y=Y:=cb (by omega) (by omega)
   have w2:bb .i64 (0-D)= -D:=by rw[Int.zero_sub];exact cb (by omega) (by omega)
   have w3:bb .i64 (-D)= -D:=cb (by omega) (by omega)
   have hlen:l.length+1<=100:=by
    apply Classical.byContradiction
    intro hc
    have h5:l.length=100:=by omega
    have h6:=hp (by omega)
    rw[h5,Pk]at h6
    have h7:(1000000000^100:Nat)<=z.natAbs:=by exact_mod_cast h6
    have h8:(9223372036854775808:Nat)<1000000000^100:=by decide
    omega
   obtain⟨v',h',w',e1,e2,e3,e4,e5⟩:=zH (x:=[.int .i64 (d:Int)]) (u:=.slice n1 0 1 (some 1) 1) (bytes:=8) (w:=W) (ho.ae (ad.refl.new (.cells [.int .i64 (d:Int)] 3 true))) (by omega) (by decide) rfl (by simp[iQ,St.row,aM]) (by rw[A3];omega)
   rw[<-Cn]at e5
   have ix:vI (l++[(d:Int)])+pI (l++[(d:Int)]).length*(q:Int)=z.natAbs:=by
    rw[AZ,iy,xA,rP,<-hv]
    have:(y.natAbs:Int)=1000000000*(q:Int)+d:=by omega
    rw[this]
    generalize pI l.length=P
    grind
   have hqa:q<y.natAbs:=by omega
   have hpp:q≠0->pI (l++[(d:Int)]).length<=z.natAbs:=fun hq=>by
    have h3:0<=vI (l++[(d:Int)]):=rL (hd.app (Di.one (by omega) (by omega)))
    have h4:0<pI (l++[(d:Int)]).length:=zY _
    have h5:pI (l++[(d:Int)]).length*1<=pI (l++[(d:Int)]).length*(q:Int):=oQ (by omega) (by omega)
    omega
   have fin:V8 (h.set N (.cells [.bool false,.aa] 88 true)) (N+1) z.natAbs (decide (z<0)) q ((r.set 3 v').set 0 (.int .i64 Y)) ⟨h',n1+1+1,w'⟩:=⟨by rw[e2];exact hW,(hK.new _).then e3,Y,v',l++[(d:Int)],CB,by omega,fun h=>oT (by have:=hqs.2;omega),fun h=>eZ (by have:=hqs.1;omega),by simp,by simp,e5,hd.app (Di.one (by omega) (by omega)),ix,by simp;omega,hpp⟩
   obtain⟨f1,f2,f3⟩:=fin
   by_cases hD:D<0
   ·have Pp: -D=(d:Int):=by omega
    rw[Pp]at w2 w3
    simp[A.pU,hf,g0,g3,hy,hyq,hym,hD,w1,w3,Pp,ag,e1]
    exact⟨q,by omega,f1,f2,by simpa using f3⟩
   ·have Pp:D=(d:Int):=by omega
    have hD':¬(d:Int)<0:=by omega
    simp[A.pU,hf,g0,g3,hy,hyq,hym,hD',w1,Pp,ag,e1]
    exact⟨q,by omega,f1,f2,by simpa using f3⟩
 ·rintro _ r ⟨H,n1,W⟩ hr ⟨rfl,hW,hK,y,u,l,hy,hm,oT,eZ,g0,g3,ho,hd,hv,hl,hp⟩
  simp only at hW hK ho
  have h0:y=0:=by omega
  subst h0
  have iY:vI l=(z.natAbs:Nat):=by simpa using hv
  simp[hr,g3]
  refine au (tO (n:=z.natAbs) ho.sl hd iY (by omega)) ?_
  rintro v5 h5 n5 k5 O8
  have ez:(if decide (z<0)=true then -((z.natAbs:Nat):Int) else ((z.natAbs:Nat):Int))=z:=by
   by_cases h0:z<0<;>simp[h0]<;>omega
  rw[ez]at O8
  have vT:=hK.le
  have Fu:=k5.le
  have nh:=(k5.get N (by omega)).trans (hK.get N (by omega))
  rw[T.ai,aJ rfl]at nh
  obtain⟨u5,rfl,yz⟩:=O8
  have p1:=Sl.form yz |>.one
  have p2:=Sl.form yz |>.cells
  unfold V.one at p1
  unfold V.cells at p2
  have ow:aB N W=[]:=Lu (wC N) hW
  simp[hr,nh,ag,bS,p1,aL,aM,aA,ow]
  exact⟨((kB.trans hK).trans k5).set (aR N),u5,by simp,Sl.setInt yz nh iN rfl⟩
def Zq0{z:Int}{h:T O}{N:Nat}(hl:(aK z).length<=2000000000):Fn A.C 84 [.str (aK z)] h N (fun v h' n'=>Rg h' n' v z):=by
 have h1:1<=(aj z.natAbs).length:=List.length_pos_iff.2 (Eo _)
 unfold aK at hl ⊢
 by_cases hz:z<0
 ·rw[aJ hz]at hl ⊢
  simp only[bf]at hl
  have e: -((aD (aj z.natAbs):Nat):Int)=z:=by rw[ye];omega
  have:=Ya0 (vN z.natAbs) h1 (by omega) (h:=h) (N:=N)
  rw[e]at this
  exact this
 ·rw[aq hz]at hl ⊢
  have e:((aD (aj z.natAbs):Nat):Int)=z:=by rw[ye];omega
  have:=Pc (vN z.natAbs) h1 (by omega) (h:=h) (N:=N)
  rw[e]at this
  exact this
def Zqz{h h2:T O}{N n2:Nat}{a b:Int}{x y:V}(hx:Sl h2 n2 x (dI (ds a.natAbs)))(hy:Sl h2 n2 y (dI (ds b.natAbs)))(r0:h2.get N=some (.cells [.bool false,.aa] 88 true))(r1:h2.get (N+1)=some (.cells [.bool false,.aa] 88 true)):Rg ((h2.set N (.cells [.bool (decide (a<0)),x] 88 true)).set (N+1) (.cells [.bool (decide (b<0)),y] 88 true)) n2 (.agg [.bool (decide (a<0)),x]) a/\Rg ((h2.set N (.cells [.bool (decide (a<0)),x] 88 true)).set (N+1) (.cells [.bool (decide (b<0)),y] 88 true)) n2 (.agg [.bool (decide (b<0)),y]) b:=by
 have LA:(h2.set N (.cells [.bool (decide (a<0)),x] 88 true)).get (N+1)=some (.cells [.bool false,.aa] 88 true):=by rw[T.ai,aq (by omega)];exact r1
 exact⟨⟨x,rfl,Sl.setInt (Sl.setInt hx r0 iN rfl) LA iN rfl⟩,⟨y,rfl,Sl.setInt (Sl.setInt hy r0 iN rfl) LA iN rfl⟩⟩
def Pq{q:Rat}{h:T O}{N:Nat}(l1:(aK q.num).length<=1000000000)(l2:(aj q.den).length<=1000000000):Fn A.C 38 [.str (av q)] h N (fun v h' n'=>∃x y,v=.aY [x,y]/\Rg h' n' x q.num/\Rg h' n' y (q.den:Int)):=by
 intro w
 have aO:(av q).length<=3000000000:=by
  unfold av
  split
  ·omega
  ·simp only[iy,bf];omega
 have cO:=fun st=>Bv (s:=av q) (st:=st) (by omega)
 have hsa:=G4 q
 have htk:=JI q
 have rb:=(ad.refl (h:=h) (n:=N)).new (.cells [.bool false,.aa] 88 true)
 have k0:=rb.new (.cells [.bool false,.aa] 88 true)
 have d4':¬N+1=N:=by omega
 have d5':¬N=N+1:=by omega
 rw[aQ,A.k38 (by simp)]
 by_cases hd:q.den=1
 ·have he:ah (av q)=(av q).length:=by
   have:=AT q
   have h2:ah (av q)<=(av q).length:=by
    rw[hsa]
    unfold av
    rw[aJ hd]
    exact aR _
   omega
  have kb:av q=aK q.num:=by unfold av;rw[aJ hd]
  have c1:((ah (av q):Int)=((av q).length:Int)):=by omega
  rw[hd]
  simp[A.b38,cO,he]
  rw[kb]
  refine au (Zq0 (z:=q.num) (by omega)) ?_
  rintro v1 h1 n1 k1 ⟨x,rfl,hx⟩
  simp[]
  refine au (Yaj (z:=1) (by omega) (by omega)) ?_
  rintro v2 h2 n2 k2 ⟨y,rfl,hy⟩
  have eS:=k1.le
  have gF:=k2.le
  have hx:=Sl.ae hx k2
  have r0:=(k2.get N (by omega)).trans (k1.get N (by omega))
  have r1:=(k2.get (N+1) (by omega)).trans (k1.get (N+1) (by omega))
  simp at r0 r1
  have uW:=(Sl.form hx).one
  have uX:=(Sl.form hy).one
  have Fw:=(Sl.form hx).cells
  have JE:=(Sl.form hy).cells
  unfold V.one at uW uX
  unfold V.cells at Fw JE
  obtain⟨e1,e2⟩:=Zqz (h:=h) (b:=1) hx hy r0 r1
  have Pd:N<n1:=by omega
  have Pe:N<n2:=by omega
  have Pf:N+1<n2:=by omega
  simp[r0,r1,ag,bS,uW,uX,aL,aM,aA]
  simp only[show decide ((1:Int)<0)=false from rfl]at e1 e2
  exact⟨(((k0.trans k1).trans k2).set (by omega)).set (by omega),_,_,⟨rfl,rfl⟩,e1,e2⟩
 ·have eJ:=(AT q).2 hd
  have uV:=JJ q hd
  have c1:¬((ah (av q):Int)=((av q).length:Int)):=by omega
  have c2:¬(ah (av q)=(av q).length):=by omega
  have c3:(ah (av q):Int)<=((av q).length:Int):=by omega
  have c4:(ah (av q):Int)+1<=((av q).length:Int):=by omega
  have c5:((ah (av q):Int)+1).toNat=ah (av q)+1:=by omega
  have zC:aD (aj q.den)=q.den:=ye _
  simp[A.b38,cO,c1,c3,az,htk]
  refine au (Zq0 (z:=q.num) (by omega)) ?_
  rintro v1 h1 n1 k1 ⟨x,rfl,hx⟩
  simp(disch:=omega) [c5,az,uV]
  refine au (Pc (vN q.den) (List.length_pos_iff.2 (Eo _)) (by omega)) ?_
  rintro v2 h2 n2 k2 hy
  rw[zC]at hy
  obtain⟨y,rfl,hy⟩:=hy
  have eS:=k1.le
  have gF:=k2.le
  have hx:=Sl.ae hx k2
  have r0:=(k2.get N (by omega)).trans (k1.get N (by omega))
  have r1:=(k2.get (N+1) (by omega)).trans (k1.get (N+1) (by omega))
  simp at r0 r1
  have uW:=(Sl.form hx).one
  have uX:=(Sl.form hy).one
  have Fw:=(Sl.form hx).cells
  have JE:=(Sl.form hy).cells
  unfold V.one at uW uX
  unfold V.cells at Fw JE
  obtain⟨e1,e2⟩:=Zqz (h:=h) (b:=(q.den:Int)) hx hy r0 r1
  have Pd:N<n1:=by omega
  have Pe:N<n2:=by omega
  have Pf:N+1<n2:=by omega
  have uD:¬(q.den:Int)<0:=by omega
  simp only[show decide ((q.den:Int)<0)=false by simp[uD]]at e1 e2
  simp[r0,r1,ag,bS,uW,uX,Pd,Pe,Pf,aL,aM,cD.cG,aA,uD]
  exact⟨(((k0.trans k1).trans k2).set (by omega)).set (by omega),_,_,⟨rfl,rfl⟩,e1,e2⟩
def LK{n:Nat}:(aj n).length<=9↔n<1000000000:=yZ (k:=9) (by omega)
def Yhy{n:Nat}(h:n<1000000000)(st:St):A.C.call (.func 87 [] []) [.str (aj n)] st=some (.int .i64 n,st):=by
 have:=Hy (s:=aj n) (st:=st) (vN n) (by have:=LK.2 h;omega)
 rwa [ye]at this
def A.b41:=A.q Tryz.f41
def A.k41:=@A.kk 41 54 [.tmp 2,.tmp 3,.tmp 4] A.b41 (by kernel_rfl) rfl
def QB(q:Rat):aU:=if q.den=1 then aj q.num.natAbs else aj q.num.natAbs++47::aj q.den
def wj(q:Rat):av q=if q.num<0 then 45::QB q else QB q:=by
 unfold av QB aK
 by_cases h1:q.den=1<;>by_cases h2:q.num<0<;>simp[h1,h2]
def Yhi(q:Rat):ah (QB q)=(aj q.num.natAbs).length:=by
 unfold QB
 split
 ·exact NQ (GZ (vN _))
 ·exact NP (GZ (vN _))
def Ymd(q:Rat):(QB q).take (aj q.num.natAbs).length=aj q.num.natAbs:=by
 unfold QB
 split
 ·exact gI (aR _)
 ·exact List.take_left
def Yme{q:Rat}(h:q.den≠1):(QB q).drop ((aj q.num.natAbs).length+1)=aj q.den:=by
 unfold QB
 rw[aq h,<-List.drop_drop,List.drop_left];rfl
def Yir(q:Rat):(QB q).length=(aj q.num.natAbs).length+(if q.den=1 then 0 else (aj q.den).length+1):=by
 unfold QB
 split<;>simp
def V9(q:Rat):∃c t,QB q=c::t/\48<=c.toNat:=by
 obtain⟨c,t,h,h1,_⟩:=Z4 (n:=q.num.natAbs)
 unfold QB
 split
 ·exact⟨c,t,h,h1⟩
 ·exact⟨c,t++47::aj q.den,by rw[h];rfl,h1⟩
def Yay{q:Rat}{st:St}(hl:(av q).length<=20):A.C.call (.func 41 [] []) [.str (av q)] st=some (if q.num.natAbs<1000000000/\q.den<1000000000 then .aY [.int .i64 q.num,.int .i64 q.den,.bool true] else .aY [.int .i64 0,.int .i64 0,.bool false],st):=by
 obtain⟨c,t,hB,hc⟩:=V9 q
 have hs:=Yhi q
 have ht:=Ymd q
 have xd:=Yir q
 have h9:=LK (n:=q.num.natAbs)
 have h9d:=LK (n:=q.den)
 have hn:=fun h st=>Yhy (n:=q.num.natAbs) h st
 have hd:=fun h st=>Yhy (n:=q.den) h st
 have uV:=Yme (q:=q)
 have Bo:¬cJ c=45:=by unfold cJ;omega
 have kb:=wj q
 have hBl:(QB q).length<=20:=by
  rw[kb]at hl
  split at hl
  ·simp only[bf]at hl;omega
  ·exact hl
 have cO:=fun st=>Bv (s:=QB q) (st:=st) (by omega)
 rw[hs]at cO
 have ga:(QB q)[0]?=some c:=by rw[hB];rfl
 have hh:(QB q).head?=some c:=by rw[hB];rfl
 have bK:QB q≠[]:=by rw[hB];simp
 have wh:0<(QB q).length:=by rw[hB];simp
 have zaQ:(0:Int)<((QB q).length:Int):=by omega
 have Bp:¬(20:Int)<((QB q).length:Int):=by omega
 have vM:(aj q.num.natAbs).length<=(QB q).length:=by omega
 have zaR:((aj q.num.natAbs).length:Int)<=((QB q).length:Int):=by omega
 have k0:0<=(aj q.num.natAbs).length:=tN _
 have w1:bb .i64 (((QB q).length:Int)-((aj q.num.natAbs).length:Int))=((QB q).length:Int)-((aj q.num.natAbs).length:Int):=cb (by omega) (by omega)
 have w2:bb .i64 (((aj q.num.natAbs).length:Int)+1)=((aj q.num.natAbs).length:Int)+1:=cb (by omega) (by omega)
 have a3:∀st:St,oW st (some (.str (45::QB q))) (some (some (.int .i64 1))) (some none)=some (.str (QB q),st):=fun st=>by rw[Ah (by omega) (by simp only[bf];omega)];rfl
 have a4:∀st:St,oW st (some (.str (QB q))) (some none) (some (some (.int .i64 (aj q.num.natAbs).length)))=some (.str (aj q.num.natAbs),st):=fun st=>by rw[TJ (by omega) (by omega),Int.toNat_natCast,ht]
 apply Call.eq
 rw[aQ,A.k41 (by simp),kb]
 by_cases e9:q.num.natAbs<1000000000
 ·have g9:¬(9:Int)<((aj q.num.natAbs).length:Int):=by have:=h9.2 e9;omega
  have hn:=hn e9
  by_cases e1:q.den=1
  ·rw[aJ e1]at xd
   have CL:¬(10:Int)<((QB q).length:Int)-((aj q.num.natAbs).length:Int):=by omega
   have LL:¬((aj q.num.natAbs).length:Int)<((QB q).length:Int):=by omega
   have g12:¬(aj q.num.natAbs).length<(QB q).length:=by omega
   rw[e1]
   by_cases hz:q.num<0
   ·have ez:(q.num.natAbs:Int)= -q.num:=by omega
    have w3:bb .i64 (0-(q.num.natAbs:Int))=q.num:=by rw[ez];rw[cb (by omega) (by omega)];omega
    have a5:cJ 45=45:=rfl
    have fm:(QB q).length+1<=20:=by rw[kb,aJ hz]at hl;simpa using hl
    have u_:¬(20:Int)<((QB q).length:Int)+1:=by omega
    have uc:(0:Int)<((QB q).length:Int)+1:=by omega
    simp(disch:=first|(simp;done)|omega|rfl) [-getElem?_pos,A.b41,hz,u_,uc,a3,a5,cO,az,g9,CL,LL,w1,a4,hn,e9]
    omega
   ·have ez:(q.num.natAbs:Int)=q.num:=by omega
    simp(disch:=first|(simp;done)|omega|rfl) [-getElem?_pos,A.b41,hz,ga,wh,Bp,Bo,cO,az,g9,CL,LL,w1,a4,hn,ez,e9]
  ·rw[aq e1]at xd
   have uV:=uV e1
   have LL:((aj q.num.natAbs).length:Int)<((QB q).length:Int):=by omega
   have g12:(aj q.num.natAbs).length<(QB q).length:=by omega
   have a6:∀st:St,oW st (some (.str (QB q))) (some (some (.int .i64 (((aj q.num.natAbs).length:Int)+1)))) (some none)=some (.str (aj q.den),st):=fun st=>by
    rw[Ah (by omega) (by omega)]
    have:(((aj q.num.natAbs).length:Int)+1).toNat=(aj q.num.natAbs).length+1:=by omega
    rw[this,uV]
   by_cases e10:q.den<1000000000
   ·have CL:¬(10:Int)<((QB q).length:Int)-((aj q.num.natAbs).length:Int):=by have:=h9d.2 e10;omega
    have hd:=hd e10
    by_cases hz:q.num<0
    ·have ez:(q.num.natAbs:Int)= -q.num:=by omega
     have w3:bb .i64 (0-(q.num.natAbs:Int))=q.num:=by rw[ez];rw[cb (by omega) (by omega)];omega
     have a5:cJ 45=45:=rfl
     have fm:(QB q).length+1<=20:=by rw[kb,aJ hz]at hl;simpa using hl
     have u_:¬(20:Int)<((QB q).length:Int)+1:=by omega
     have uc:(0:Int)<((QB q).length:Int)+1:=by omega
     simp(disch:=first|(simp;done)|omega|rfl) [-getElem?_pos,A.b41,hz,u_,uc,a3,a5,a6,cO,az,g9,CL,LL,w1,w2,a4,hn,hd,e9,e10]
     omega
    ·have ez:(q.num.natAbs:Int)=q.num:=by omega
     simp(disch:=first|(simp;done)|omega|rfl) [-getElem?_pos,A.b41,hz,ga,wh,Bp,Bo,a6,cO,az,g9,CL,LL,w1,w2,a4,hn,hd,ez,e9,e10]
   ·have CL:(10:Int)<((QB q).length:Int)-((aj q.num.natAbs).length:Int):=by
     have:¬(aj q.den).length<=9:=fun hc=>e10 (h9d.1 hc)
     omega
    by_cases hz:q.num<0
    ·have a5:cJ 45=45:=rfl
     have fm:(QB q).length+1<=20:=by rw[kb,aJ hz]at hl;simpa using hl
     have u_:¬(20:Int)<((QB q).length:Int)+1:=by omega
     have uc:(0:Int)<((QB q).length:Int)+1:=by omega
     simp(disch:=first|(simp;done)|omega|rfl) [-getElem?_pos,A.b41,hz,u_,uc,a3,a5,cO,az,g9,CL,w1,e9,e10]
    ·simp(disch:=first|(simp;done)|omega|rfl) [-getElem?_pos,A.b41,hz,ga,wh,Bp,Bo,cO,g9,CL,w1,e9,e10]
 ·have g9:(9:Int)<((aj q.num.natAbs).length:Int):=by
   have:¬(aj q.num.natAbs).length<=9:=fun hc=>e9 (h9.1 hc)
   omega
  by_cases hz:q.num<0
  ·have a5:cJ 45=45:=rfl
   have fm:(QB q).length+1<=20:=by rw[kb,aJ hz]at hl;simpa using hl
   have u_:¬(20:Int)<((QB q).length:Int)+1:=by omega
   have uc:(0:Int)<((QB q).length:Int)+1:=by omega
   simp(disch:=first|(simp;done)|omega|rfl) [-getElem?_pos,A.b41,hz,u_,uc,a3,a5,cO,az,g9,e9]
  ·simp(disch:=first|(simp;done)|omega|rfl) [-getElem?_pos,A.b41,hz,ga,wh,Bp,Bo,cO,g9,e9]
def Zxi{q:Rat}{st:St}(h1:20<(av q).length):A.C.call (.func 41 [] []) [.str (av q)] st=some (.aY [.int .i64 0,.int .i64 0,.bool false],st):=by
 have h2:(20:Int)<((av q).length:Int):=by omega
 apply Call.eq
 rw[aQ,A.k41 (by simp)]
 simp[A.b41,h2]
def Yc0{q:Rat}(h:q.num.natAbs<1000000000/\q.den<1000000000):(av q).length<=20:=by
 have h1:=LK.2 h.1
 have h2:=LK.2 h.2
 have h3:=Yir q
 rw[wj]
 split
 ·simp only[bf];split at h3<;>omega
 ·split at h3<;>omega
def Zvi{q:Rat}{st:St}:A.C.call (.func 41 [] []) [.str (av q)] st=some (if q.num.natAbs<1000000000/\q.den<1000000000 then .aY [.int .i64 q.num,.int .i64 q.den,.bool true] else .aY [.int .i64 0,.int .i64 0,.bool false],st):=by
 by_cases h:(av q).length<=20
 ·exact Yay h
 ·rw[aq fun hc=>h (Yc0 hc)]
  exact Zxi (by omega)
end
end Go.Mx
