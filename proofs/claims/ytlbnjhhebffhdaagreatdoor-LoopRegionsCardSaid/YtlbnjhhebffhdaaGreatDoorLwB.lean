/-num-/
import Derived.Test.YtlbnjhhebffhdaaGreatDoorLyA
set_option linter.all false
set_option maxHeartbeats 8000000
namespace Go.Mx
noncomputable section
open Go Go.Proofs
variable {a:Nat}
set_option maxRecDepth 1000000
def A.b67:=A.q Tryz.f67
def A.k67:=@A.kk 67 14 [.cell 4 (some 4)] A.b67 (by kernel_rfl) rfl
def A.NA:=A.q Tryz.f115
def A.vz:=A.ql A.NA 0 []
def A.b115:=(fun x0=>A.qb A.NA [x0]) A.vz
def A.k115:=@A.kk 115 23 [.cell 4 (some 4)] A.b115 (by kernel_rfl) rfl
def uf:((a:Nat):Rat).num=(a:Int)/\((a:Nat):Rat).den=1:=⟨Rat.num_natCast _,Rat.den_natCast _⟩
def BM{k:Nat}(h:a<2^k)(hk:1<=k):Qb k ((a:Nat):Rat):=⟨by rw[uf.1];simpa using h,by
 rw[uf.2]
 have:=Ywo (show 0<2 by decide) hk
 omega⟩
def Yn2{h:T O}{N k:Nat}{x:V}(hx:Fc h N x ((a:Nat):Rat))(ha:1<=a)(hk:k<1000)(la:wl a<1000)(hM:wl ((a^k:Nat):Int)<1000):Fn A.C 67 [x,.int .i64 k] h N (fun v h' n'=>Fc h' n' v ((a^k:Nat):Rat)):=by
 intro w
 obtain⟨n1,u1,n2,u2,rfl,s1,s2⟩:=hx
 rw[uf.1]at s1
 rw[uf.2]at s2
 have o1:=Zaj s1
 have o2:=Zaj s2
 unfold V.one at o1 o2
 have kB:ah h N ((h.set N (.cells [.int .i64 n1,u1,.int .i64 n2,u2] 102 true)).set (N+1) (.cells [.int .i64 0,.ziA,.int .i64 0,.ziA] 102 true)) (N+1+1):=(ah.refl.new _).new _
 have b0:((h.set N (.cells [.int .i64 n1,u1,.int .i64 n2,u2] 102 true)).set (N+1) (.cells [.int .i64 0,.ziA,.int .i64 0,.ziA] 102 true)).get N=some (.cells [.int .i64 n1,u1,.int .i64 n2,u2] 102 true):=by simp
 have b1:((h.set N (.cells [.int .i64 n1,u1,.int .i64 n2,u2] 102 true)).set (N+1) (.cells [.int .i64 0,.ziA,.int .i64 0,.ziA] 102 true)).get (N+1)=some (.cells [.int .i64 0,.ziA,.int .i64 0,.ziA] 102 true):=by simp
 have l2:wl (((1:Nat):Int))<10000000000:=by
  have:=(BM (a:=1) (k:=2) (by decide) (by decide)).eX.1
  rw[uf.1]at this
  omega
 have l1:wl (((1:Nat)^k:Nat):Int)<10000000000:=by rw[Nat.one_pow];exact l2
 generalize hM':a^k=M at*
 rw[aZ,A.k67 (by simp)]
 simp(disch:=first|(simp;done)|omega|rfl) [-getElem?_pos,A.b67,o1,o2,aI,aK]
 generalize (h.set N (.cells [.int .i64 n1,u1,.int .i64 n2,u2] 102 true)).set (N+1) (.cells [.int .i64 0,.ziA,.int .i64 0,.ziA] 102 true)=HB at*
 refine av (Yc1 (k:=k) (s1.ai kB) ha (by omega) (by omega) (by rw[hM'];omega)) ?_
 rintro v1 h1 m1 k1 t1
 rw[hM']at t1
 obtain⟨a1,x1,rfl,q1⟩:=t1.cells
 have b01:=(k1.get N (by omega)).trans b0
 have b11:=(k1.get (N+1) (by omega)).trans b1
 have xF:=k1.le
 have e0:N<m1:=by omega
 have e1:N+1<m1:=by omega
 simp(disch:=first|(simp;done)|omega|rfl) [-getElem?_pos,b01,e0,aI,aK]
 refine av (Yc1 (a:=1) (k:=k) ((s2.ai kB).ai k1) (by decide) (by omega) l2 l1) ?_
 rintro v2 h2 m2 k2 t2
 obtain⟨a2,x2,rfl,q2⟩:=t2.cells
 have b12:=(k2.get (N+1) e1).trans b11
 have oH:=k2.le
 have e2:N+1<m2:=by omega
 unfold V.one at q1 q2
 rw[Nat.one_pow]at t2
 simp(disch:=first|(simp;done)|omega|rfl) [-getElem?_pos,b12,e2,q1,q2,aI,aK,aj,bM,b_.chk,Ret]
 refine⟨((kB.trans k1).trans k2).set (by omega),a1,x1,a2,x2,rfl,?_,?_⟩
 ·rw[uf.1];exact(t1.ai k2).ay b12 nu0 rfl
 ·rw[uf.2];exact t2.ay b12 nu0 rfl
def Ybt{dec:Nat}(h:dec<=3):10^dec<=1000/\1<=10^dec:=⟨p9 (Ywo (by omega) h) (by decide),vu (by decide)⟩
def SH{i u:Nat}(hi:i<1048576)(hu:u<1048576)(h0:1<=u):Qb 40 ((i:Rat)/(u:Rat)):=by
 have a:=BM (a:=i) (k:=20) hi (by decide)
 have b:=BM (a:=u) (k:=20) hu (by decide)
 have u0:((u:Nat):Rat)≠0:=by
  intro hc
  have:=congrArg Rat.num hc
  rw[uf.1]at this
  simp at this
  omega
 rw[Rat.div_def]
 exact a.mul (b.inv u0)
def Ymq{h:T O}{N D dec:Nat}{g:bj}{l p:Rat}(ql:Qb 40 l)(qp:Qb 40 p)(hl:l<=1)(hp:0<=p)(eN:dec<=3)(hD:D<=6):Fn A.C 115 [.agg [.str g,.str (Zao l),.str (Zao p),.int .i64 D],.int .i64 dec] h N (fun x h' n'=>∃n,Su (Dk l p D (10^dec)) n/\n<=10001/\Fc h' n' x ((n:Rat)/((10^dec:Nat):Rat))):=by
 intro w
 have lO:∀c:List V,(V.agg c).cells=c:=fun _=>rfl
 have e0:zF=[V.int .i64 0,.ziA,.int .i64 0,.ziA]:=rfl
 obtain⟨u1,u2⟩:=Ybt eN
 have wp:wl ((10^dec:Nat):Int)<1000:=by
  have:=(BM (a:=10^dec) (k:=20) (by omega) (by decide)).eX.1
  rw[uf.1]at this
  omega
 have wt:wl ((10:Nat):Int)<1000:=by
  have:=(BM (a:=10) (k:=20) (by omega) (by decide)).eX.1
  rw[uf.1]at this
  omega
 have fp:∀{h':T O} {n':Nat} {x:V},Fc h' n' x ((10:Nat):Rat)->Fn A.C 67 [x,.int .i64 dec] h' n' (fun v h'' n''=>Fc h'' n'' v ((10^dec:Nat):Rat)):=fun f=>Yn2 f (by decide) (by omega) wt wp
 have hT0:=tU (show D+3<=9 by omega) u1
 generalize hgu:10^dec=U at*
 have kB:ah h N ((h.set N (.cells [.str g,.str (Zao l),.str (Zao p),.int .i64 D] 48 true)).set (N+1) (.cells [.int .i64 0,.ziA,.int .i64 0,.ziA] 102 true)) (N+1+1):=(ah.refl.new _).new _
 have b0:((h.set N (.cells [.str g,.str (Zao l),.str (Zao p),.int .i64 D] 48 true)).set (N+1) (.cells [.int .i64 0,.ziA,.int .i64 0,.ziA] 102 true)).get N=some (.cells [.str g,.str (Zao l),.str (Zao p),.int .i64 D] 48 true):=by simp
 have b1:((h.set N (.cells [.str g,.str (Zao l),.str (Zao p),.int .i64 D] 48 true)).set (N+1) (.cells [.int .i64 0,.ziA,.int .i64 0,.ziA] 102 true)).get (N+1)=some (.cells [.int .i64 0,.ziA,.int .i64 0,.ziA] 102 true):=by simp
 rw[aZ,A.k115 (by simp)]
 simp(disch:=first|(simp;done)|omega|rfl) [-getElem?_pos,A.b115,aI,aK]
 generalize (h.set N (.cells [.str g,.str (Zao l),.str (Zao p),.int .i64 D] 48 true)).set (N+1) (.cells [.int .i64 0,.ziA,.int .i64 0,.ziA] 102 true)=HB at*
 refine av (BI (z:=10) (by decide) (by decide)) ?_
 rintro v1 h1 n1 k1 f1
 have SI:Fc h1 n1 v1 ((10:Nat):Rat):=f1
 simp(disch:=first|(simp;done)|omega|rfl) [-getElem?_pos,]
 refine av (fp SI) ?_
 rintro _ h2 n2 k2 f2
 obtain⟨cu,rfl,fu⟩:=f2.c
 obtain⟨g1,g2⟩:=fu.len
 have e4:=BD (d:=zF) g1 rfl
 rw[e0]at e4
 have oH:=(k1.trans k2).le
 have b02:=((k1.trans k2).get N (by omega)).trans b0
 have b12:=((k1.trans k2).get (N+1) (by omega)).trans b1
 have kU:ah h2 n2 ((h2.set n2 (.cells [.int .i64 0,.ziA,.int .i64 0,.ziA] 102 true)).set n2 (.cells cu 102 true)) (n2+1):=(ah.refl.new _).set (Yv5 _)
 have gU:((h2.set n2 (.cells [.int .i64 0,.ziA,.int .i64 0,.ziA] 102 true)).set n2 (.cells cu 102 true)).get n2=some (.cells cu 102 true):=by simp
 have b03:=(kU.get N (by omega)).trans b02
 have b13:=(kU.get (N+1) (by omega)).trans b12
 have fu3:=fu.ai kU
 simp(disch:=first|(simp;done)|omega|rfl) [-getElem?_pos, -V.cells, -V.one,lO,g1,g2,bM,e4]
 generalize (h2.set n2 (.cells [.int .i64 0,.ziA,.int .i64 0,.ziA] 102 true)).set n2 (.cells cu 102 true)=H3 at*
 have K3:=(kB.trans (k1.trans k2)).trans kU
 have hT:(D+3)*U+1<=10001:=by omega
 have qu:=BM (a:=U) (k:=20) (by omega) (by decide)
 have u0:((U:Nat):Rat)≠0:=by
  intro hc
  have:=congrArg Rat.num hc
  rw[uf.1]at this
  simp at this
  omega
 have wu:=qu.eX
 have wv:=(qu.inv u0).eX
 have su:=Ia g1
 refine Zal [(6,6),(10,18)] (fun e r st=>e=.exit 0/\aL N st.w=[]/\ah H3 (n2+1) st.h st.n/\∃i:Nat,r.get 6=some (.int .i64 i)/\Su (Dk l p D U) i/\i<=10001) (fun m r st=>aL N st.w=[]/\ah H3 (n2+1) st.h st.n/\∃i:Nat,i+m=(D+3)*U+2/\1<=i/\r.get 6=some (.int .i64 i)/\∀j,1<=j->j<i->Dk l p D U j=true) ((D+3)*U+1) ?_ ?_ ?_
 ·exact⟨KY fun i hi=>by simp at hi;omega,ah.refl,1,by omega,by omega,by simp,fun j h1 h2=>by omega⟩
 ·rintro m r ⟨H,n,W⟩ hr hf ⟨hW,hK,i,hi,i1,h6,dM⟩
  simp only at hW hK
  rw[cn]
  have Nx:=hK.le
  have hm:1<=m:=by
   apply vD
   intro hc
   have:=Ykj hl hp (by omega) (dM ((D+3)*U+1) (by omega) (by omega))
   omega
  obtain⟨m,rfl⟩:∃m',m=m'+1:=⟨m-1,by omega⟩
  have b04:=(hK.get N (by omega)).trans b03
  have gU4:=(hK.get n2 (by omega)).trans gU
  have l04:N<n:=by omega
  have lU4:n2<n:=by omega
  have qi:=BM (a:=i) (k:=20) (by omega) (by decide)
  have wi:=qi.eX
  have qg:=SH (i:=i) (u:=U) (by omega) (by omega) u2
  simp(disch:=first|(simp;done)|omega|rfl) [-getElem?_pos, -V.cells, -V.one,A.vz,hr,hf,h6,b04,l04,aI,aK]
  refine av (BI (z:=(i:Int)) (by omega) (by omega)) ?_
  rintro v5 h5 n5 k5 f5
  have f5':Fc h5 n5 v5 ((i:Nat):Rat):=f5
  have gU5:=(k5.get n2 lU4).trans gU4
  have lU5:n2<n5:=by have:=k5.le;omega
  simp(disch:=first|(simp;done)|omega|rfl) [-getElem?_pos, -V.cells, -V.one,hr,gU5,lU5,su,aI]
  refine av (Zvr f5' ((fu3.ai hK).ai k5).up u0 (by omega) (by omega) (by omega) (by omega) (by omega) (by omega)) ?_
  rintro v6 h6' n6 k6 f6
  simp(disch:=first|(simp;done)|omega|rfl) [-getElem?_pos, -V.cells, -V.one]
  refine av (Zoj (gs:=g) f6 qg ql qp (by decide) hD) ?_
  rintro v7 h7 n7 k7 t7
  have Lf:=@xG ((i:Rat)/(U:Rat)) l p D
  have qc:=C9 (d:=D) qg ql qp (by decide)
  simp(disch:=first|(simp;done)|omega|rfl) [-getElem?_pos, -V.cells, -V.one]
  refine av (Zrw (k:=3*40+2) t7 (by rw[Lf.1];omega) (by rw[Lf.1];omega) (by rw[Lf.1];show pg _ (D+2)≠0;rw[Lf.2];decide) qc (by omega) (by rw[Lf.1];exact Yuc (by omega) hD)) ?_
  rintro _ h8 n8 k8 rfl
  have SJ:mW (aJ ((i:Rat)/(U:Rat)) l p D).length (aJ ((i:Rat)/(U:Rat)) l p D)=Dk l p D U i:=by rw[Lf.1];rfl
  have K8:=(((hK.trans k5).trans k6).trans k7).trans k8
  rw[SJ]
  cases hc:Dk l p D U i with
  |true=>
   simp(disch:=first|(simp;done)|omega|rfl) [-getElem?_pos,hr,hf,h6]
   exact⟨m,by omega,hW,K8,i+1,by omega,by omega,by simp,fun j j1 j2=>by
    by_cases e:j=i
    ·rw[e];exact hc
    ·exact dM j j1 (by omega)⟩
  |false=>
   simp(disch:=first|(simp;done)|omega|rfl) [-getElem?_pos,hr,hf,h6]
   exact⟨hW,K8,⟨i1,hc,dM⟩,by omega⟩
 ·rintro _ r ⟨H,n,W⟩ hr ⟨rfl,hW,hK,i,h6,zd1,hi⟩
  simp only at hW hK
  have Nx:=hK.le
  have gU4:=(hK.get n2 (by omega)).trans gU
  have b14:=(hK.get (N+1) (by omega)).trans b13
  have lU4:n2<n:=by omega
  have l14:N+1<n:=by omega
  have qi:=BM (a:=i) (k:=20) (by omega) (by decide)
  have wi:=qi.eX
  simp(disch:=first|(simp;done)|omega|rfl) [-getElem?_pos, -V.cells, -V.one,hr,h6]
  refine av (BI (z:=(i:Int)) (by omega) (by omega)) ?_
  rintro v5 h5 n5 k5 f5
  have f5':Fc h5 n5 v5 ((i:Nat):Rat):=f5
  have gU5:=(k5.get n2 lU4).trans gU4
  have lU5:n2<n5:=by have:=k5.le;omega
  simp(disch:=first|(simp;done)|omega|rfl) [-getElem?_pos, -V.cells, -V.one,hr,gU5,lU5,su,aI]
  refine av (Zvr f5' ((fu3.ai hK).ai k5).up u0 (by omega) (by omega) (by omega) (by omega) (by omega) (by omega)) ?_
  rintro _ h6' n6 k6 f6
  obtain⟨c6,rfl,fc6⟩:=f6.c
  obtain⟨p1,p2⟩:=fc6.len
  have e6:=BD (d:=zF) p1 rfl
  rw[e0]at e6
  have s6:=Ia p1
  have k56:=k5.trans k6
  have b16:=(k56.get (N+1) l14).trans b14
  have Sy:N+1<n6:=by have:=k56.le;omega
  simp(disch:=first|(simp;done)|omega|rfl) [-getElem?_pos, -V.cells, -V.one,hr,lO,p1,p2,bM,b16,Sy,e6,s6,aI,Ret]
  exact⟨by simpa using hW,((K3.trans hK).trans k56).set (by omega),i,zd1,hi,(fc6.ay b16 nu0 (by simp[p1])).up⟩
def Ybv{n:Nat}:Zao ((n:Nat):Rat)=aU (n:Int):=by
 unfold Zao
 rw[uf.1,uf.2]
 simp
def A.b39:=A.q Tryz.f39
def A.k39:=@A.kk 39 8 [.tmp 2] A.b39 (by kernel_rfl) rfl
def A.w40:=A.q Tryz.f40
def A.ui:=A.ql A.w40 0 []
def A.b40:=(fun x0=>A.qb A.w40 [x0]) A.ui
def A.k40:=@A.kk 40 62 [.tmp 2,.tmp 3] A.b40 (by kernel_rfl) rfl
def Zpt{q:Rat}{st:St}(hl:(Zao q).length<1000000000):A.C.call (.func 39 [] []) [.str (Zao q)] st=some (.bool (decide (q.den=1)),st):=by
 have hs:=fun st=>By (s:=Zao q) (st:=st) (by omega)
 have hle:=BN (Zao q)
 apply Call.eq
 rw[aZ,A.k39 (by simp)]
 by_cases h:q.den=1
 ·have e:ak (Zao q)=(Zao q).length:=by
   have h1:¬ak (Zao q)<(Zao q).length:=fun hx=>(yJ q).1 hx h
   omega
  simp(disch:=first|(simp;done)|omega|rfl) [-getElem?_pos,A.b39,hs,e,h,a_]
 ·have e:=(yJ q).2 h
  have e':¬(ak (Zao q):Int)=((Zao q).length:Int):=by omega
  have e2:¬ak (Zao q)=(Zao q).length:=by omega
  simp(disch:=first|(simp;done)|omega|rfl) [-getElem?_pos,A.b39,hs,e',e2,h,a_]
def Yg4{h:T O}{N n:Nat}(h0:1<=n)(hn:n<1000000):Fn A.C 40 [.str (Zao ((n:Nat):Rat))] h N (fun x _ _=>x=.aX [.int .i64 n,.bool true]):=by
 intro w
 have tl:(aq n).length<=6:=(yK (by decide)).2 (by omega)
 have td:aU (n:Int)=aq n:=by simp[aU]
 have tl2:(Zao ((n:Nat):Rat)).length<=6:=by rw[Ybv,td];exact tl
 have hw:=fun st=>Zpt (q:=((n:Nat):Rat)) (st:=st) (by omega)
 rw[uf.2]at hw
 have tc:¬(20:Int)<((Zao ((n:Nat):Rat)).length:Int):=by omega
 have dsn:ds n=[(n:Int)]:=by
  rw[xN (by omega),show n/1000000000=0 by omega,ry,show n%1000000000=n by omega]
 rw[aZ,A.k40 (by simp)]
 simp(disch:=first|(simp;done)|omega|rfl) [-getElem?_pos,A.b40,hw,tc]
 rw[Ybv]
 refine av (Znm (z:=(n:Int)) (by rw[td];omega)) ?_
 rintro v1 h1 n1 k1 hv
 obtain⟨u,rfl,o1,o2,o3⟩:=hv.p_
 obtain⟨u',e,hd⟩:=hv
 simp only[V.agg.injEq,iA,and_true,true_and]at e
 subst e
 rw[eA]at hd
 have R5:Sl h1 n1 u (dI (ds n)):=hd
 rw[dsn]at R5
 have ng:¬(n:Int)<0:=by omega
 have kA:ah h1 n1 ((h1.set n1 (.cells [.bool false,.ziA] 129 true)).set n1 (.cells [.bool false,u] 129 true)) (n1+1):=(ah.refl.new _).set (Yv5 _)
 have gA:((h1.set n1 (.cells [.bool false,.ziA] 129 true)).set n1 (.cells [.bool false,u] 129 true)).get n1=some (.cells [.bool false,u] 129 true):=by simp
 unfold V.one at o1
 unfold V.cells at o2
 simp(disch:=first|(simp;done)|omega|rfl) [-getElem?_pos,ng,o1,o2,aj,bM]
 generalize (h1.set n1 (.cells [.bool false,.ziA] 129 true)).set n1 (.cells [.bool false,u] 129 true)=HA at*
 have hs:=R5.ai kA
 have lu:=hs.len
 obtain⟨i,o,c,e,yL,q1,q2,q3,q4⟩:=hs.at (fY (l:=[(n:Int)]) (j:=0) (n:=(n:Int)) rfl)
 rw[mY]at q4
 simp(disch:=first|(simp;done)|omega|rfl) [-getElem?_pos,gA,lu]
 refine Zal [(2,3),(5,7),(22,60)] (fun e r st=>e=.exit 0/\aL N st.w=[]/\st.h=HA/\st.n=n1+1/\r.get 5=some (.int .i64 n)) (fun m r st=>aL N st.w=[]/\st.h=HA/\st.n=n1+1/\((m=1/\r.get 6=some (.int .i64 0)/\r.get 5=some (.int .i64 0))\/(m=0/\r.get 6=some (.int .i64 (-1))/\r.get 5=some (.int .i64 n)))) 1 ?_ ?_ ?_
 ·simp[aL,show ¬n1<N by have:=k1.le;omega]
 ·rintro m r ⟨H2,n2,W2⟩ hr hf ⟨hW,hH,eP,⟨rfl,h6,h5⟩|⟨rfl,h6,h5⟩⟩
  ·simp only at hW hH eP
   subst hH eP
   rw[cn]
   simp(disch:=first|(simp;done)|omega|rfl) [-getElem?_pos,A.ui,hr,hf,h5,h6,gA,lu,q1,q2,q3,q4]
   exact hW
  ·simp only at hW hH eP
   subst hH eP
   rw[cn]
   simp(disch:=first|(simp;done)|omega|rfl) [-getElem?_pos,A.ui,hr,hf,h5,h6]
   exact hW
 ·rintro _ r ⟨H2,n2,W2⟩ hr ⟨rfl,hW,hH,eP,h5⟩
  simp only at hW hH eP
  subst hH eP
  simp(disch:=first|(simp;done)|omega|rfl) [-getElem?_pos,hr,h5,Ret]
  exact⟨hW,k1.trans kA⟩
def A.b36:=A.q Tryz.f36
def A.k36:=@A.kk 36 22 [.tmp 4,.tmp 5] A.b36 (by kernel_rfl) rfl
def As(z:Int):Int:=if z<1\/2<z then 3 else 0
def Im(g l p:bj)(D z:Int):Int:=cN [gT g l p D,As z]
structure SK (g l p:bj) (D:Int):Prop where
 lg:g.length<=40
 ll:l.length<=40
 lp:p.length<=40
 q:gT g l p D=0->Qb 40 (aY g)/\Qb 40 (aY l)/\Qb 40 (aY p)
def SK.go{g l p:bj}{D z:Int}(H:SK g l p D)(c:Im g l p D z=0):∃(qg ql qp:Rat) (n m:Nat),g=Zao qg/\l=Zao ql/\p=Zao qp/\D=(n:Int)/\z=(m:Int)/\n<=6/\1<=m/\m<=2/\aY g=qg/\aY l=ql/\aY p=qp/\Qb 40 qg/\Qb 40 ql/\Qb 40 qp/\ql<=1/\0<=qp:=by
 obtain⟨c1,c2⟩:=HV c
 have hz:1<=z/\z<=2:=by
  unfold As at c2
  split at c2
  ·omega
  ·rename_i hc;omega
 obtain⟨m,rfl⟩:∃n:Nat,z=(n:Int):=⟨z.toNat,by omega⟩
 obtain⟨cg,cl,cp,dn,rfl,dl,_,_,x1,x2⟩:=Yt0 c1
 obtain⟨bg,bl,bp⟩:=H.q c1
 exact⟨aY g,aY l,aY p,dn,m,(kr cg).1.symm,(kr cl).1.symm,(kr cp).1.symm,rfl,rfl,dl,by omega,by omega,rfl,rfl,rfl,bg,bl,bp,Rat.not_lt.1 x1,Rat.not_lt.1 x2⟩
def Yc2{h:T O}{N:Nat}{g l p:bj}{D z:Int}(hP:j_ h N)(H:SK g l p D):Fn A.C 36 [.agg [.str g,.str l,.str p,.int .i64 D],.int .i64 z] h N (fun x _ _=>∃n:Nat,(Im g l p D z=0->Su (Dk (aY l) (aY p) D.toNat (10^z.toNat)) n/\n<=10001)/\Yvu x (Im g l p D z) ((n:Rat)/((10^z.toNat:Nat):Rat))):=by
 intro w
 have kB:ah h N (h.set N (.cells [.str g,.str l,.str p,.int .i64 D] 48 true)) (N+1):=ah.refl.new _
 have b0:(h.set N (.cells [.str g,.str l,.str p,.int .i64 D] 48 true)).get N=some (.cells [.str g,.str l,.str p,.int .i64 D] 48 true):=by simp
 rw[aZ,A.k36 (by simp)]
 obtain⟨U,hU⟩:∃U,10^z.toNat=U:=⟨_,rfl⟩
 rw[hU]
 simp(disch:=first|(simp;done)|omega|rfl) [-getElem?_pos,A.b36,aI,aK]
 generalize h.set N (.cells [.str g,.str l,.str p,.int .i64 D] 48 true)=HB at*
 refine av (Yf3 H.lg H.ll H.lp (by omega)) ?_
 rintro _ h2 n2 k2 rfl
 have hi:n2<n2+1:=by omega
 have kS:ah HB (N+1) (h2.set n2 (.cells [.int .i64 (gT g l p D),.int .i64 (As z)] 26 true)) (n2+1):=k2.trans (aO ah.refl _)
 have kD:=kB.trans kS
 have oH:=k2.le
 have b1:=(kS.get N (by omega)).trans b0
 have lN:N<n2+1:=by omega
 have we:∀st,A.C.call (.func 65 [] []) [.int .i64 z,.int .i64 1,.int .i64 2] st=some (.int .i64 (As z),st):=fun st=>Zm3
 simp(disch:=first|(simp;done)|omega|rfl) [-getElem?_pos,we,aj,b_.chk,Zup hi]
 generalize h2.set n2 (.cells [.int .i64 (gT g l p D),.int .i64 (As z)] 26 true)=H2 at*
 rw[show cN [gT g l p D,As z]=Im g l p D z from rfl]
 by_cases c:Im g l p D z=0
 ·obtain⟨qg,ql,qp,dn,m,rfl,rfl,rfl,rfl,rfl,hn,m1,m2,eg,el,ep,bg,bl,bp,l1,p0⟩:=H.go c
  rw[c,el,ep,Int.toNat_natCast]
  rw[Int.toNat_natCast]at hU
  have pf:=fun (h':T O) (n':Nat)=>Ymq (h:=h') (N:=n') (D:=dn) (dec:=m) (g:=Zao qg) bl bp l1 p0 (by omega) hn
  rw[hU]at pf
  simp(disch:=first|(simp;done)|omega|rfl) [-getElem?_pos,c,a_,b1,lN,aI,aK]
  refine av (pf _ _) ?_
  rintro v3 h3 n3 k3 ⟨n,hl,yM,f3⟩
  have K3:=kD.trans k3
  have u1:=(Ybt (dec:=m) (by omega))
  rw[hU]at u1
  have qn:=SH (i:=n) (u:=U) (by omega) (by omega) u1.2
  simp(disch:=first|(simp;done)|omega|rfl) [-getElem?_pos,]
  refine av (Ycq f3 (hP.ai K3) qn (by decide)) ?_
  rintro _ h4 n4 k4 rfl
  have K4:=K3.trans k4
  by_cases cb:vk ((n:Rat)/(U:Rat))=true
  ·simp(disch:=first|(simp;done)|omega|rfl) [-getElem?_pos,cb,Ret]
   exact⟨K4,n,⟨hl,yM⟩,.inr ⟨rfl,by rw[aR cb]⟩⟩
  ·simp(disch:=first|(simp;done)|omega|rfl) [-getElem?_pos,cb,Ret]
   exact⟨K4,n,⟨hl,yM⟩,.inr ⟨rfl,by rw[aA cb]⟩⟩
 ·simp(disch:=first|(simp;done)|omega|rfl) [-getElem?_pos,c,a_,Ret]
  exact⟨kD,0,.inl ⟨c,rfl⟩⟩
variable {K:Nat}
structure NB (A B:Nat) (q:Rat):Prop where
 num:q.num.natAbs<=A
 den:q.den<=B
def NB.txt{A B a b:Nat}{q:Rat}(h:NB A B q)(hA:A<10^a)(hB:B<10^b)(ha:0<a)(hb:0<b):(Zao q).length<=a+b+2:=by
 have h1:=(yK (n:=q.num.natAbs) ha).2 (oe h.num hA)
 have h2:=(yK (n:=q.den) hb).2 (oe h.den hB)
 have h3:(aU q.num).length<=(aq q.num.natAbs).length+1:=by
  unfold aU
  split<;>simp
 unfold Zao
 split
 ·omega
 ·simp
  omega
def NB.big{A B:Nat}{q:Rat}(h:NB A B q)(hA:A<10^600)(hB:B<10^600):vk q=false:=by
 have h1:=(yK (n:=q.num.natAbs) (k:=600) (by decide)).2 (oe h.num hA)
 have h2:=(yK (n:=q.den) (k:=600) (by decide)).2 (oe h.den hB)
 unfold vk
 simp
 omega
def Yud{c:Nat}(h:K<=3*c):2^K<=8^c:=p9 (Ywo (by decide) h) (Nat.le_of_eq (Nat.pow_mul 2 3 c))
def Ysb{c:Nat}(h:c≠0):8^c<10^c:=Nat.pow_lt_pow_left (by decide) h
def Yqa{c:Nat}{q:Rat}(h:Qb K q)(hK:K<=3*c)(hc:c≠0):q.num.natAbs<10^c/\q.den<10^c:=by
 have e:=oe (Yud hK) (Ysb hc)
 exact⟨Nat.lt_trans h.1 e,Nat.lt_trans h.2 e⟩
def NC{q:Rat}(h:Qb K q)(hK:K<=1800):vk q=false/\(Zao q).length<=1202:=by
 obtain⟨e1,e2⟩:=Yqa (c:=600) h (by omega) (by decide)
 have hb:NB q.num.natAbs q.den q:=⟨Yv5 _,Yv5 _⟩
 exact⟨hb.big e1 e2,by have:=hb.txt (a:=600) (b:=600) e1 e2 (by decide) (by decide);omega⟩
def Ye4:∀{l:List Int},(∀x∈l,x=0)->cN l=0
 |[],_=>rfl
 |x::l,h=>by
  rw[h x (by simp)]
  exact Ye4 (l:=l) fun y hy=>h y (by simp[hy])
variable {K N dn n:Nat} {h:T O} {qp x:Rat}
def A.yN:cC:=.seq (sr [mv 213 26,mv 214 24,bi 215 .leq 213 214]
 (cd 215
 (.skip)
 (.exit 2)))
 (.seq (.block 3 (.seq (.eY [lN 219 4 7,mv 220 26,ge 221 (.call (fq 30) [tq 220,.const (.int .i64 10)]),c2 222 33 219 221,c1 223 32 222,mv 218 223,xt 224 218 0,xt 225 218 1,mv 27 224,mv 28 225] [0,0,2,7,15,31,63,63,127,511])
 (.seq (sr [mv 226 28,ni 227 226 0,mv 228 227,mh 229 27 228,gz 230 228 (.call (fq 9) [tq 229]),gz 231 228 (.bin .neq (.zgf .int) true (tq 230) (kq 0)),pt 232 228 231]
 (cd 232
 (sr [ge 6 (.kv (.const (.bool false)))]
 (.ret))
 (.skip)))
 (sr [mv 234 27,c1 235 11 234,mv 233 235,xt 236 233 0,xt 237 233 1,mv 29 236,mv 30 237]
 (sr [mv 238 30,ni 239 238 0,mv 240 239,mh 241 29 240,mh 242 26 240,mh 243 24 240,gz 244 240 (.bin .lss (.node []) false (tq 242) (tq 243)),gz 245 240 (.bin .neq (.zgf .bool) false (tq 241) (tq 244)),pt 246 240 245]
 (cd 246
 (sr [ge 6 (.kv (.const (.bool false)))]
 (.ret))
 (.skip)))))))
 (.fk [mv 216 26,bc 217 .add 216 1,mv 26 217]))
def A.yO:cC:=sr [bi 127 .lss 126 125]
 (.seq (cd 127
 (.skip)
 (.exit 0))
 (.seq (.block 1 (sr [ia 128 1 124 126,ld 129 128,mv 16 129]
 (sr [lN 131 4 7,mv 132 16,c2 133 33 131 132,c1 134 32 133,mv 130 134,xt 135 130 0,xt 136 130 1,mv 17 135,mv 18 136]
 (.seq (sr [mv 137 18,ni 138 137 0,mv 139 138,mh 140 17 139,gz 141 139 (.call (fq 9) [tq 140]),gz 142 139 (.bin .neq (.zgf .int) true (tq 141) (kq 0)),pt 143 139 142]
 (cd 143
 (sr [ge 6 (.kv (.const (.bool false)))]
 (.ret))
 (.skip)))
 (sr [mv 145 17,c1 146 11 145,mv 144 146,xt 147 144 0,xt 148 144 1,mv 19 147,mv 20 148]
 (.seq (sr [mv 149 20,ni 150 149 0,mv 151 150,mh 152 11 151,mh 153 152 151,mg 154 19 153,gy 155 153 (.un .not (tq 154)),gz 156 151 (.pick (tq 153) (tq 155) (.const (.bool false))),pt 157 151 156]
 (cd 157
 (sr [ge 6 (.kv (.const (.bool false)))]
 (.ret))
 (.skip)))
 (sr [fa 158 1 3,ld 159 158,mv 160 16,c2 161 27 159 160,c1 162 34 161,mv 21 162]
 (sr [fa 163 3 3,ld 164 163,ei 165 164 0,mv 166 165,gy 167 166 (.ky 2 (tq 3)),gy 168 166 (.load none (tq 167)),gy 169 166 (.bin .eql (.zgf .str) true (tq 168) (.const (.str [48]))),pf 170 166 169,mv 171 170,mg 172 19 171,mg 173 21 171,gy 174 171 (.call (fq 35) [tq 173,(.const (.str [49]))]),gy 175 171 (.bin .lss (.node []) false (tq 174) (kq 0)),gy 176 171 (.bin .neq (.zgf .bool) false (tq 172) (tq 175)),pf 177 171 176]
 (cd 177
 (sr [ge 6 (.kv (.const (.bool false)))]
 (.ret))
 (.skip))))))))))
 (.fk [bc 178 .add 126 1,mv 126 178])))
def A.yP:cC:=sr [lN 180 4 3,ge 181 (.call (fq 36) [tq 180,.const (.int .i64 1)]),mv 179 181,xt 182 179 0,xt 183 179 1,mv 22 182,mv 23 183]
 (.seq (sr [mv 184 23,ni 185 184 0,mv 186 185,mh 187 22 186,gz 188 186 (.call (fq 37) [tq 187]),gz 189 186 (.bin .neq (.zgf .int) true (tq 188) (kq 0)),pt 190 186 189,mv 191 190,mh 192 22 191,gz 193 191 (.call (fq 38) [tq 192]),gz 194 191 (.bin .leq (.node []) false (tq 193) (kq 0)),pt 195 191 194,mv 196 195,mh 197 22 196,gz 198 196 (.call (fq 29) [tq 197,(.const (.str [49,48]))]),gz 199 196 (.call (fq 39) [tq 198]),gz 200 196 (.un .not (tq 199)),pt 201 196 200,mv 202 201,mh 203 22 202,gz 204 202 (.call (fq 35) [tq 203,(.const (.str [49,48]))]),gz 205 202 (.bin .gtr (.node []) false (tq 204) (kq 0)),pt 206 202 205]
 (cd 206
 (sr [ge 6 (.kv (.const (.bool false)))]
 (.ret))
 (.skip)))
 (sr [mv 208 22,ge 209 (.call (fq 29) [tq 208,(.const (.str [49,48]))]),c1 210 40 209,mv 207 210,xt 211 207 0,xt 212 207 1,mv 24 211,mv 25 212]
 (.seq (sr [mc 26 1]
 (.block 2 (.loop A.yN)))
 (sr [ge 6 (.kv (.const (.bool true)))]
 (.ret)))))
def A.yQ:cC:=.seq (sr [fa 118 0 4,ld 119 118,mv 120 9,mv 121 10,fa 122 1 4,ld 123 122,ge 124 (.kb 30 1 4 [(.str []),(.str []),(.str []),(.str [])] [(0,1,(tq 119)),(1,1,(tq 120)),(2,1,(tq 121)),(3,1,(tq 123))]),ln 125 124,mc 126 0]
 (.block 0 (.loop A.yO)))
 A.yP
def A.yR:cC:=sr [lN 92 4 3,lN 93 2 4,c2 94 31 92 93,mv 91 94,xt 95 91 0,xt 96 91 1,mv 11 95,mv 12 96]
 (sr [lN 98 4 3,mv 99 9,mv 100 10,ge 101 (.build [(.str []),(.str [])] [(0,1,(tq 99)),(1,1,(tq 100))]),c2 102 31 98 101,mv 97 102,xt 103 97 0,xt 104 97 1,mv 13 103,mv 14 104]
 (.seq (sr [mv 105 12,ni 106 105 0,mv 107 106,mh 108 14 107,gz 109 107 (.bin .neq (.zgf .int) true (tq 108) (kq 0)),pt 110 107 109,mv 111 110,mh 112 11 111,mh 113 112 111,mg 114 13 113,gy 115 113 (.un .not (tq 114)),gz 116 111 (.pick (tq 113) (tq 115) (.const (.bool false))),pt 117 111 116]
 (cd 117
 (sr [ge 6 (.kv (.const (.bool false)))]
 (.ret))
 (.skip)))
 A.yQ))
def A.b4:cC:=sr [bx 3 48 0,bx 4 32 1,bx 5 49 2,ge 6 (.kv (.const (.bool false)))]
 (sr [lN 31 4 3,ge 7 (.alloc [(.str []),(.str []),(.str []),.int .i64 0] 50),gn (.store 4 (tq 7) (tq 31))]
 (.seq (sr [ge 32 (.call (fq 7) []),ge 33 (.un .not (tq 32)),mv 34 33,gz 35 34 (.load (some 4) (tq 7)),gz 36 34 (.call (fq 24) [tq 35,.const (.int .i64 3),.const (.int .i64 2)]),gz 37 34 (.un .not (tq 36)),pt 38 34 37,mv 39 38,gz 40 39 (.ky 0 (tq 4)),gz 41 39 (.load none (tq 40)),gz 42 39 (.len 0 (tq 41)),gz 43 39 (.bin .gtr (.node []) false (tq 42) (kq 40)),pt 44 39 43,mv 45 44,gz 46 45 (.ky 1 (tq 4)),gz 47 45 (.load none (tq 46)),gz 48 45 (.len 0 (tq 47)),gz 49 45 (.bin .gtr (.node []) false (tq 48) (kq 40)),pt 50 45 49,mv 51 50,gz 52 51 (.load (some 2) (tq 4)),gz 53 51 (.call (fq 25) [tq 52]),gz 54 51 (.bin .neq (.zgf .int) true (tq 53) (kq 0)),pt 55 51 54,mv 56 55,gz 57 56 (.load (some 2) (tq 4)),gz 58 56 (.call (fq 26) [tq 57,.const (.int .i64 3)]),gz 59 56 (.un .not (tq 58)),pt 60 56 59]
 (cd 60
 (sr [ge 61 (.call (fq 7) []),mv 6 61]
 (.ret))
 (.skip)))
 (sr [fa 62 1 4,ld 63 62,fa 64 0 4,ld 65 64,c2 66 27 63 65,mv 8 66]
 (.seq (.eY [fa 67 0 4,ld 68 67,mv 69 8,ge 70 (.dB 2 1 (tq 5) (kq 0)),ld 71 70,ge 72 (.dB 2 1 (tq 5) (kq 1)),ld 73 72,ge 74 (.mn [tq 71,tq 73]),ge 75 (.zig .i64 (tq 74)),ge 76 (.call (fq 30) [tq 75,.const (.int .i64 255)]),c2 77 29 69 76,c2 78 28 68 77,mv 9 78] [0,1,0,0,8,0,32,120,248,504,1020,2047,4095])
 (.seq (.eY [fa 79 0 4,ld 80 79,mv 81 8,ge 82 (.dB 2 1 (tq 5) (kq 0)),ld 83 82,ge 84 (.dB 2 1 (tq 5) (kq 1)),ld 85 84,ge 86 (.mx [tq 83,tq 85]),ge 87 (.zig .i64 (tq 86)),ge 88 (.call (fq 30) [tq 87,.const (.int .i64 255)]),c2 89 29 81 88,c2 90 28 80 89,mv 10 90] [0,1,0,0,8,0,32,120,248,504,1020,2047,4095])
 A.yR)))))
def A.c4:A.F 4=some ⟨247,[.tmp 6],A.b4⟩:=by kernel_rfl
def A.k4:=@A.kk 4 _ _ _ A.c4 rfl
def Lg(M:Nat)(e:Ex)(fr:Fr)(st:St)(H:T O)(n:Nat):Prop:=e=.ret/\∃r,fr=⟨r,247,[]⟩/\r.get 6=some (.bool true)/\aL M st.w=[]/\ah H n st.h st.n
def Lg.trans{H H2:T O}{M n2:Nat}{e:Ex}{fr:Fr}{st:St}(s:Lg M e fr st H2 n2)(k:ah H n H2 n2):Lg M e fr st H n:=by
 obtain⟨h1,r,h2,h3,h4,h5⟩:=s
 exact⟨h1,r,h2,h3,h4,k.trans h5⟩
structure SL (qg ql qp a b:Rat) (dn:Nat):Prop where
 bg:Qb 10 qg
 bl:Qb 10 ql
 bp:Qb 10 qp
 ba:Qb 10 a
 bb:Qb 10 b
 d:dn<=2
 g0:0<=qg
 l0:0<=ql
 l1:ql<=1
 p0:0<=qp
 a0:0<=a
 ab:a<=b
def ND{q:Rat}(h:Qb K q)(hK:K<=1800):aV (Zao q)=0:=by rw[Yba,(NC h hK).1];rfl
def vE{q:Rat}(h:Qb 40 q):(Zao q).length<=40:=by
 have e:(2:Nat)^40<10^13:=by decide
 have h1:(aq q.num.natAbs).length<=13:=(yK (by decide)).2 (by have:=h.1;omega)
 have h2:(aq q.den).length<=13:=(yK (by decide)).2 (by have:=h.2;omega)
 have h3:(aU q.num).length<=14:=by
  unfold aU
  split
  ·simp
   omega
  ·omega
 unfold Zao
 split
 ·omega
 ·simp
  omega
def Ydl{q:Rat}(h:Qb K q)(hK:K<=1800)(h0:0<=q):iR (Zao q)=0:=by
 rw[iR,aR (ND h hK),og,aA (Rat.not_lt.2 h0)]
def Zv1{ql:Rat}(hx:Qb K x)(hl:Qb K ql)(hp:Qb K qp)(hK:K<=1800)(x0:0<=x)(l0:0<=ql)(l1:ql<=1)(p0:0<=qp)(hd:dn<=6):gT (Zao x) (Zao ql) (Zao qp) dn=0:=by
 have h0:∀y:Int,cN [0,y]=y:=fun y=>by
  by_cases h:y=0<;>simp[cN,h]
 rw[gT,Ydl hx hK x0,Ydl hl hK l0,Ydl hp hK p0,og,aA (Rat.not_lt.2 l1),aA (show ¬((dn:Int)<0\/6<(dn:Int)) by omega)]
 rfl
def Yrl{l:List Rat}(h:∀q∈l,Qb K q)(hK:K<=1800):BB l=false:=by
 unfold BB
 rw[List.any_eq_false]
 exact fun q hq=>by rw[(NC (h q hq) hK).1];decide
def Zw0{l:List Rat}:ziB (l.map Zao)=l:=by
 unfold ziB
 rw[List.map_map]
 conv=>rhs;rw[<-List.map_id l]
 exact Nj fun q _=>og q
def Zpz{ql:Rat}(hx:Qb K x)(hl:Qb K ql)(hp:Qb K qp)(h1:1<=K)(hK:K<=500)(hd:dn<=6):ks ((aJ x ql qp dn).map Zao)=0:=by
 have cl:=@xG x ql qp dn
 have qc:=C9 (d:=dn) hx hl hp h1
 have ca:gV ((aJ x ql qp dn).map Zao)=0:=by
  unfold gV
  refine Ye4 fun y hy=>?_
  obtain⟨s,hs,rfl⟩:=vo.1 hy
  obtain⟨q,hq,rfl⟩:=vo.1 hs
  rw[ND (qc q hq) (by omega)]
  rfl
 have vF:((aJ x ql qp dn).map Zao).length=dn+3:=by rw[Lh,cl.1]
 have e:((aJ x ql qp dn).map Zao)[dn+3-1]?=some (Zao 1):=by
  rw[jT,iy (by rw[cl.1];omega)]
  show some (Zao (pg _ (dn+2)))=_
  rw[cl.2]
 rw[ks,aA (by omega),aA (by omega),aR ca,vF,e,aA]
 intro h
 have:Zao 1=Zao 0:=by rw[xI];simpa using h
 exact absurd (Zh8 this) (by decide)
def Fn.imp{C:Cx}{f:Nat}{args:List V}{P Q:V->T O->Nat->Prop}(hf:Fn C f args h n P)(hi:∀v h' n',P v h' n'->Q v h' n'):Fn C f args h n Q:=fun w=>(hf w).mono fun v st=>by
 rintro⟨hw,hk,hp⟩
 exact⟨hw,hk,hi _ _ _ hp⟩
def Zp0{ql:Rat}(hP:j_ h N)(hx:Qb 40 x)(bl:Qb 40 ql)(bp:Qb 40 qp)(x0:0<=x)(l0:0<=ql)(l1:ql<=1)(p0:0<=qp)(hd:dn<=6):Fn A.C 32 [.agg [.str (Zao x),.str (Zao ql),.str (Zao qp),.int .i64 dn]] h N (fun v h' n'=>∃y,v=.aX [y,.int .i64 0]/\Sl h' n' y (strs ((aJ x ql qp dn).map Zao))):=by
 have ck:=Zv1 (dn:=dn) hx bl bp (by decide) x0 l0 l1 p0 hd
 have qc:=C9 (d:=dn) hx bl bp (by decide)
 refine Fn.imp (Ya9 hP (n:=40) (vE hx) (vE bl) (vE bp) (by decide)) fun v h' n' hv=>?_
 rw[og,og,og,Int.toNat_natCast,Yrl qc (by decide)]at hv
 rcases hv with⟨c,_⟩|⟨_,⟨c,_⟩|⟨_,y,hy,ht⟩⟩
 ·exact absurd ck c
 ·cases c
 ·exact⟨y,hy,ht.1⟩
def Zwn{y:V}{ql:Rat}(hy:Sl h N y (strs ((aJ x ql qp dn).map Zao)))(hx:Qb 40 x)(bl:Qb 40 ql)(bp:Qb 40 qp)(hd:dn<=2):Fn A.C 11 [y] h N (fun v _ _=>v=.aX [.bool (Ax x ql qp dn),.int .i64 0]):=by
 have qc:=C9 (d:=dn) hx bl bp (by decide)
 have cl:=@xG x ql qp dn
 have cc:=Zpz (dn:=dn) hx bl bp (by decide) (by decide) (by omega)
 have hl:((aJ x ql qp dn).map Zao).length=dn+3:=by rw[Lh,cl.1]
 have hp:5^(dn+3-1)<=5^4:=Ywo (by decide) (by omega)
 have h5:(5:Nat)^4=625:=by decide
 refine Fn.imp (Zza (k:=3*40+2) hy (by omega) (fun s hs=>?_) (by decide) (by decide) (fun _=>?_)) fun v h' n' hv=>?_
 ·obtain⟨q,hq,rfl⟩:=vo.1 hs
  have:=(NC (qc q hq) (by decide)).2
  omega
 ·rw[Zw0,hl]
  exact⟨qc,by omega⟩
 ·rw[hv,cc,Zw0,hl]
  rfl
def Ycx{y:V}{ql:Rat}(hy:Sl h N y (strs ((aJ x ql qp dn).map Zao)))(hx:Qb 40 x)(bl:Qb 40 ql)(bp:Qb 40 qp)(hd:dn<=6):Fn A.C 9 [y] h N (fun v _ _=>v=.int .i64 0):=by
 have qc:=C9 (d:=dn) hx bl bp (by decide)
 have cl:=@xG x ql qp dn
 have cc:=Zpz (dn:=dn) hx bl bp (by decide) (by decide) hd
 have hl:((aJ x ql qp dn).map Zao).length=dn+3:=by rw[Lh,cl.1]
 refine Fn.imp (Yp9 hy (by omega) (fun s hs=>?_)) fun v h' n' hv=>?_
 ·obtain⟨q,hq,rfl⟩:=vo.1 hs
  have:=(NC (qc q hq) (by decide)).2
  omega
 ·rw[hv,cc]
def Yke:Zao 10=[49,48]:=by decide+kernel
def Li:Zao 1=[49]:=by decide+kernel
def SM{i u:Nat}:Rat.divInt (i:Int) (u:Int)=(i:Rat)/(u:Rat):=by
 rw[Rat.divInt_eq_div]
 rfl
def Yp8{H:T O}{M B C:Nat}{W:List Nat}{r:T V}{qg ql a b:Rat}(L:SL qg ql qp a b dn)(hP:j_ H n)(hB:H.get B=some (.cells [.str (Zao qg),.str (Zao ql),.str (Zao qp),.int .i64 dn] 50 true))(Lj:B<n)(hC:H.get C=some (.cells [.str (Zao qg),.str (Zao ql),.str (Zao qp),.int .i64 dn] 48 true))(Dp:C<n)(hW:aL M W=[])(hMn:M<=n)(r3:r.get 3=some (.ptr C 0))(r7:r.get 7=some (.ptr B 0)):
  Code A.C none A.yP ⟨r,247,[]⟩ ⟨H,n,W⟩ (fun e fr st=>Lg M e fr st H n):=by
 rw[cn]
 have hd:=L.d
 have bl:Qb 40 ql:=L.bl.mono (by decide)
 have bp:Qb 40 qp:=L.bp.mono (by decide)
 have bg:Qb 40 qg:=L.bg.mono (by decide)
 have lm:SK (Zao qg) (Zao ql) (Zao qp) (dn:Int):=⟨vE bg,vE bl,vE bp,fun _=>by
  rw[og,og,og]
  exact⟨bg,bl,bp⟩⟩
 have ck0:=Zv1 (dn:=dn) bg bl bp (by decide) L.g0 L.l0 L.l1 L.p0 (by omega)
 have le0:Im (Zao qg) (Zao ql) (Zao qp) (dn:Int) 1=0:=by
  unfold Im
  rw[ck0]
  rfl
 simp(disch:=first|(simp;done)|omega|rfl) [-getElem?_pos,A.yP,r3,hC,Dp,aI,aK]
 refine av (Yc2 hP lm) ?_
 rintro x1 h1 N1 k1 ⟨m,i1,R1⟩
 obtain⟨i1,b1⟩:=i1 le0
 rw[le0]at R1
 rw[og,og,Int.toNat_natCast,show (1:Int).toNat=1 from rfl,show 10^1=10 from rfl]at i1
 rw[show (1:Int).toNat=1 from rfl,show 10^1=10 from rfl]at R1
 have m1:=i1.1
 have m51:=Yqv L.l1 L.p0 hd i1
 have qm:=SH (i:=m) (u:=10) (by omega) (by decide) (by decide)
 have Dq:Qb 40 (10:Rat):=(Qb.int (z:=10) (k:=40) (by decide) (by decide))
 have tl:=vE qm
 have x1e:x1=.aX [.str (Zao ((m:Rat)/((10:Nat):Rat))),.int .i64 0]:=by
  rcases R1 with⟨c,_⟩|⟨_,e⟩
  ·exact absurd rfl c
  ·rw[e,(NC qm (by decide)).1];rfl
 subst x1e
 have c10:((10:Nat):Rat)=10:=rfl
 have cm:(m:Rat)/((10:Nat):Rat)*10=(m:Rat):=by rw[c10];exact Rat.div_mul_cancel (by decide)
 have p0:(0:Rat)<(m:Rat):=by
  have:((0:Nat):Rat)<(m:Rat):=Rat.natCast_lt_natCast.2 (by omega)
  exact this
 have pm:(0:Rat)<(m:Rat)/((10:Nat):Rat):=by
  rw[c10]
  have h:=p0
  rw[<-cm,c10]at h
  grind
 have zfB:(m:Rat)/((10:Nat):Rat)<=10:=by
  rw[c10]
  have h:(m:Rat)<=((51:Nat):Rat):=Rat.natCast_le_natCast.2 m51
  have h51:((51:Nat):Rat)=51:=rfl
  rw[h51,<-cm,c10]at h
  grind
 have s1:¬sg3 ((m:Rat)/((10:Nat):Rat)).num<=0:=fun hc=>by
  have:=Yca.1 hc
  grind
 have s2:¬0<sg3 ((m:Rat)/((10:Nat):Rat)-10).num:=fun hc=>by
  have:=Ycb.1 hc
  grind
 have sg:=fun st=>HY (q:=(m:Rat)/((10:Nat):Rat)) (st:=st)
 have iw:=fun st=>Zpt (q:=((m:Nat):Rat)) (st:=st) (by rw[<-cm];have:=SN (qm.mul Dq);rw[cm]at this ⊢;omega)
 rw[uf.2]at iw
 have nq:=BM (a:=m) (k:=40) (by omega) (by decide)
 have xF:=k1.le
 generalize hq:(m:Rat)/((10:Nat):Rat)=q at*
 simp(disch:=first|(simp;done)|omega|rfl) [-getElem?_pos,a_]
 refine av (SO (by omega)) ?_
 rintro _ h2 N2 k2 rfl
 rw[ND qm (by decide)]
 simp(disch:=first|(simp;done)|omega|rfl) [-getElem?_pos,a_,sg,s1]
 rw[<-Yke]
 refine av (SP qm Dq (by decide) (by decide)) ?_
 rintro _ h3 N3 k3 rfl
 rw[cm]
 simp(disch:=first|(simp;done)|omega|rfl) [-getElem?_pos,iw]
 refine av (KX qm Dq (by decide) (by decide) (by rw[Yke];decide)) ?_
 rintro _ h4 N4 k4 rfl
 simp(disch:=first|(simp;done)|omega|rfl) [-getElem?_pos,s2]
 refine av (SP qm Dq (by decide) (by decide)) ?_
 rintro _ h5 N5 k5 rfl
 rw[cm]
 simp(disch:=first|(simp;done)|omega|rfl) [-getElem?_pos,]
 refine av (Yg4 m1 (by omega)) ?_
 rintro _ h6 N6 k6 rfl
 have K6:=(((((k1.trans k2).trans k3).trans k4).trans k5).trans k6)
 have le6:=K6.le
 have hB6:=(K6.get B Lj).trans hB
 have zd2:B<N6:=by omega
 have hP6:=hP.ai K6
 simp(disch:=first|(simp;done)|omega|rfl) [-getElem?_pos,]
 refine Zal [(6,6),(26,30),(213,246)] (fun e r st=>e=.exit 2/\aL M st.w=[]/\ah h6 N6 st.h st.n) (fun j r st=>aL M st.w=[]/\ah h6 N6 st.h st.n/\∃i:Nat,i+j=m+1/\1<=i/\r.get 26=some (.int .i64 i)) m ?_ ?_ ?_
 ·exact⟨by simpa using hW,ah.refl,1,by omega,by omega,by simp⟩
 ·rintro j r' ⟨HI,nI,WI⟩ hr hf ⟨vw,n_,i,hij,i0,SQ⟩
  simp only at vw n_
  rw[cn]
  have leI:=n_.le
  by_cases hi:i<=m
  ·have gZ:(i:Int)<=(m:Int):=by omega
   have hBI:=(n_.get B zd2).trans hB6
   have zd3:B<nI:=by omega
   have qi:=SH (i:=i) (u:=10) (by omega) (by decide) (by decide)
   have qi0:(0:Rat)<=(i:Rat)/((10:Nat):Rat):=by
    have h1:((0:Nat):Rat)<=(i:Rat):=Rat.natCast_le_natCast.2 (by omega)
    have h0:((0:Nat):Rat)=0:=rfl
    rw[h0]at h1
    rw[c10]
    grind
   have of:∀st:St,A.C.call (.func 30 [] []) [.int .i64 (i:Nat),.int .i64 10] st=some (.str (Zao ((i:Rat)/((10:Nat):Rat))),st):=fun st=>by
    rw[<-SM]
    exact SR (a:=(i:Int)) (m:=10) (by decide) (by omega) (by omega) (by decide)
   have ti:=vE qi
   generalize hx:(i:Rat)/((10:Nat):Rat)=x at*
   simp(disch:=first|(simp;done)|omega|rfl) [-getElem?_pos,A.yN,hr,hf,SQ,gZ,r7,hBI,zd3,of,aI,aK]
   refine av (Ybp (g:=Zao qg) (l:=Zao ql) (p:=Zao qp) (D:=(dn:Int)) (x:=Zao x)) ?_
   rintro _ h7 N7 k7 rfl
   simp(disch:=first|(simp;done)|omega|rfl) [-getElem?_pos,]
   refine av (Zp0 (hP6.ai (n_.trans k7)) qi bl bp qi0 L.l0 L.l1 L.p0 (by omega)) ?_
   rintro _ h8 N8 k8 ⟨y,rfl,sy⟩
   simp(disch:=first|(simp;done)|omega|rfl) [-getElem?_pos,a_]
   refine av (Ycx sy qi bl bp (by omega)) ?_
   rintro _ h9 N9 k9 rfl
   simp(disch:=first|(simp;done)|omega|rfl) [-getElem?_pos,a_]
   refine av (Zwn (sy.ai k9) qi bl bp hd) ?_
   rintro _ xO N10 k10 rfl
   have KJ:=(((n_.trans k7).trans k8).trans k9).trans k10
   by_cases aW:i<m
   ·have dM:Ax x ql qp dn=true:=by rw[<-hx];exact i1.2.2 i i0 aW
    have zij:(i:Int)<(m:Int):=by omega
    rw[dM]
    simp(disch:=first|(simp;done)|omega|rfl) [-getElem?_pos,a_,hr,hf,SQ,aW,zij]
    exact⟨j-1,by omega,vw,KJ,i+1,by omega,by omega,by simp⟩
   ·obtain rfl:i=m:=by omega
    have dM:Ax x ql qp dn=false:=by rw[<-hx];exact i1.2.1
    rw[dM]
    simp(disch:=first|(simp;done)|omega|rfl) [-getElem?_pos,a_,hr,hf,SQ]
    exact⟨j-1,by omega,vw,KJ,i+1,by omega,by omega,by simp⟩
  ·have gZ:¬(i:Int)<=(m:Int):=by omega
   simp(disch:=first|(simp;done)|omega|rfl) [-getElem?_pos,A.yN,hr,hf,SQ,gZ]
   exact⟨vw,n_⟩
 ·rintro _ r' ⟨HI,nI,WI⟩ hr ⟨rfl,vw,n_⟩
  simp only at vw n_
  simp(disch:=first|(simp;done)|omega|rfl) [-getElem?_pos,hr]
  exact⟨rfl,_,rfl,by simp,vw,K6.trans n_⟩
end
end Go.Mx
