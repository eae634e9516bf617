/-loop-/
import Derived.Test.YtgnadghjglamaaaGreatDoorLpF
set_option linter.all false
set_option maxHeartbeats 4000000
namespace Go.Mx
noncomputable section
open Go Go.Proofs
variable {N z:Nat} {h h':T O} {l:List (List V)} {u v:V}
set_option maxRecDepth 1000000
def A.w71:=A.q Tryz.f71
def A.lb71_0:=A.ql A.w71 0 []
def A.b71:=(fun x0=>A.qb A.w71 [x0]) A.lb71_0
def A.k71:=@A.kk 71 74 [.tmp 4,.tmp 5] A.b71 (by kernel_rfl) rfl
def Own.lt{e:TypeId}{N0:Nat}(s:Own z e N0 h N v l):∀i∈Zel v,N0≤i∧i<N:=fun i hi=>by
 obtain⟨_,⟨_,rfl⟩|⟨j,rfl,h1,h2,_⟩⟩:=s
 ·simp[Zel]at hi
 ·simp[Zel]at hi
  subst hi
  exact⟨h1,h2⟩
def Own.upd{e:TypeId}{N0:Nat}{N':Nat}{D:Nat→Prop}(s:Own z e N0 h N v l)(k:Upd D h N h' N')(hd:∀i∈Zel v,¬D i):Own z e N0 h' N' v l:=by
 obtain⟨hl,s|⟨i,rfl,h2,h3,h4⟩⟩:=s
 ·exact⟨hl,.inl s⟩
 ·exact⟨hl,.inr ⟨i,rfl,h2,Yr5 h3 k.le,(k.get i h3 (hd i (by simp[Zel]))).trans h4⟩⟩
def FrT.setR{R:Nat}{l:List Rat}{us vs:List V}{e:TypeId}{b c:Bool}(s:FrT h N u l)(g:h.get R=some (.cells us e b))(he:e≠110)(hn:NoU us)(hl:vs.length=us.length):FrT (h.set R (.cells vs e c)) N u l:=by
 have hne:∀i∈Zel u,i≠R:=fun i hi hc=>by
  obtain⟨z,w,hz⟩:=s.2 i hi
  rw[hc,g]at hz
  simp at hz
  exact he hz.2.1
 obtain⟨cs,h1,h2,h3⟩:=s.1
 have k:Upd (fun i=>i=R) h N (h.set R (.cells vs e c)) N:=⟨Yru _,fun i _ hi=>by rw[T.get_set,Yrt hi]⟩
 refine⟨⟨cs,h1.moved k hne,h2,fun j q hq=>?_⟩,fun i hi=>?_⟩
 ·obtain⟨x,g1,g2⟩:=h3 j q hq
  exact⟨x,g1,g2.setNU g hn hl⟩
 ·rw[T.get_set,Yrt (hne i hi)]
  exact s.2 i hi
def Yar{e:TypeId}{N0:Nat}{bytes:Nat}{v':V}{x:List V}{w w':List Nat}(s:Own z e N0 h N v l)(hu:Za0 ⟨h,N,w⟩ z u=some (1,x))(f:Zbi ⟨h,N,w⟩ z bytes e v u=some (v',⟨h',N+1,w'⟩)):Zel v'=[N]:=by
 obtain⟨hl,⟨rfl,rfl⟩|⟨i,rfl,_,_,g⟩⟩:=s
 ·simp only[Zbi,hu]at f
  rw[Yrt (by decide)]at f
  split at f
  ·simp only[Yrs,Yrv]at f
   rw[←f.1];rfl
  ·cases f
 ·simp only[Zbi,hu,St.row,g]at f
  rw[Yrt (by decide)]at f
  split at f
  ·cases f
  ·rename_i h1
   simp only[if_true]at f
   split at f
   ·rename_i h2
    rw[Zbd hl,Ysv]at h2
    omega
   ·simp at f
    rw[←f.2.1];rfl
def Yhl{e:TypeId}{N0:Nat}{bytes:Nat}{v':V}{x:List V}{w w':List Nat}(s:Own z e N0 h N v l)(hu:Za0 ⟨h,N,w⟩ z u=some (1,x))(f:Zbi ⟨h,N,w⟩ z bytes e v u=some (v',⟨h',N+1,w'⟩)):∀i∈w',i∈Zel v∨i∈w:=by
 obtain⟨hl,⟨rfl,rfl⟩|⟨i,rfl,_,_,g⟩⟩:=s
 ·simp only[Zbi,hu]at f
  rw[Yrt (by decide)]at f
  split at f
  ·simp only[Yrs,Yrv,St.alloc,St.mk.injEq]at f
   rw[←f.2.2.2]
   intro j hj;exact .inr hj
  ·cases f
 ·simp only[Zbi,hu,St.row,g]at f
  rw[Yrt (by decide)]at f
  split at f
  ·cases f
  ·rename_i h1
   simp only[if_true]at f
   split at f
   ·rename_i h2
    rw[Zbd hl,Ysv]at h2
    omega
   ·simp at f
    rw[←f.2.2.2]
    intro j hj
    rcases Yss.1 hj with rfl|hj
    ·exact .inl (by simp[Zel])
    ·exact .inr hj
def Ybr{x:Nat}{l:List Nat}(h:∀i∈l,i≠x):Zj2 l (some [x])=false:=by
 unfold Zj2
 rw[List.any_eq_false]
 intro i hi
 simpa using h i hi
def Ya5{o:Option (List Nat)}:Zj2 [] o=false:=by cases o<;>rfl
structure RnI (kk:Nat) (N n0 E B:Nat) (g l p:Rat) (D:Nat) (d:List Rat) (k:Nat) (H:T O) (n:Nat) (ve vu:V) (cn:List V):Prop where
 oe:∃out:List (List V),Own 4 110 n0 H n ve out∧out.length=k∧(out=[]→ve=.nilslice)∧(∀c∈out,∀y∈c,NW y)∧∀j,j<k→∃c,out[j]?=some c∧FcC H n c (pg (Zdt g l p D d k).1 j)
 ou:∃out:List (List V),Own 4 110 n0 H n vu out∧out.length=k∧(out=[]→vu=.nilslice)∧(∀c∈out,∀y∈c,NW y)∧∀j,j<k→∃c,out[j]?=some c∧FcC H n c (pg (Zdt g l p D d k).2.1 j)
 dj:∀i∈Zel ve,i∉Zel vu
 gE:H.get E=some (.cells [ve] 100 true)
 gB:H.get B=some (.cells cn 110 true)
 fB:FcC H n cn (Zdt g l p D d k).2.2
def Yao{g l p:Rat}{D kc kd K:Nat}{d:List Rat}(hd:FrT h N v d)(qg:Qb kc g)(ql:Qb kc l)(qp:Qb kc p)(qd:∀q∈d,Qb kd q)(hkc:kc≤4000)(hD:D≤6)(hl:d.length<1000)(hK:(3*kc+3)*d.length+kd*(d.length+1)+2≤K)(hK2:K≤10000000)(hkd:kd≤10000000):Fn A.C 71 [.agg [.str (Zas g),.str (Zas l),.str (Zas p),.int .i64 D],v] h N (fun x h' n'=>∃a b,x=.tup [a,b]∧FrT h' n' a (runE g l p D d)∧FrT h' n' b (Zw5 g l p D d)):=by
 intro w
 have hcc:∀c:List V,(V.agg c).cells=c:=fun _=>rfl
 have lv:=hd.1.len
 have kB:Keeps h N (h.set N (.cells [.str (Zas g),.str (Zas l),.str (Zas p),.int .i64 D] 24 true)) (N+1):=Keeps.refl.new _
 have b0:(h.set N (.cells [.str (Zas g),.str (Zas l),.str (Zas p),.int .i64 D] 24 true)).get N=some (.cells [.str (Zas g),.str (Zas l),.str (Zas p),.int .i64 D] 24 true):=by simp
 rw[Zaf,A.k71 (by simp)]
 simp(disch:=first|(simp;done)|omega|rfl) [-getElem?_pos,A.b71,Zaj,slc]
 generalize h.set N (.cells [.str (Zas g),.str (Zas l),.str (Zas p),.int .i64 D] 24 true)=hB at*
 refine Zac (Zha qg (by omega)) ?_
 rintro _ h1 n1 k1 hg1
 obtain⟨cg,rfl,fg⟩:=hg1.c
 obtain⟨g1,g2⟩:=fg.len
 have le1:=k1.le
 have b1:=(k1.get N (by omega)).trans b0
 have l1:N<n1:=by omega
 simp(disch:=first|(simp;done)|omega|rfl) [-getElem?_pos,b1,l1]
 refine Zac (Zha ql (by omega)) ?_
 rintro _ h2 n2 k2 hg2
 obtain⟨cl,rfl,fl⟩:=hg2.c
 obtain⟨g3,g4⟩:=fl.len
 have le2:=k2.le
 have b2:=(k2.get N (by omega)).trans b1
 have l2:N<n2:=by omega
 simp(disch:=first|(simp;done)|omega|rfl) [-getElem?_pos,b2,l2]
 refine Zac (Zha qp (by omega)) ?_
 rintro _ h3 n3 k3 hg3
 obtain⟨cp,rfl,fp⟩:=hg3.c
 obtain⟨g5,g6⟩:=fp.len
 have le3:=k3.le
 have b3:=(k3.get N (by omega)).trans b2
 have l3:N<n3:=by omega
 have e4:=Zjm (d:=zF) g1 rfl
 have e5:=Zjm (d:=zF) g3 rfl
 have e6:=Zjm (d:=zF) g5 rfl
 have e0:zF=[V.int .i64 0,.nilslice,.int .i64 0,.nilslice]:=rfl
 rw[e0]at e4 e5 e6
 simp(disch:=first|(simp;done)|omega|rfl) [-getElem?_pos, -V.cells, -V.one,hcc,g1,g2,g3,g4,g5,g6,Zam,e4,e5,e6]
 have kC:Keeps h3 n3 (((((((h3.set n3 (.cells [.int .i64 0,.nilslice,.int .i64 0,.nilslice] 110 true)).set (n3+1) (.cells [.int .i64 0,.nilslice,.int .i64 0,.nilslice] 110 true)).set (n3+1+1) (.cells [.int .i64 0,.nilslice,.int .i64 0,.nilslice] 110 true)).set n3 (.cells cg 110 true)).set (n3+1) (.cells cl 110 true)).set (n3+1+1) (.cells cp 110 true)).set (n3+1+1+1) (.cells [.nilslice] 100 true)) (n3+1+1+1+1):=((((((Keeps.refl.new _).new _).new _).set (by omega)).set (by omega)).set (by omega)).new _
 have gG:(((((((h3.set n3 (.cells [.int .i64 0,.nilslice,.int .i64 0,.nilslice] 110 true)).set (n3+1) (.cells [.int .i64 0,.nilslice,.int .i64 0,.nilslice] 110 true)).set (n3+1+1) (.cells [.int .i64 0,.nilslice,.int .i64 0,.nilslice] 110 true)).set n3 (.cells cg 110 true)).set (n3+1) (.cells cl 110 true)).set (n3+1+1) (.cells cp 110 true)).set (n3+1+1+1) (.cells [.nilslice] 100 true)).get n3=some (.cells cg 110 true):=by simp
 have gK:(((((((h3.set n3 (.cells [.int .i64 0,.nilslice,.int .i64 0,.nilslice] 110 true)).set (n3+1) (.cells [.int .i64 0,.nilslice,.int .i64 0,.nilslice] 110 true)).set (n3+1+1) (.cells [.int .i64 0,.nilslice,.int .i64 0,.nilslice] 110 true)).set n3 (.cells cg 110 true)).set (n3+1) (.cells cl 110 true)).set (n3+1+1) (.cells cp 110 true)).set (n3+1+1+1) (.cells [.nilslice] 100 true)).get (n3+1)=some (.cells cl 110 true):=by simp
 have gP:(((((((h3.set n3 (.cells [.int .i64 0,.nilslice,.int .i64 0,.nilslice] 110 true)).set (n3+1) (.cells [.int .i64 0,.nilslice,.int .i64 0,.nilslice] 110 true)).set (n3+1+1) (.cells [.int .i64 0,.nilslice,.int .i64 0,.nilslice] 110 true)).set n3 (.cells cg 110 true)).set (n3+1) (.cells cl 110 true)).set (n3+1+1) (.cells cp 110 true)).set (n3+1+1+1) (.cells [.nilslice] 100 true)).get (n3+1+1)=some (.cells cp 110 true):=by simp
 have gE:(((((((h3.set n3 (.cells [.int .i64 0,.nilslice,.int .i64 0,.nilslice] 110 true)).set (n3+1) (.cells [.int .i64 0,.nilslice,.int .i64 0,.nilslice] 110 true)).set (n3+1+1) (.cells [.int .i64 0,.nilslice,.int .i64 0,.nilslice] 110 true)).set n3 (.cells cg 110 true)).set (n3+1) (.cells cl 110 true)).set (n3+1+1) (.cells cp 110 true)).set (n3+1+1+1) (.cells [.nilslice] 100 true)).get (n3+1+1+1)=some (.cells [.nilslice] 100 true):=by simp
 generalize ((((((h3.set n3 (.cells [.int .i64 0,.nilslice,.int .i64 0,.nilslice] 110 true)).set (n3+1) (.cells [.int .i64 0,.nilslice,.int .i64 0,.nilslice] 110 true)).set (n3+1+1) (.cells [.int .i64 0,.nilslice,.int .i64 0,.nilslice] 110 true)).set n3 (.cells cg 110 true)).set (n3+1) (.cells cl 110 true)).set (n3+1+1) (.cells cp 110 true)).set (n3+1+1+1) (.cells [.nilslice] 100 true)=HC at*
 refine Zac (Zt9 (z:=0) (by decide) (by decide)) ?_
 rintro _ h4 n4 k4 hz4
 obtain⟨c0,rfl,f0⟩:=hz4.c
 obtain⟨g7,g8⟩:=f0.len
 have e7:=Zjm (d:=zF) g7 rfl
 rw[e0]at e7
 have kD:Keeps h4 n4 ((h4.set n4 (.cells [.int .i64 0,.nilslice,.int .i64 0,.nilslice] 110 true)).set n4 (.cells c0 110 true)) (n4+1):=(Keeps.refl.new _).set (Yru _)
 have gB:((h4.set n4 (.cells [.int .i64 0,.nilslice,.int .i64 0,.nilslice] 110 true)).set n4 (.cells c0 110 true)).get n4=some (.cells c0 110 true):=by simp
 simp(disch:=first|(simp;done)|omega|rfl) [-getElem?_pos, -V.cells, -V.one,hcc,g7,g8,Zam,e7,lv]
 generalize (h4.set n4 (.cells [.int .i64 0,.nilslice,.int .i64 0,.nilslice] 110 true)).set n4 (.cells c0 110 true)=H0 at*
 have le4:=k4.le
 obtain⟨G1,hG1⟩:∃G,G=n3:=⟨_,rfl⟩
 have KC:=((kB.trans k1).trans k2).trans k3
 have K0:=((KC.trans kC).trans k4).trans kD
 have k34:=(kC.trans k4).trans kD
 have k4D:=k4.trans kD
 have m0:=(k34.get N (by omega)).trans b3
 have mG:=(k4D.get n3 (by omega)).trans gG
 have mK:=(k4D.get (n3+1) (by omega)).trans gK
 have mP:=(k4D.get (n3+1+1) (by omega)).trans gP
 have mE:=(k4D.get (n3+1+1+1) (by omega)).trans gE
 have wG:=((fg.keep k2).keep k3).keep k34
 have wK:=(fl.keep k3).keep k34
 have wP:=fp.keep k34
 have w0:=f0.keep kD
 refine Zak [(10,10),(13,16),(30,71)] (fun e r st=>e=.exit 0∧Zae N st.w=[]∧Keeps h N st.h st.n∧n4<st.n∧∃ve vu cn,r.get 10=some vu∧RnI K N (n4+1) (n3+1+1+1) n4 g l p D d d.length st.h st.n ve vu cn) (fun m r st=>Zae N st.w=[]∧Keeps h N st.h st.n∧n4<st.n∧st.h.get N=some (.cells [.str (Zas g),.str (Zas l),.str (Zas p),.int .i64 D] 24 true)∧st.h.get n3=some (.cells cg 110 true)∧st.h.get (n3+1)=some (.cells cl 110 true)∧st.h.get (n3+1+1)=some (.cells cp 110 true)∧FcC st.h st.n cg g∧FcC st.h st.n cl l∧FcC st.h st.n cp p∧∃t,t+m=d.length∧r.get 30=some (.int .i64 t)∧∃vu,r.get 10=some vu∧∃ve cn,RnI K N (n4+1) (n3+1+1+1) n4 g l p D d t st.h st.n ve vu cn) d.length ?_ ?_ ?_
 ·exact⟨Zm0 fun i hi=>by simp at hi;omega,K0,by show n4<n4+1;omega,m0,mG,mK,mP,wG,wK,wP,0,by omega,by simp,.nilslice,by simp,.nilslice,c0,⟨[],Own.nil,rfl,fun _=>rfl,by simp,fun j hj=>by omega⟩,⟨[],Own.nil,rfl,fun _=>rfl,by simp,fun j hj=>by omega⟩,by simp[Zel],mE,gB,w0⟩
 ·rintro m r ⟨H,n1,W⟩ hr hf ⟨hW,hK',hn1,m0,mG,mK,mP,wG,wK,wP,t,ht,h30,vu,h10,ve,cn,hI⟩
  simp only at hW hK' hn1 m0 mG mK mP wG wK wP hI
  rw[Zai]
  cases m with
  |zero=>
   obtain rfl:t=d.length:=by omega
   simp(disch:=first|(simp;done)|omega|rfl) [-getElem?_pos,A.lb71_0,hr,hf,h30,h10,hW,hK',hn1]
   exact⟨ve,cn,hI⟩
  |succ m=>
   have hlt:t<d.length:=by omega
   have hlt':(t:Int)<(d.length:Int):=by omega
   obtain⟨i0,o0,y0,z0,q0,cx,b1,b2,b3,b4,b5⟩:=(hd.keep hK').1.at (Zbk (p:=d) (i:=t) hlt)
   obtain⟨f1,f2⟩:=b5.len
   have ex:=Zjm (d:=zF) f1 rfl
   rw[e0]at ex
   have kX:Keeps H n1 ((H.set n1 (.cells [.int .i64 0,.nilslice,.int .i64 0,.nilslice] 110 true)).set n1 (.cells cx 110 true)) (n1+1):=(Keeps.refl.new _).set (Yru _)
   have gX:((H.set n1 (.cells [.int .i64 0,.nilslice,.int .i64 0,.nilslice] 110 true)).set n1 (.cells cx 110 true)).get n1=some (.cells cx 110 true):=by simp
   obtain⟨⟨oute,oe1,oe2,oe3,oe4,oe5⟩,⟨outu,ou1,ou2,ou3,ou4,ou5⟩,dj,gE,gB,fB⟩:=hI
   obtain⟨u1,u2⟩:=fB.len
   have sn:=Zn2 u1
   have sx:=Zn2 f1
   have gB1:=(kX.get n4 (by omega)).trans gB
   have gE1:=(kX.get (n3+1+1+1) (by omega)).trans gE
   have kU:Keeps ((H.set n1 (.cells [.int .i64 0,.nilslice,.int .i64 0,.nilslice] 110 true)).set n1 (.cells cx 110 true)) (n1+1) (((H.set n1 (.cells [.int .i64 0,.nilslice,.int .i64 0,.nilslice] 110 true)).set n1 (.cells cx 110 true)).set (n1+1) (.cells cn 110 true)) (n1+1+1):=Keeps.refl.new _
   have nwB:∀y∈cn,NW y:=fB.noU
   have kXU:=kX.trans kU
   have gu:(((H.set n1 (.cells [.int .i64 0,.nilslice,.int .i64 0,.nilslice] 110 true)).set n1 (.cells cx 110 true)).set (n1+1) (.cells cn 110 true)).get (n1+1)=some (.cells cn 110 true):=by rw[T.get_set,Yrw rfl]
   obtain⟨vu',h6,w6,j1,j2,j3,j4,jD,j5⟩:=Zgo (Y:=NW) (x:=cn) (u:=.slice (n1+1) 0 1 (some 1) 4) (bytes:=64) (w:=[]) (ou1.keep kXU) ou3 ou4 (by omega) (by decide) u1 (by simp only[Za0,St.row,gu,if_true];unfold slc;simp[u1];exact Yr2 (by omega)) (by omega)
   have e7:=Zjm (d:=zF) u1 rfl
   rw[e0]at e7
   have lB1:n4<n1+1:=by omega
   have lt1:d.length<1000:=hl
   have hru:=ou1.lt
   have hre:=oe1.lt
   have gX6:=(j4.get n1 (by omega) (fun hc=>by have:=hru _ hc;omega)).trans ((kU.get n1 (by omega)).trans gX)
   have gB6:=(j4.get n4 (by omega) (fun hc=>by have:=hru _ hc;omega)).trans ((kU.get n4 (by omega)).trans gB1)
   have gE6:=(j4.get (n3+1+1+1) (by omega) (fun hc=>by have:=hru _ hc;omega)).trans ((kU.get (n3+1+1+1) (by omega)).trans gE1)
   have fB6:=(fB.keep kXU).moved j4 jD
   have fX6:=(b5.keep kXU).moved j4 jD
   have oe6:=(oe1.keep kXU).upd j4 dj
   have lX6:n1<n1+1+1+1:=by omega
   have lB6:n4<n1+1+1+1:=by omega
   have lE6:n3+1+1+1<n1+1+1+1:=by omega
   have rq:=Zk8 (D:=D) qg ql qp qd (k:=t) (by omega)
   have wb:=(rq.1.mono hK).wls
   have wx:=(qd _ (Yr1 (Zbk (p:=d) (i:=t) hlt))).wls
   have ru6:=Yar (ou1.keep kXU) (by simp only[Za0,St.row,gu,if_true];unfold slc;simp[u1];exact Yr2 (by omega)) j1
   have wr6:=Yhl (ou1.keep kXU) (by simp only[Za0,St.row,gu,if_true];unfold slc;simp[u1];exact Yr2 (by omega)) j1
   obtain⟨rU,hrU⟩:∃rU,Zae (n1+1+1) w6=rU:=⟨_,rfl⟩
   have rUb:∀i∈rU,n4+1≤i∧i<n1:=fun i hi=>by
    rw[←hrU]at hi
    have:=wr6 i (Ze2 hi).1
    simp at this
    exact hru i this
   have K6:Keeps h N h6 (n1+1+1+1):=⟨by have:=hK'.le;omega,fun i hi=>by
    rw[j4.get i (by have:=hK'.le;omega) (fun hc=>by have:=hru _ hc;have:=hK'.le;omega),kXU.get i (by have:=hK'.le;omega),hK'.get i hi]⟩
   simp(disch:=first|(simp;done)|omega|rfl) [-getElem?_pos, -Zae, -V.cells, -V.one,A.lb71_0,hr,hf,h30,h10,hlt,hlt',lv,b1,b2,b3,b4,hcc,f1,f2,Zam,ex,Zaj,gB1,lB1,sn,u1,u2,e7,j1,gE6,gX6,gB6,lX6,lB6,lE6,sx,hrU]
   refine Zac (Ycj fX6.up fB6.up (by omega) (by omega) (by omega) (by omega)) ?_
   rintro _ h8 n8 k8 hm8
   obtain⟨c8,rfl,fc8⟩:=hm8.c
   obtain⟨e81,e82⟩:=fc8.len
   have le8:=k8.le
   have e9:=Zjm (d:=zF) e81 rfl
   rw[e0]at e9
   have nw8:∀y∈c8,NW y:=fc8.noU
   have kN:Keeps h8 n8 (h8.set n8 (.cells c8 110 true)) (n8+1):=Keeps.refl.new _
   have k8N:=k8.trans kN
   have gN8:(h8.set n8 (.cells c8 110 true)).get n8=some (.cells c8 110 true):=by rw[T.get_set,Yrw rfl]
   obtain⟨ve',h9,w9,i1,i2,i3,i4,iD,i5⟩:=Zgo (Y:=NW) (x:=c8) (u:=.slice n8 0 1 (some 1) 4) (bytes:=64) (w:=[]) (oe6.keep k8N) oe3 oe4 (by omega) (by decide) e81 (by simp only[Za0,St.row,gN8,if_true];unfold slc;simp[e81];exact Yr2 (by omega)) (by omega)
   have re9:=Yar (w:=[]) (oe6.keep k8N) (by simp only[Za0,St.row,gN8,if_true];unfold slc;simp[e81];exact Yr2 (by omega)) i1
   have one9:V.one ve'=true∧V.cells ve'=[ve']:=by
    obtain⟨_,⟨_,hx⟩|⟨_,hx,_⟩⟩:=i5<;>rw[hx]<;>exact⟨rfl,rfl⟩
   have gE9:=(i4.get (n3+1+1+1) (by omega) (fun hc=>by have:=hre _ hc;omega)).trans ((k8N.get (n3+1+1+1) (by omega)).trans gE6)
   have lE9:n3+1+1+1<n8+1+1:=by omega
   have wr9:=Yhl (w:=[]) (oe6.keep k8N) (by simp only[Za0,St.row,gN8,if_true];unfold slc;simp[e81];exact Yr2 (by omega)) i1
   obtain⟨rE,hrE⟩:∃rE,Zae (n8+1) w9=rE:=⟨_,rfl⟩
   have m1:=Ybr (x:=n3+1+1+1) (l:=rU) fun i hi=>by have:=rUb i hi;omega
   have m2:=Ybr (x:=n1) (l:=rU) fun i hi=>by have:=rUb i hi;omega
   have m3:=Ybr (x:=n4) (l:=rU) fun i hi=>by have:=rUb i hi;omega
   have oE:Zae (n8+1+1) [n3+1+1+1]=[n3+1+1+1]:=by simp[Zae];omega
   simp(disch:=first|(simp;done)|omega|rfl) [-getElem?_pos, -Zae, -Zj2, -V.cells, -V.one,hr,hf,hcc,e81,e82,e9,i1,gE9,lE9,one9.1,one9.2,Zam,splice,Zal.chk,hrE,oE,m1,m2,m3,Zra,Zwn]
   refine(Zri (by simp[-Zj2,apartOk,Zal,Zal.go,Zal.chk,FP.free,m1,m2,m3,Zra,Ya5,Zwn,Nat.testBit])).2 ?_
   have K9:Keeps h N h9 (n8+1+1):=⟨by have:=K6.le;omega,fun i hi=>by
    have:=hK'.le
    rw[i4.get i (by omega) (fun hc=>by have:=hre _ hc;omega),k8N.get i (by omega),K6.get i hi]⟩
   have at9:∀i,i<n1→i∉Zel vu→i∉Zel ve→h9.get i=H.get i:=fun i h1 h2 h3=>by
    rw[i4.get i (by omega) h3,k8N.get i (by omega),j4.get i (by omega) h2,kXU.get i (by omega)]
   have at0:∀i,i<n4+1→i<n1→h9.get i=H.get i:=fun i h0 h1=>at9 i h1 (fun hc=>by have:=hru _ hc;omega) (fun hc=>by have:=hre _ hc;omega)
   have mv9:∀{c:List V} {q:Rat},FcC H n1 c q→FcC h9 (n8+1+1) c q:=fun s=>(((s.keep kXU).moved j4 jD).keep k8N).moved i4 iD
   have oe9:=i5
   have ou9:=(j5.keep k8N).upd i4 (D:=fun i=>i∈Zel ve) fun i hi hc=>by
    rw[ru6]at hi
    simp at hi
    have:=hre _ hc
    omega
   have rl:=@Zd8 g l p D d t
   obtain⟨es,hes⟩:∃es,es=(Zdt g l p D d t).1++[pg d t-(Zdt g l p D d t).2.2]:=⟨_,rfl⟩
   have esl:es.length=t+1:=by rw[hes];simp[rl.1]
   have fe9:FrT h9 (n8+1+1) ve' es:=Zvg oe9 (by rw[esl];simp[oe2]) fun j hj=>by
    rw[esl]at hj
    by_cases hjt:j<t
    ·obtain⟨c,x1,x2⟩:=oe5 j hjt
     refine⟨c,by rw[Ysc (by omega)];exact x1,fun q hq=>?_⟩
     rw[hes,Ysc (by omega),Zbk (by omega)]at hq
     simp only[Yrs]at hq
     rw[←hq];exact mv9 x2
    ·obtain rfl:j=t:=by omega
     refine⟨c8,by rw[Ysn (by omega),oe2];simp,fun q hq=>?_⟩
     rw[hes,Ysn (by omega),rl.1]at hq
     simp at hq
     rw[←hq];exact(fc8.keep kN).moved i4 iD
   have gE10:(h9.set (n3+1+1+1) (.cells [ve'] 100 true)).get (n3+1+1+1)=some (.cells [ve'] 100 true):=by rw[T.get_set,Yrw rfl]
   have nuE:NoU [ve]:=by
    intro x hx m
    simp at hx
    subst hx
    obtain⟨_,⟨_,hv⟩|⟨_,hv,_⟩⟩:=oe1<;>rw[hv]<;>simp
   have nuE':NoU [ve']:=by
    intro x hx m
    simp at hx
    subst hx
    obtain⟨_,⟨_,hv⟩|⟨_,hv,_⟩⟩:=oe9<;>rw[hv]<;>simp
   have fe10:FrT (h9.set (n3+1+1+1) (.cells [ve'] 100 true)) (n8+1+1) ve' es:=fe9.setR gE9 (by decide) nuE rfl
   have mv10:∀{c:List V} {q:Rat},FcC h9 (n8+1+1) c q→FcC (h9.set (n3+1+1+1) (.cells [ve'] 100 true)) (n8+1+1) c q:=fun s=>s.setNU gE9 nuE rfl
   have at10:∀i,i<n4+1→i<n1→¬i=n3+1+1+1→(h9.set (n3+1+1+1) (.cells [ve'] 100 true)).get i=H.get i:=fun i h0 h1 h2=>by rw[T.get_set,Yrt h2];exact at0 i h0 h1
   have K10:Keeps h N (h9.set (n3+1+1+1) (.cells [ve'] 100 true)) (n8+1+1):=K9.set (by omega)
   have oe10:Own 4 110 (n4+1) (h9.set (n3+1+1+1) (.cells [ve'] 100 true)) (n8+1+1) ve' (oute++[c8]):=oe9.upd (D:=fun i=>i=n3+1+1+1) ⟨Yru _,fun i _ hi=>by rw[T.get_set,Yrt hi]⟩ fun i hi hc=>by have:=oe9.lt i hi;omega
   have ou10:Own 4 110 (n4+1) (h9.set (n3+1+1+1) (.cells [ve'] 100 true)) (n8+1+1) vu' (outu++[cn]):=ou9.upd (D:=fun i=>i=n3+1+1+1) ⟨Yru _,fun i _ hi=>by rw[T.get_set,Yrt hi]⟩ fun i hi hc=>by have:=ou9.lt i hi;omega
   have s0:=(at10 N (by omega) (by omega) (by omega)).trans m0
   have sG:=(at10 n3 (by omega) (by omega) (by omega)).trans mG
   have sK:=(at10 (n3+1) (by omega) (by omega) (by omega)).trans mK
   have sP:=(at10 (n3+1+1) (by omega) (by omega) (by omega)).trans mP
   have sB:=(at10 n4 (by omega) (by omega) (by omega)).trans gB
   have tG:=mv10 (mv9 wG)
   have tK:=mv10 (mv9 wK)
   have tP:=mv10 (mv9 wP)
   have tB:=mv10 (mv9 fB)
   have mE10:∀{c:List V} {q:Rat},FcC H n1 c q→FcC (h9.set (n3+1+1+1) (.cells [ve'] 100 true)) (n8+1+1) c q:=fun s=>mv10 (mv9 s)
   have t8:=mv10 ((fc8.keep kN).moved i4 iD)
   generalize h9.set (n3+1+1+1) (.cells [ve'] 100 true)=HD at*
   have lN9:N<n8+1+1:=by omega
   simp(disch:=first|(simp;done)|omega|rfl) [-getElem?_pos, -Zae, -V.cells, -V.one,hr,hf,s0,lN9]
   refine Zs1 (Zu4 (D:=D) (k:=t) gE10 (by omega) fe10.1 (by omega) esl (by omega)) ?_
   rintro _ h11 n11 k11 hz11
   obtain⟨c11,rfl,f11⟩:=hz11.c
   have le11:=k11.le
   have s0':=(k11.get N (by omega)).trans s0
   have lN11:N<n11:=by omega
   simp(disch:=first|(simp;done)|omega|rfl) [-getElem?_pos, -Zae, -V.cells, -V.one,hr,hf,s0',lN11]
   have gE11:=(k11.get (n3+1+1+1) (by omega)).trans gE10
   refine Zs1 (Zu4 (D:=D+1) (k:=t) gE11 (by omega) (fe10.keep k11).1 (by omega) esl (by omega)) ?_
   rintro _ h12 n12 k12 hz12
   obtain⟨c12,rfl,f12⟩:=hz12.c
   have le12:=k12.le
   obtain⟨p11,p12⟩:=f11.len
   obtain⟨p13,p14⟩:=f12.len
   have ea:=Zjm (d:=zF) p11 rfl
   have eb:=Zjm (d:=zF) p13 rfl
   rw[e0]at ea eb
   have kA:Keeps h12 n12 ((((h12.set n12 (.cells [.int .i64 0,.nilslice,.int .i64 0,.nilslice] 110 true)).set (n12+1) (.cells [.int .i64 0,.nilslice,.int .i64 0,.nilslice] 110 true)).set n12 (.cells c11 110 true)).set (n12+1) (.cells c12 110 true)) (n12+1+1):=(((Keeps.refl.new _).new _).set (Yru _)).set (by omega)
   have gA1:((((h12.set n12 (.cells [.int .i64 0,.nilslice,.int .i64 0,.nilslice] 110 true)).set (n12+1) (.cells [.int .i64 0,.nilslice,.int .i64 0,.nilslice] 110 true)).set n12 (.cells c11 110 true)).set (n12+1) (.cells c12 110 true)).get n12=some (.cells c11 110 true):=by simp
   have gA2:((((h12.set n12 (.cells [.int .i64 0,.nilslice,.int .i64 0,.nilslice] 110 true)).set (n12+1) (.cells [.int .i64 0,.nilslice,.int .i64 0,.nilslice] 110 true)).set n12 (.cells c11 110 true)).set (n12+1) (.cells c12 110 true)).get (n12+1)=some (.cells c12 110 true):=by simp
   have k11A:=(k11.trans k12).trans kA
   have y0:=(k11A.get N (by omega)).trans s0
   have yG:=(k11A.get n3 (by omega)).trans sG
   have yK:=(k11A.get (n3+1) (by omega)).trans sK
   have yP:=(k11A.get (n3+1+1) (by omega)).trans sP
   have yB:=(k11A.get n4 (by omega)).trans sB
   have sg:=Zn2 g1
   have sl:=Zn2 g3
   have sp:=Zn2 g5
   have s11:=Zn2 p11
   have s12:=Zn2 p13
   have lA1:n3<n12+1+1:=by omega
   have lA2:n3+1<n12+1+1:=by omega
   have lA3:n3+1+1<n12+1+1:=by omega
   have lA4:n4<n12+1+1:=by omega
   have k1112:=k11.trans k12
   have xK:=(k1112.get (n3+1) (by omega)).trans sK
   have xB:=(k1112.get n4 (by omega)).trans sB
   have q1:¬n3=n12:=by omega
   have q2:¬n3+1=n12:=by omega
   have q5:¬n4=n12:=by omega
   have q6:¬n4=n12+1:=by omega
   have sn2:=Zn2 u1
   simp(disch:=first|(simp;done)|omega|rfl) [-getElem?_pos, -Zae, -V.cells, -V.one,hr,hf,hcc,p11,p12,p13,p14,Zam,ea,eb,Zal.chk,xK,xB,q1,q2,q5,q6,lA2,lA4,Zaj,sl,sn2]
   have fG:=tG.keep k11A
   have fK:=tK.keep k11A
   have fP:=tP.keep k11A
   have fN:=tB.keep k11A
   have f1A:=(f11.keep k12).keep kA
   have f2A:=f12.keep kA
   have mvA:∀{c:List V} {q:Rat},FcC HD (n8+1+1) c q→FcC ((((h12.set n12 (.cells [.int .i64 0,.nilslice,.int .i64 0,.nilslice] 110 true)).set (n12+1) (.cells [.int .i64 0,.nilslice,.int .i64 0,.nilslice] 110 true)).set n12 (.cells c11 110 true)).set (n12+1) (.cells c12 110 true)) (n12+1+1) c q:=fun s=>s.keep k11A
   have oeA:=oe10.keep k11A
   have ouA:=ou10.keep k11A
   have gEA:=(k11A.get (n3+1+1+1) (by omega)).trans gE10
   have KA:=K10.trans k11A
   generalize ((((h12.set n12 (.cells [.int .i64 0,.nilslice,.int .i64 0,.nilslice] 110 true)).set (n12+1) (.cells [.int .i64 0,.nilslice,.int .i64 0,.nilslice] 110 true)).set n12 (.cells c11 110 true)).set (n12+1) (.cells c12 110 true))=HA at*
   have bl:=ql.wls
   have bg:=qg.wls
   have bp:=qp.wls
   have rqN:=rq.1.mono hK
   have qe:∀q∈es,Qb (kd+K+1) q:=fun q hq=>by
    rw[hes]at hq
    rcases Ysq.1 hq with hq|hq
    ·exact((rq.2 q hq).mono hK).mono (by omega)
    ·simp at hq
     rw[hq]
     exact(qd _ (Yr1 (Zbk (p:=d) (i:=t) hlt))).sub rqN
   have qL:∀D',Qb (kd+K+1) (Zg7 es D' t):=fun D'=>by
    unfold Zg7
    split
    ·exact qe _ (Yr1 (Zbk (by rw[esl];omega)))
    ·exact(Qb.int (z:=0) (k:=1) (by decide) (by decide)).mono (by omega)
   have bN:=rqN.wls
   have bL1:=(qL D).wls
   have bL2:=(qL (D+1)).wls
   have bm1:=(ql.mul rqN).wls
   have bm2:=(qg.mul (qL D)).wls
   have bs1:=((qL D).sub (qL (D+1))).wls
   have bm3:=(qp.mul ((qL D).sub (qL (D+1)))).wls
   have ba:=((ql.mul rqN).add (qg.mul (qL D))).wls
   refine Zac (Zt8 fK.up fN.up (by omega) (by omega) (by omega) (by omega)) ?_
   rintro v13 h13 n13 k13 hv13
   have le13:=k13.le
   have z1:=(k13.get n3 (by omega)).trans yG
   have z2:=(k13.get n12 (by omega)).trans gA1
   have r1:n3<n13:=by omega
   have r2:n12<n13:=by omega
   simp(disch:=first|(simp;done)|omega|rfl) [-getElem?_pos, -Zae, -V.cells, -V.one,hr,hf,z1,z2,r1,r2,Zaj,sg,s11]
   refine Zac (Zt8 (fG.keep k13).up (f1A.keep k13).up (by omega) (by omega) (by omega) (by omega)) ?_
   rintro v14 h14 n14 k14 hv14
   simp(disch:=first|(simp;done)|omega|rfl) [-getElem?_pos, -Zae]
   refine Zac (Znc (hv13.keep k14) hv14 (by omega) (by omega) (by omega) (by omega)) ?_
   rintro v15 h15 n15 k15 hv15
   have kk:=(k13.trans k14).trans k15
   have le15:=kk.le
   have z3:=(kk.get (n3+1+1) (by omega)).trans yP
   have z4:=(kk.get n12 (by omega)).trans gA1
   have z5:=(kk.get (n12+1) (by omega)).trans gA2
   have r3:n3+1+1<n15:=by omega
   have r4:n12<n15:=by omega
   have r5:n12+1<n15:=by omega
   simp(disch:=first|(simp;done)|omega|rfl) [-getElem?_pos, -Zae, -V.cells, -V.one,hr,hf,z3,z4,z5,r3,r4,r5,Zaj,sp,s11,s12]
   refine Zac (Ycj (f1A.keep kk).up (f2A.keep kk).up (by omega) (by omega) (by omega) (by omega)) ?_
   rintro v16 h16 n16 k16 hv16
   simp(disch:=first|(simp;done)|omega|rfl) [-getElem?_pos, -Zae]
   refine Zac (Zt8 ((fP.keep kk).keep k16).up hv16 (by omega) (by omega) (by omega) (by omega)) ?_
   rintro v17 h17 n17 k17 hv17
   simp(disch:=first|(simp;done)|omega|rfl) [-getElem?_pos, -Zae]
   refine Zac (Znc ((hv15.keep k16).keep k17) hv17 (by omega) (by omega) (by omega) (by omega)) ?_
   rintro _ h18 n18 k18 hv18
   obtain⟨c18,rfl,f18⟩:=hv18.c
   obtain⟨p1,p2⟩:=f18.len
   have kz:=((kk.trans k16).trans k17).trans k18
   have le18:=kz.le
   have z6:=(kz.get n4 (by omega)).trans yB
   have r6:n4<n18:=by omega
   have e18:=Zjm (d:=cn) p1 u1
   have l18:4≤cn.length:=by omega
   simp(disch:=first|(simp;done)|omega|rfl) [-getElem?_pos, -Zae, -V.cells, -V.one,hr,hf,h30,hcc,p1,p2,Zam,z6,r6,e18,l18,Zal.chk]
   have nuN:=fB.noU
   have s18:c18.length=cn.length:=by omega
   have fin:∀{c:List V} {q:Rat},FcC HA (n12+1+1) c q→FcC (h18.set n4 (.cells c18 110 true)) n18 c q:=fun s=>(s.keep kz).setNU z6 nuN s18
   have e1:(Zdt g l p D d (t+1)).1=es:=by rw[hes];rfl
   have e2:(Zdt g l p D d (t+1)).2.1=(Zdt g l p D d t).2.1++[(Zdt g l p D d t).2.2]:=rfl
   have e3:(Zdt g l p D d (t+1)).2.2=l*(Zdt g l p D d t).2.2+g*Zg7 es D t+p*(Zg7 es D t-Zg7 es (D+1) t):=by
    rw[Rat.add_assoc,hes];rfl
   have rEb:∀i∈rE,n4+1≤i:=fun i hi=>by
    rw[←hrE]at hi
    have:=wr9 i (Ze2 hi).1
    simp at this
    exact(hre i this).1
   have uS:Upd (fun i=>i=n4) h18 n18 (h18.set n4 (.cells c18 110 true)) n18:=⟨Yru _,fun i _ hi=>by rw[T.get_set,Yrt hi]⟩
   refine⟨m,by omega,Zm0 fun i hi=>?_,(KA.trans kz).set (by omega),by rw[Yrt (by omega)];exact(kz.get N (by omega)).trans y0,by rw[Yrt (by omega)];exact(kz.get n3 (by omega)).trans yG,by rw[Yrt (by omega)];exact(kz.get (n3+1) (by omega)).trans yK,by rw[Yrt (by omega)];exact(kz.get (n3+1+1) (by omega)).trans yP,fin fG,fin fK,fin fP,t+1,by omega,by simp,ve',c18,?_⟩
   ·rcases Ysq.1 hi with hi|hi
    ·have:=(Ze2 hi).1;simp at this;omega
    rcases Ysq.1 hi with hi|hi
    ·have:=(Ze2 hi).1;simp at this;omega
    rcases Ysq.1 hi with hi|hi
    ·have:=(Ze2 hi).1;simp at this;omega
    rcases Yss.1 hi with rfl|hi
    ·omega
    rcases Ysq.1 hi with hi|hi
    ·have:=rEb i hi;omega
    rcases Ysq.1 hi with hi|hi
    ·have:=rUb i hi;omega
    rcases Yss.1 hi with rfl|hi
    ·omega
    exact Yay hW i hi
   ·refine⟨⟨oute++[c8],(oeA.keep kz).upd uS fun i hi hc=>by have:=(oeA.keep kz).lt i hi;omega,by simp[oe2],by simp,fun c hc y hy=>?_,fun j hj=>?_⟩,⟨outu++[cn],(ouA.keep kz).upd uS fun i hi hc=>by have:=(ouA.keep kz).lt i hi;omega,by simp[ou2],by simp,fun c hc y hy=>?_,fun j hj=>?_⟩,fun i hi hc=>?_,by rw[T.get_set,Yrt (by omega)];exact(kz.get (n3+1+1+1) (by omega)).trans gEA,by rw[T.get_set,Yrw rfl],by rw[e3];exact f18.setNU z6 nuN s18⟩
    ·rcases Ysq.1 hc with hc|hc
     ·exact oe4 c hc y hy
     ·simp only[Yte]at hc;subst hc;exact nw8 y hy
    ·rw[e1]
     by_cases hjt:j<t
     ·obtain⟨c,x1,x2⟩:=oe5 j hjt
      refine⟨c,by rw[Ysc (by omega)];exact x1,?_⟩
      have:pg es j=pg (Zdt g l p D d t).1 j:=by unfold pg;rw[hes,Ysc (by omega)]
      rw[this]
      exact fin (mvA (mE10 x2))
     ·obtain rfl:j=t:=by omega
      refine⟨c8,by rw[Ysn (by omega),oe2];simp,?_⟩
      have:pg es j=pg d j-(Zdt g l p D d j).2.2:=by unfold pg;rw[hes,Ysn (by omega),rl.1,Nat.sub_self];rfl
      rw[this]
      exact fin (mvA t8)
    ·rcases Ysq.1 hc with hc|hc
     ·exact ou4 c hc y hy
     ·simp only[Yte]at hc;subst hc;exact nwB y hy
    ·rw[e2]
     by_cases hjt:j<t
     ·obtain⟨c,x1,x2⟩:=ou5 j hjt
      refine⟨c,by rw[Ysc (by omega)];exact x1,?_⟩
      have:pg ((Zdt g l p D d t).2.1++[(Zdt g l p D d t).2.2]) j=pg (Zdt g l p D d t).2.1 j:=by unfold pg;rw[Ysc (by omega)]
      rw[this]
      exact fin (mvA (mE10 x2))
     ·obtain rfl:j=t:=by omega
      refine⟨cn,by rw[Ysn (by omega),ou2];simp,?_⟩
      have:pg ((Zdt g l p D d j).2.1++[(Zdt g l p D d j).2.2]) j=(Zdt g l p D d j).2.2:=by unfold pg;rw[Ysn (by omega),rl.2,Nat.sub_self];rfl
      rw[this]
      exact fin (mvA tB)
    ·rw[re9]at hi
     rw[ru6]at hc
     simp at hi hc
     omega
 ·rintro _ r ⟨H,n1,W⟩ hr ⟨rfl,hW,hK',hn1,ve,vu,cn,h10,hI⟩
  simp only at hW hK' hn1 hI
  obtain⟨⟨oute,oe1,oe2,oe3,oe4,oe5⟩,⟨outu,ou1,ou2,ou3,ou4,ou5⟩,dj,gE,gB,fB⟩:=hI
  have lE:n3+1+1+1<n1:=by omega
  have lL:=@Zd8 g l p D d d.length
  have fe:FrT H n1 ve (runE g l p D d):=Zvg oe1 (by rw[oe2];exact lL.1.symm) fun j hj=>by
   have hjl:j<d.length:=by simpa[runE,lL.1]using hj
   obtain⟨c,x1,x2⟩:=oe5 j hjl
   refine⟨c,x1,fun q hq=>?_⟩
   have:(runE g l p D d)[j]?=some (pg (Zdt g l p D d d.length).1 j):=Zbk (by unfold runE;rw[lL.1];exact hjl)
   rw[this]at hq
   simp only[Yrs]at hq
   rw[←hq];exact x2
  have fu:FrT H n1 vu (Zw5 g l p D d):=Zvg ou1 (by rw[ou2];exact lL.2.symm) fun j hj=>by
   have hjl:j<d.length:=by simpa[Zw5,lL.2]using hj
   obtain⟨c,x1,x2⟩:=ou5 j hjl
   refine⟨c,x1,fun q hq=>?_⟩
   have:(Zw5 g l p D d)[j]?=some (pg (Zdt g l p D d d.length).2.1 j):=Zbk (by unfold Zw5;rw[lL.2];exact hjl)
   rw[this]at hq
   simp only[Yrs]at hq
   rw[←hq];exact x2
  simp(disch:=first|(simp;done)|omega|rfl) [-getElem?_pos, -V.cells, -V.one,hr,h10,gE,lE,hW,Ret]
  exact⟨hK',ve,vu,⟨rfl,rfl⟩,fe,fu⟩
def A.b70:=A.q Tryz.f70
def A.k70:=@A.kk 70 11 [.tmp 2] A.b70 (by kernel_rfl) rfl
def Zgs(l:List Str):Int:=if 64<l.length then 5 else Ydi l
def Yme{h:T O}{N:Nat}{v:V}{l:List Str}(hs:Sl h N v (strs l))(hl:l.length<100000)(hf0:∀s∈l,s.length≤100000):Fn A.C 70 [v] h N (fun u _ _=>u=.int .i64 (Zgs l)):=by
 intro w
 have hlen:=hs.len
 rw[Zf1]at hlen
 rw[Zaf,A.k70 (by simp)]
 unfold Zgs
 by_cases c1:64<l.length
 ·have c1':64<(l.length:Int):=by omega
  rw[Yrw c1]
  simp(disch:=first|(simp;done)|omega|rfl) [-getElem?_pos,A.b70,hlen,c1,c1',Zgu]
  refine Zac (Zva hs hl hf0) ?_
  rintro _ h1 n1 k1 rfl
  have hi:n1<n1+1:=by omega
  simp(disch:=first|(simp;done)|omega|rfl) [-getElem?_pos,splice,Zal.chk,Zf7 hi,Zan,Ret]
  exact k1.trans (kset Keeps.refl _)
 ·have c1':¬64<(l.length:Int):=by omega
  rw[Yrt c1]
  simp(disch:=first|(simp;done)|omega|rfl) [-getElem?_pos,A.b70,hlen,c1,c1',Zgu]
  refine Zac (Zva hs hl hf0) ?_
  rintro _ h1 n1 k1 rfl
  have hi:n1<n1+1:=by omega
  have e1:Zan [0,Ydi l]=Ydi l:=by
   unfold Zan
   rw[Yrw rfl]
   unfold Zan
   split
   ·rename_i c;rw[c];rfl
   ·rfl
  simp(disch:=first|(simp;done)|omega|rfl) [-getElem?_pos,splice,Zal.chk,Zf7 hi,e1,Ret]
  exact k1.trans (kset Keeps.refl _)
end
end Go.Mx
