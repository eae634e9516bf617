/-loop-/
import Derived.Test.YtgnadghjglamaaaGreatDoorLpK
set_option linter.all false
namespace Go.Mx
open Go Go.Proofs
variable {N z:Nat} {h h':T O} {l:List (List V)} {u v:V}
set_option maxHeartbeats 4000000
set_option maxRecDepth 1000000
noncomputable def A.w71:=A.q Tryz.f71
noncomputable def A.zgZ:=A.ql A.w71 0 []
noncomputable def A.b71:=(fun x0=>A.qb A.w71 [x0]) A.zgZ
def A.k71:=@A.kk 71 74 [.tmp 4,.tmp 5] A.b71 (by kernel_rfl) rfl
def Own.lt{e:TypeId}{N0:Nat}(s:Own z e N0 h N v l):∀i∈dR v,N0<=i/\i<N:=fun i hi=>by
 obtain⟨_,⟨_,rfl⟩|⟨j,rfl,h1,h2,_⟩⟩:=s
 ·simp[dR]at hi
 ·simp[dR]at hi
  subst hi
  exact⟨h1,h2⟩
def Own.upd{e:TypeId}{N0:Nat}{N':Nat}{D:Nat->Prop}(s:Own z e N0 h N v l)(k:sE D h N h' N')(hd:∀i∈dR v,¬D i):Own z e N0 h' N' v l:=by
 obtain⟨hl,s|⟨i,rfl,h2,h3,h4⟩⟩:=s
 ·exact⟨hl,.inl s⟩
 ·exact⟨hl,.inr ⟨i,rfl,h2,h_ h3 k.le,(k.get i h3 (hd i (by simp[dR]))).trans h4⟩⟩
def nK.zfK{R:Nat}{l:List Rat}{us vs:List V}{e:TypeId}{b c:Bool}(s:nK h N u l)(g:h.get R=some (.cells us e b))(he:e≠110)(hn:sD us)(hl:vs.length=us.length):nK (h.set R (.cells vs e c)) N u l:=by
 have bF:∀i∈dR u,i≠R:=fun i hi hc=>by
  obtain⟨z,w,hz⟩:=s.2 i hi
  rw[hc,g]at hz
  simp at hz
  exact he hz.2.1
 obtain⟨cs,h1,h2,h3⟩:=s.1
 have k:sE (fun i=>i=R) h N (h.set R (.cells vs e c)) N:=⟨aZ _,fun i _ hi=>by rw[T.aj,aA hi]⟩
 refine⟨⟨cs,h1.eY k bF,h2,fun j q hq=>?_⟩,fun i hi=>?_⟩
 ·obtain⟨x,g1,g2⟩:=h3 j q hq
  exact⟨x,g1,g2.aG g hn hl⟩
 ·rw[T.aj,aA (bF i hi)]
  exact s.2 i hi
def Yvr{e:TypeId}{N0:Nat}{bytes:Nat}{v':V}{x:List V}{w w':List Nat}(s:Own z e N0 h N v l)(hu:gp ⟨h,N,w⟩ z u=some (1,x))(f:l8 ⟨h,N,w⟩ z bytes e v u=some (v',⟨h',N+1,w'⟩)):dR v'=[N]:=by
 obtain⟨hl,⟨rfl,rfl⟩|⟨i,rfl,_,_,g⟩⟩:=s
 ·simp only[l8,hu]at f
  rw[aA (by decide)]at f
  split at f
  ·simp only[au,bj]at f
   rw[<-f.1];rfl
  ·cases f
 ·simp only[l8,hu,St.row,g]at f
  rw[aA (by decide)]at f
  split at f
  ·cases f
  ·rename_i h1
   simp only[if_true]at f
   split at f
   ·rename_i h2
    rw[vX hl,jg]at h2
    omega
   ·simp at f
    rw[<-f.2.1];rfl
def Yxh{e:TypeId}{N0:Nat}{bytes:Nat}{v':V}{x:List V}{w w':List Nat}(s:Own z e N0 h N v l)(hu:gp ⟨h,N,w⟩ z u=some (1,x))(f:l8 ⟨h,N,w⟩ z bytes e v u=some (v',⟨h',N+1,w'⟩)):∀i∈w',i∈dR v\/i∈w:=by
 obtain⟨hl,⟨rfl,rfl⟩|⟨i,rfl,_,_,g⟩⟩:=s
 ·simp only[l8,hu]at f
  rw[aA (by decide)]at f
  split at f
  ·simp only[au,bj,St.alloc,St.mk.injEq]at f
   rw[<-f.2.2.2]
   intro j hj;exact .inr hj
  ·cases f
 ·simp only[l8,hu,St.row,g]at f
  rw[aA (by decide)]at f
  split at f
  ·cases f
  ·rename_i h1
   simp only[if_true]at f
   split at f
   ·rename_i h2
    rw[vX hl,jg]at h2
    omega
   ·simp at f
    rw[<-f.2.2.2]
    intro j hj
    rcases ku.1 hj with rfl|hj
    ·exact .inl (by simp[dR])
    ·exact .inr hj
def Yxn{x:Nat}{l:List Nat}(h:∀i∈l,i≠x):vY l (some [x])=false:=by
 unfold vY
 rw[List.any_eq_false]
 intro i hi
 simpa using h i hi
def Yxk{o:Option (List Nat)}:vY [] o=false:=by cases o<;>rfl
structure RnI (kk:Nat) (N n0 E B:Nat) (g l p:Rat) (D:Nat) (d:List Rat) (k:Nat) (H:T O) (n:Nat) (ve vu:V) (cn:List V):Prop where
 oe:∃out:List (List V),Own 4 110 n0 H n ve out/\out.length=k/\(out=[]->ve=.aa)/\(∀c∈out,∀y∈c,NW y)/\∀j,j<k->∃c,out[j]?=some c/\dB H n c (pg (Zuz g l p D d k).1 j)
 ou:∃out:List (List V),Own 4 110 n0 H n vu out/\out.length=k/\(out=[]->vu=.aa)/\(∀c∈out,∀y∈c,NW y)/\∀j,j<k->∃c,out[j]?=some c/\dB H n c (pg (Zuz g l p D d k).2.1 j)
 dj:∀i∈dR ve,i∉dR vu
 gE:H.get E=some (.cells [ve] 100 true)
 gB:H.get B=some (.cells cn 110 true)
 fB:dB H n cn (Zuz g l p D d k).2.2
def Xaa{g l p:Rat}{D kc kd K:Nat}{d:List Rat}(hd:nK h N v d)(qg:Qb kc g)(ql:Qb kc l)(qp:Qb kc p)(qd:∀q∈d,Qb kd q)(hkc:kc<=4000)(hD:D<=6)(hl:d.length<1000)(hK:(3*kc+3)*d.length+kd*(d.length+1)+2<=K)(jC:K<=10000000)(hkd:kd<=10000000):Fn A.C 71 [.agg [.str (ax g),.str (ax l),.str (ax p),.int .i64 D],v] h N (fun x h' n'=>∃a b,x=.aS [a,b]/\nK h' n' a (Ygt g l p D d)/\nK h' n' b (Yz7 g l p D d)):=by
 intro w
 have lY:∀c:List V,(V.agg c).cells=c:=fun _=>rfl
 have lv:=hd.1.len
 have kB:ae h N (h.set N (.cells [.str (ax g),.str (ax l),.str (ax p),.int .i64 D] 24 true)) (N+1):=ae.refl.new _
 have b0:(h.set N (.cells [.str (ax g),.str (ax l),.str (ax p),.int .i64 D] 24 true)).get N=some (.cells [.str (ax g),.str (ax l),.str (ax p),.int .i64 D] 24 true):=by simp
 rw[aV,A.k71 (by simp)]
 simp(disch:=first|(simp;done)|omega|rfl) [-getElem?_pos,A.b71,aJ,aE]
 generalize h.set N (.cells [.str (ax g),.str (ax l),.str (ax p),.int .i64 D] 24 true)=hB at*
 refine az (Df qg (by omega)) ?_
 rintro _ h1 n1 k1 y8
 obtain⟨cg,rfl,fg⟩:=y8.c
 obtain⟨g1,g2⟩:=fg.len
 have uw:=k1.le
 have b1:=(k1.get N (by omega)).trans b0
 have l1:N<n1:=by omega
 simp(disch:=first|(simp;done)|omega|rfl) [-getElem?_pos,b1,l1]
 refine az (Df ql (by omega)) ?_
 rintro _ h2 n2 k2 Nx
 obtain⟨cl,rfl,fl⟩:=Nx.c
 obtain⟨g3,g4⟩:=fl.len
 have oP:=k2.le
 have b2:=(k2.get N (by omega)).trans b1
 have l2:N<n2:=by omega
 simp(disch:=first|(simp;done)|omega|rfl) [-getElem?_pos,b2,l2]
 refine az (Df qp (by omega)) ?_
 rintro _ h3 n3 k3 hg3
 obtain⟨cp,rfl,fp⟩:=hg3.c
 obtain⟨g5,g6⟩:=fp.len
 have xX:=k3.le
 have b3:=(k3.get N (by omega)).trans b2
 have l3:N<n3:=by omega
 have e4:=rT (d:=zF) g1 rfl
 have e5:=rT (d:=zF) g3 rfl
 have e6:=rT (d:=zF) g5 rfl
 have e0:zF=[V.int .i64 0,.aa,.int .i64 0,.aa]:=rfl
 rw[e0]at e4 e5 e6
 simp(disch:=first|(simp;done)|omega|rfl) [-getElem?_pos, -V.cells, -V.one,lY,g1,g2,g3,g4,g5,g6,bE,e4,e5,e6]
 have kC:ae h3 n3 (((((((h3.set n3 (.cells [.int .i64 0,.aa,.int .i64 0,.aa] 110 true)).set (n3+1) (.cells [.int .i64 0,.aa,.int .i64 0,.aa] 110 true)).set (n3+1+1) (.cells [.int .i64 0,.aa,.int .i64 0,.aa] 110 true)).set n3 (.cells cg 110 true)).set (n3+1) (.cells cl 110 true)).set (n3+1+1) (.cells cp 110 true)).set (n3+1+1+1) (.cells [.aa] 100 true)) (n3+1+1+1+1):=((((((ae.refl.new _).new _).new _).set (by omega)).set (by omega)).set (by omega)).new _
 have gG:(((((((h3.set n3 (.cells [.int .i64 0,.aa,.int .i64 0,.aa] 110 true)).set (n3+1) (.cells [.int .i64 0,.aa,.int .i64 0,.aa] 110 true)).set (n3+1+1) (.cells [.int .i64 0,.aa,.int .i64 0,.aa] 110 true)).set n3 (.cells cg 110 true)).set (n3+1) (.cells cl 110 true)).set (n3+1+1) (.cells cp 110 true)).set (n3+1+1+1) (.cells [.aa] 100 true)).get n3=some (.cells cg 110 true):=by simp
 have gK:(((((((h3.set n3 (.cells [.int .i64 0,.aa,.int .i64 0,.aa] 110 true)).set (n3+1) (.cells [.int .i64 0,.aa,.int .i64 0,.aa] 110 true)).set (n3+1+1) (.cells [.int .i64 0,.aa,.int .i64 0,.aa] 110 true)).set n3 (.cells cg 110 true)).set (n3+1) (.cells cl 110 true)).set (n3+1+1) (.cells cp 110 true)).set (n3+1+1+1) (.cells [.aa] 100 true)).get (n3+1)=some (.cells cl 110 true):=by simp
 have gP:(((((((h3.set n3 (.cells [.int .i64 0,.aa,.int .i64 0,.aa] 110 true)).set (n3+1) (.cells [.int .i64 0,.aa,.int .i64 0,.aa] 110 true)).set (n3+1+1) (.cells [.int .i64 0,.aa,.int .i64 0,.aa] 110 true)).set n3 (.cells cg 110 true)).set (n3+1) (.cells cl 110 true)).set (n3+1+1) (.cells cp 110 true)).set (n3+1+1+1) (.cells [.aa] 100 true)).get (n3+1+1)=some (.cells cp 110 true):=by simp
 have gE:(((((((h3.set n3 (.cells [.int .i64 0,.aa,.int .i64 0,.aa] 110 true)).set (n3+1) (.cells [.int .i64 0,.aa,.int .i64 0,.aa] 110 true)).set (n3+1+1) (.cells [.int .i64 0,.aa,.int .i64 0,.aa] 110 true)).set n3 (.cells cg 110 true)).set (n3+1) (.cells cl 110 true)).set (n3+1+1) (.cells cp 110 true)).set (n3+1+1+1) (.cells [.aa] 100 true)).get (n3+1+1+1)=some (.cells [.aa] 100 true):=by simp
 generalize ((((((h3.set n3 (.cells [.int .i64 0,.aa,.int .i64 0,.aa] 110 true)).set (n3+1) (.cells [.int .i64 0,.aa,.int .i64 0,.aa] 110 true)).set (n3+1+1) (.cells [.int .i64 0,.aa,.int .i64 0,.aa] 110 true)).set n3 (.cells cg 110 true)).set (n3+1) (.cells cl 110 true)).set (n3+1+1) (.cells cp 110 true)).set (n3+1+1+1) (.cells [.aa] 100 true)=HC at*
 refine az (xj (z:=0) (by decide) (by decide)) ?_
 rintro _ h4 n4 k4 vZ
 obtain⟨c0,rfl,f0⟩:=vZ.c
 obtain⟨g7,g8⟩:=f0.len
 have e7:=rT (d:=zF) g7 rfl
 rw[e0]at e7
 have kD:ae h4 n4 ((h4.set n4 (.cells [.int .i64 0,.aa,.int .i64 0,.aa] 110 true)).set n4 (.cells c0 110 true)) (n4+1):=(ae.refl.new _).set (aZ _)
 have gB:((h4.set n4 (.cells [.int .i64 0,.aa,.int .i64 0,.aa] 110 true)).set n4 (.cells c0 110 true)).get n4=some (.cells c0 110 true):=by simp
 simp(disch:=first|(simp;done)|omega|rfl) [-getElem?_pos, -V.cells, -V.one,lY,g7,g8,bE,e7,lv]
 generalize (h4.set n4 (.cells [.int .i64 0,.aa,.int .i64 0,.aa] 110 true)).set n4 (.cells c0 110 true)=H0 at*
 have Nb:=k4.le
 obtain⟨G1,hG1⟩:∃G,G=n3:=⟨_,rfl⟩
 have KC:=((kB.trans k1).trans k2).trans k3
 have K0:=((KC.trans kC).trans k4).trans kD
 have k34:=(kC.trans k4).trans kD
 have k4D:=k4.trans kD
 have m0:=(k34.get N (by omega)).trans b3
 have mG:=(k4D.get n3 (by omega)).trans gG
 have mK:=(k4D.get (n3+1) (by omega)).trans gK
 have mP:=(k4D.get (n3+1+1) (by omega)).trans gP
 have mE:=(k4D.get (n3+1+1+1) (by omega)).trans gE
 have wG:=((fg.ah k2).ah k3).ah k34
 have wK:=(fl.ah k3).ah k34
 have wP:=fp.ah k34
 have w0:=f0.ah kD
 refine c_ [(10,10),(13,16),(30,71)] (fun e r st=>e=.exit 0/\aD N st.w=[]/\ae h N st.h st.n/\n4<st.n/\∃ve vu cn,r.get 10=some vu/\RnI K N (n4+1) (n3+1+1+1) n4 g l p D d d.length st.h st.n ve vu cn) (fun m r st=>aD N st.w=[]/\ae h N st.h st.n/\n4<st.n/\st.h.get N=some (.cells [.str (ax g),.str (ax l),.str (ax p),.int .i64 D] 24 true)/\st.h.get n3=some (.cells cg 110 true)/\st.h.get (n3+1)=some (.cells cl 110 true)/\st.h.get (n3+1+1)=some (.cells cp 110 true)/\dB st.h st.n cg g/\dB st.h st.n cl l/\dB st.h st.n cp p/\∃t,t+m=d.length/\r.get 30=some (.int .i64 t)/\∃vu,r.get 10=some vu/\∃ve cn,RnI K N (n4+1) (n3+1+1+1) n4 g l p D d t st.h st.n ve vu cn) d.length ?_ ?_ ?_
 ·exact⟨Dr fun i hi=>by simp at hi;omega,K0,by show n4<n4+1;omega,m0,mG,mK,mP,wG,wK,wP,0,by omega,by simp,.aa,by simp,.aa,c0,⟨[],Own.nil,rfl,fun _=>rfl,by simp,fun j hj=>by omega⟩,⟨[],Own.nil,rfl,fun _=>rfl,by simp,fun j hj=>by omega⟩,by simp[dR],mE,gB,w0⟩
 ·rintro m r ⟨H,n1,W⟩ hr hf ⟨hW,hK',mF,m0,mG,mK,mP,wG,wK,wP,t,ht,h30,vu,jw,ve,cn,hI⟩
  simp only at hW hK' mF m0 mG mK mP wG wK wP hI
  rw[dk]
  cases m with
  |zero=>
   obtain rfl:t=d.length:=by omega
   simp(disch:=first|(simp;done)|omega|rfl) [-getElem?_pos,A.zgZ,hr,hf,h30,jw,hW,hK',mF]
   exact⟨ve,cn,hI⟩
  |succ m=>
   have aP:t<d.length:=by omega
   have dE:(t:Int)<(d.length:Int):=by omega
   obtain⟨i0,o0,y0,z0,q0,cx,b1,b2,b3,b4,b5⟩:=(hd.ah hK').1.at (eL (p:=d) (i:=t) aP)
   obtain⟨f1,f2⟩:=b5.len
   have ex:=rT (d:=zF) f1 rfl
   rw[e0]at ex
   have kX:ae H n1 ((H.set n1 (.cells [.int .i64 0,.aa,.int .i64 0,.aa] 110 true)).set n1 (.cells cx 110 true)) (n1+1):=(ae.refl.new _).set (aZ _)
   have gX:((H.set n1 (.cells [.int .i64 0,.aa,.int .i64 0,.aa] 110 true)).set n1 (.cells cx 110 true)).get n1=some (.cells cx 110 true):=by simp
   obtain⟨⟨zfA,oe1,oe2,oe3,oe4,oe5⟩,⟨zfB,ou1,ou2,ou3,ou4,ou5⟩,dj,gE,gB,fB⟩:=hI
   obtain⟨u1,u2⟩:=fB.len
   have sn:=tI u1
   have sx:=tI f1
   have Ip:=(kX.get n4 (by omega)).trans gB
   have gE1:=(kX.get (n3+1+1+1) (by omega)).trans gE
   have kU:ae ((H.set n1 (.cells [.int .i64 0,.aa,.int .i64 0,.aa] 110 true)).set n1 (.cells cx 110 true)) (n1+1) (((H.set n1 (.cells [.int .i64 0,.aa,.int .i64 0,.aa] 110 true)).set n1 (.cells cx 110 true)).set (n1+1) (.cells cn 110 true)) (n1+1+1):=ae.refl.new _
   have nwB:∀y∈cn,NW y:=fB.KZ
   have kXU:=kX.trans kU
   have gu:(((H.set n1 (.cells [.int .i64 0,.aa,.int .i64 0,.aa] 110 true)).set n1 (.cells cx 110 true)).set (n1+1) (.cells cn 110 true)).get (n1+1)=some (.cells cn 110 true):=by rw[T.aj,aQ rfl]
   obtain⟨vu',h6,w6,j1,j2,j3,j4,jD,j5⟩:=Zgo (Y:=NW) (x:=cn) (u:=.slice (n1+1) 0 1 (some 1) 4) (bytes:=64) (w:=[]) (ou1.ah kXU) ou3 ou4 (by omega) (by decide) u1 (by simp only[gp,St.row,gu,if_true];unfold aE;simp[u1];exact iP (by omega)) (by omega)
   have e7:=rT (d:=zF) u1 rfl
   rw[e0]at e7
   have lB1:n4<n1+1:=by omega
   have Nk:d.length<1000:=hl
   have hru:=ou1.lt
   have hre:=oe1.lt
   have gX6:=(j4.get n1 (by omega) (fun hc=>by have:=hru _ hc;omega)).trans ((kU.get n1 (by omega)).trans gX)
   have gB6:=(j4.get n4 (by omega) (fun hc=>by have:=hru _ hc;omega)).trans ((kU.get n4 (by omega)).trans Ip)
   have gE6:=(j4.get (n3+1+1+1) (by omega) (fun hc=>by have:=hru _ hc;omega)).trans ((kU.get (n3+1+1+1) (by omega)).trans gE1)
   have fB6:=(fB.ah kXU).eY j4 jD
   have fX6:=(b5.ah kXU).eY j4 jD
   have oe6:=(oe1.ah kXU).upd j4 dj
   have lX6:n1<n1+1+1+1:=by omega
   have lB6:n4<n1+1+1+1:=by omega
   have lE6:n3+1+1+1<n1+1+1+1:=by omega
   have rq:=Yqa (D:=D) qg ql qp qd (k:=t) (by omega)
   have wb:=(rq.1.mono hK).iC
   have wx:=(qd _ (eZ (eL (p:=d) (i:=t) aP))).iC
   have ru6:=Yvr (ou1.ah kXU) (by simp only[gp,St.row,gu,if_true];unfold aE;simp[u1];exact iP (by omega)) j1
   have wr6:=Yxh (ou1.ah kXU) (by simp only[gp,St.row,gu,if_true];unfold aE;simp[u1];exact iP (by omega)) j1
   obtain⟨rU,hrU⟩:∃rU,aD (n1+1+1) w6=rU:=⟨_,rfl⟩
   have rUb:∀i∈rU,n4+1<=i/\i<n1:=fun i hi=>by
    rw[<-hrU]at hi
    have:=wr6 i (za hi).1
    simp at this
    exact hru i this
   have K6:ae h N h6 (n1+1+1+1):=⟨by have:=hK'.le;omega,fun i hi=>by
    rw[j4.get i (by have:=hK'.le;omega) (fun hc=>by have:=hru _ hc;have:=hK'.le;omega),kXU.get i (by have:=hK'.le;omega),hK'.get i hi]⟩
   simp(disch:=first|(simp;done)|omega|rfl) [-getElem?_pos, -aD, -V.cells, -V.one,A.zgZ,hr,hf,h30,jw,aP,dE,lv,b1,b2,b3,b4,lY,f1,f2,bE,ex,aJ,Ip,lB1,sn,u1,u2,e7,j1,gE6,gX6,gB6,lX6,lB6,lE6,sx,hrU]
   refine az (Ycj fX6.up fB6.up (by omega) (by omega) (by omega) (by omega)) ?_
   rintro _ h8 n8 k8 hm8
   obtain⟨c8,rfl,fc8⟩:=hm8.c
   obtain⟨e81,e82⟩:=fc8.len
   have RW:=k8.le
   have e9:=rT (d:=zF) e81 rfl
   rw[e0]at e9
   have nw8:∀y∈c8,NW y:=fc8.KZ
   have kN:ae h8 n8 (h8.set n8 (.cells c8 110 true)) (n8+1):=ae.refl.new _
   have k8N:=k8.trans kN
   have gN8:(h8.set n8 (.cells c8 110 true)).get n8=some (.cells c8 110 true):=by rw[T.aj,aQ rfl]
   obtain⟨ve',h9,w9,i1,i2,i3,i4,iD,i5⟩:=Zgo (Y:=NW) (x:=c8) (u:=.slice n8 0 1 (some 1) 4) (bytes:=64) (w:=[]) (oe6.ah k8N) oe3 oe4 (by omega) (by decide) e81 (by simp only[gp,St.row,gN8,if_true];unfold aE;simp[e81];exact iP (by omega)) (by omega)
   have re9:=Yvr (w:=[]) (oe6.ah k8N) (by simp only[gp,St.row,gN8,if_true];unfold aE;simp[e81];exact iP (by omega)) i1
   have zfE:V.one ve'=true/\V.cells ve'=[ve']:=by
    obtain⟨_,⟨_,hx⟩|⟨_,hx,_⟩⟩:=i5<;>rw[hx]<;>exact⟨rfl,rfl⟩
   have gE9:=(i4.get (n3+1+1+1) (by omega) (fun hc=>by have:=hre _ hc;omega)).trans ((k8N.get (n3+1+1+1) (by omega)).trans gE6)
   have lE9:n3+1+1+1<n8+1+1:=by omega
   have wr9:=Yxh (w:=[]) (oe6.ah k8N) (by simp only[gp,St.row,gN8,if_true];unfold aE;simp[e81];exact iP (by omega)) i1
   obtain⟨rE,hrE⟩:∃rE,aD (n8+1) w9=rE:=⟨_,rfl⟩
   have m1:=Yxn (x:=n3+1+1+1) (l:=rU) fun i hi=>by have:=rUb i hi;omega
   have m2:=Yxn (x:=n1) (l:=rU) fun i hi=>by have:=rUb i hi;omega
   have m3:=Yxn (x:=n4) (l:=rU) fun i hi=>by have:=rUb i hi;omega
   have oE:aD (n8+1+1) [n3+1+1+1]=[n3+1+1+1]:=by simp[aD];omega
   simp(disch:=first|(simp;done)|omega|rfl) [-getElem?_pos, -aD, -vY, -V.cells, -V.one,hr,hf,lY,e81,e82,e9,i1,gE9,lE9,zfE.1,zfE.2,bE,ag,bU.bZ,hrE,oE,m1,m2,m3,Ypn,Ywp]
   refine(NA (by simp[-vY,iG,bU,bU.go,bU.bZ,FP.free,m1,m2,m3,Ypn,Yxk,Ywp,Nat.testBit])).2 ?_
   have K9:ae h N h9 (n8+1+1):=⟨by have:=K6.le;omega,fun i hi=>by
    have:=hK'.le
    rw[i4.get i (by omega) (fun hc=>by have:=hre _ hc;omega),k8N.get i (by omega),K6.get i hi]⟩
   have at9:∀i,i<n1->i∉dR vu->i∉dR ve->h9.get i=H.get i:=fun i h1 h2 h3=>by
    rw[i4.get i (by omega) h3,k8N.get i (by omega),j4.get i (by omega) h2,kXU.get i (by omega)]
   have at0:∀i,i<n4+1->i<n1->h9.get i=H.get i:=fun i h0 h1=>at9 i h1 (fun hc=>by have:=hru _ hc;omega) (fun hc=>by have:=hre _ hc;omega)
   have mv9:∀{c:List V} {q:Rat},dB H n1 c q->dB h9 (n8+1+1) c q:=fun s=>(((s.ah kXU).eY j4 jD).ah k8N).eY i4 iD
   have oe9:=i5
   have ou9:=(j5.ah k8N).upd i4 (D:=fun i=>i∈dR ve) fun i hi hc=>by
    rw[ru6]at hi
    simp at hi
    have:=hre _ hc
    omega
   have rl:=@Yan g l p D d t
   obtain⟨es,kK⟩:∃es,es=(Zuz g l p D d t).1++[pg d t-(Zuz g l p D d t).2.2]:=⟨_,rfl⟩
   have esl:es.length=t+1:=by rw[kK];simp[rl.1]
   have fe9:nK h9 (n8+1+1) ve' es:=RX oe9 (by rw[esl];simp[oe2]) fun j hj=>by
    rw[esl]at hj
    by_cases hjt:j<t
    ·obtain⟨c,x1,x2⟩:=oe5 j hjt
     refine⟨c,by rw[rR (by omega)];exact x1,fun q hq=>?_⟩
     rw[kK,rR (by omega),eL (by omega)]at hq
     simp only[au]at hq
     rw[<-hq];exact mv9 x2
    ·obtain rfl:j=t:=by omega
     refine⟨c8,by rw[xg (by omega),oe2];simp,fun q hq=>?_⟩
     rw[kK,xg (by omega),rl.1]at hq
     simp at hq
     rw[<-hq];exact(fc8.ah kN).eY i4 iD
   have zfC:(h9.set (n3+1+1+1) (.cells [ve'] 100 true)).get (n3+1+1+1)=some (.cells [ve'] 100 true):=by rw[T.aj,aQ rfl]
   have nuE:sD [ve]:=by
    intro x hx m
    simp at hx
    subst hx
    obtain⟨_,⟨_,hv⟩|⟨_,hv,_⟩⟩:=oe1<;>rw[hv]<;>simp
   have zfZ:sD [ve']:=by
    intro x hx m
    simp at hx
    subst hx
    obtain⟨_,⟨_,hv⟩|⟨_,hv,_⟩⟩:=oe9<;>rw[hv]<;>simp
   have zfF:nK (h9.set (n3+1+1+1) (.cells [ve'] 100 true)) (n8+1+1) ve' es:=fe9.zfK gE9 (by decide) nuE rfl
   have zfu:∀{c:List V} {q:Rat},dB h9 (n8+1+1) c q->dB (h9.set (n3+1+1+1) (.cells [ve'] 100 true)) (n8+1+1) c q:=fun s=>s.aG gE9 nuE rfl
   have zfw:∀i,i<n4+1->i<n1->¬i=n3+1+1+1->(h9.set (n3+1+1+1) (.cells [ve'] 100 true)).get i=H.get i:=fun i h0 h1 h2=>by rw[T.aj,aA h2];exact at0 i h0 h1
   have K10:ae h N (h9.set (n3+1+1+1) (.cells [ve'] 100 true)) (n8+1+1):=K9.set (by omega)
   have zfL:Own 4 110 (n4+1) (h9.set (n3+1+1+1) (.cells [ve'] 100 true)) (n8+1+1) ve' (zfA++[c8]):=oe9.upd (D:=fun i=>i=n3+1+1+1) ⟨aZ _,fun i _ hi=>by rw[T.aj,aA hi]⟩ fun i hi hc=>by have:=oe9.lt i hi;omega
   have zfM:Own 4 110 (n4+1) (h9.set (n3+1+1+1) (.cells [ve'] 100 true)) (n8+1+1) vu' (zfB++[cn]):=ou9.upd (D:=fun i=>i=n3+1+1+1) ⟨aZ _,fun i _ hi=>by rw[T.aj,aA hi]⟩ fun i hi hc=>by have:=ou9.lt i hi;omega
   have s0:=(zfw N (by omega) (by omega) (by omega)).trans m0
   have sG:=(zfw n3 (by omega) (by omega) (by omega)).trans mG
   have sK:=(zfw (n3+1) (by omega) (by omega) (by omega)).trans mK
   have sP:=(zfw (n3+1+1) (by omega) (by omega) (by omega)).trans mP
   have sB:=(zfw n4 (by omega) (by omega) (by omega)).trans gB
   have tG:=zfu (mv9 wG)
   have tK:=zfu (mv9 wK)
   have tP:=zfu (mv9 wP)
   have tB:=zfu (mv9 fB)
   have zfG:∀{c:List V} {q:Rat},dB H n1 c q->dB (h9.set (n3+1+1+1) (.cells [ve'] 100 true)) (n8+1+1) c q:=fun s=>zfu (mv9 s)
   have t8:=zfu ((fc8.ah kN).eY i4 iD)
   generalize h9.set (n3+1+1+1) (.cells [ve'] 100 true)=HD at*
   have lN9:N<n8+1+1:=by omega
   simp(disch:=first|(simp;done)|omega|rfl) [-getElem?_pos, -aD, -V.cells, -V.one,hr,hf,s0,lN9]
   refine Yyx (Ywi (D:=D) (k:=t) zfC (by omega) zfF.1 (by omega) esl (by omega)) ?_
   rintro _ fA xY k11 zfN
   obtain⟨c11,rfl,f11⟩:=zfN.c
   have zdi:=k11.le
   have s0':=(k11.get N (by omega)).trans s0
   have zfO:N<xY:=by omega
   simp(disch:=first|(simp;done)|omega|rfl) [-getElem?_pos, -aD, -V.cells, -V.one,hr,hf,s0',zfO]
   have zfP:=(k11.get (n3+1+1+1) (by omega)).trans zfC
   refine Yyx (Ywi (D:=D+1) (k:=t) zfP (by omega) (zfF.ah k11).1 (by omega) esl (by omega)) ?_
   rintro _ eK eN k12 zfQ
   obtain⟨c12,rfl,f12⟩:=zfQ.c
   have zdm:=k12.le
   obtain⟨p11,p12⟩:=f11.len
   obtain⟨p13,p14⟩:=f12.len
   have ea:=rT (d:=zF) p11 rfl
   have eb:=rT (d:=zF) p13 rfl
   rw[e0]at ea eb
   have kA:ae eK eN ((((eK.set eN (.cells [.int .i64 0,.aa,.int .i64 0,.aa] 110 true)).set (eN+1) (.cells [.int .i64 0,.aa,.int .i64 0,.aa] 110 true)).set eN (.cells c11 110 true)).set (eN+1) (.cells c12 110 true)) (eN+1+1):=(((ae.refl.new _).new _).set (aZ _)).set (by omega)
   have Ds:((((eK.set eN (.cells [.int .i64 0,.aa,.int .i64 0,.aa] 110 true)).set (eN+1) (.cells [.int .i64 0,.aa,.int .i64 0,.aa] 110 true)).set eN (.cells c11 110 true)).set (eN+1) (.cells c12 110 true)).get eN=some (.cells c11 110 true):=by simp
   have It:((((eK.set eN (.cells [.int .i64 0,.aa,.int .i64 0,.aa] 110 true)).set (eN+1) (.cells [.int .i64 0,.aa,.int .i64 0,.aa] 110 true)).set eN (.cells c11 110 true)).set (eN+1) (.cells c12 110 true)).get (eN+1)=some (.cells c12 110 true):=by simp
   have k11A:=(k11.trans k12).trans kA
   have y0:=(k11A.get N (by omega)).trans s0
   have yG:=(k11A.get n3 (by omega)).trans sG
   have yK:=(k11A.get (n3+1) (by omega)).trans sK
   have yP:=(k11A.get (n3+1+1) (by omega)).trans sP
   have yB:=(k11A.get n4 (by omega)).trans sB
   have sg:=tI g1
   have sl:=tI g3
   have sp:=tI g5
   have Sg:=tI p11
   have s12:=tI p13
   have lA1:n3<eN+1+1:=by omega
   have lA2:n3+1<eN+1+1:=by omega
   have lA3:n3+1+1<eN+1+1:=by omega
   have lA4:n4<eN+1+1:=by omega
   have k1112:=k11.trans k12
   have xK:=(k1112.get (n3+1) (by omega)).trans sK
   have xB:=(k1112.get n4 (by omega)).trans sB
   have q1:¬n3=eN:=by omega
   have q2:¬n3+1=eN:=by omega
   have q5:¬n4=eN:=by omega
   have q6:¬n4=eN+1:=by omega
   have sn2:=tI u1
   simp(disch:=first|(simp;done)|omega|rfl) [-getElem?_pos, -aD, -V.cells, -V.one,hr,hf,lY,p11,p12,p13,p14,bE,ea,eb,bU.bZ,xK,xB,q1,q2,q5,q6,lA2,lA4,aJ,sl,sn2]
   have fG:=tG.ah k11A
   have fK:=tK.ah k11A
   have fP:=tP.ah k11A
   have fN:=tB.ah k11A
   have f1A:=(f11.ah k12).ah kA
   have f2A:=f12.ah kA
   have mvA:∀{c:List V} {q:Rat},dB HD (n8+1+1) c q->dB ((((eK.set eN (.cells [.int .i64 0,.aa,.int .i64 0,.aa] 110 true)).set (eN+1) (.cells [.int .i64 0,.aa,.int .i64 0,.aa] 110 true)).set eN (.cells c11 110 true)).set (eN+1) (.cells c12 110 true)) (eN+1+1) c q:=fun s=>s.ah k11A
   have oeA:=zfL.ah k11A
   have ouA:=zfM.ah k11A
   have gEA:=(k11A.get (n3+1+1+1) (by omega)).trans zfC
   have KA:=K10.trans k11A
   generalize ((((eK.set eN (.cells [.int .i64 0,.aa,.int .i64 0,.aa] 110 true)).set (eN+1) (.cells [.int .i64 0,.aa,.int .i64 0,.aa] 110 true)).set eN (.cells c11 110 true)).set (eN+1) (.cells c12 110 true))=HA at*
   have bl:=ql.iC
   have bg:=qg.iC
   have bp:=qp.iC
   have rqN:=rq.1.mono hK
   have qe:∀q∈es,Qb (kd+K+1) q:=fun q hq=>by
    rw[kK]at hq
    rcases l7.1 hq with hq|hq
    ·exact((rq.2 q hq).mono hK).mono (by omega)
    ·simp at hq
     rw[hq]
     exact(qd _ (eZ (eL (p:=d) (i:=t) aP))).sub rqN
   have qL:∀D',Qb (kd+K+1) (Zwn es D' t):=fun D'=>by
    unfold Zwn
    split
    ·exact qe _ (eZ (eL (by rw[esl];omega)))
    ·exact(Qb.int (z:=0) (k:=1) (by decide) (by decide)).mono (by omega)
   have bN:=rqN.iC
   have bL1:=(qL D).iC
   have bL2:=(qL (D+1)).iC
   have bm1:=(ql.mul rqN).iC
   have bm2:=(qg.mul (qL D)).iC
   have bs1:=((qL D).sub (qL (D+1))).iC
   have bm3:=(qp.mul ((qL D).sub (qL (D+1)))).iC
   have ba:=((ql.mul rqN).add (qg.mul (qL D))).iC
   refine az (KY fK.up fN.up (by omega) (by omega) (by omega) (by omega)) ?_
   rintro v13 Ix n13 k13 zfR
   have zfS:=k13.le
   have z1:=(k13.get n3 (by omega)).trans yG
   have z2:=(k13.get eN (by omega)).trans Ds
   have r1:n3<n13:=by omega
   have r2:eN<n13:=by omega
   simp(disch:=first|(simp;done)|omega|rfl) [-getElem?_pos, -aD, -V.cells, -V.one,hr,hf,z1,z2,r1,r2,aJ,sg,Sg]
   refine az (KY (fG.ah k13).up (f1A.ah k13).up (by omega) (by omega) (by omega) (by omega)) ?_
   rintro v14 rP KX k14 zfT
   simp(disch:=first|(simp;done)|omega|rfl) [-getElem?_pos, -aD]
   refine az (KW (zfR.ah k14) zfT (by omega) (by omega) (by omega) (by omega)) ?_
   rintro v15 xl n15 k15 zfU
   have kk:=(k13.trans k14).trans k15
   have zf0:=kk.le
   have z3:=(kk.get (n3+1+1) (by omega)).trans yP
   have z4:=(kk.get eN (by omega)).trans Ds
   have z5:=(kk.get (eN+1) (by omega)).trans It
   have r3:n3+1+1<n15:=by omega
   have r4:eN<n15:=by omega
   have r5:eN+1<n15:=by omega
   simp(disch:=first|(simp;done)|omega|rfl) [-getElem?_pos, -aD, -V.cells, -V.one,hr,hf,z3,z4,z5,r3,r4,r5,aJ,sp,Sg,s12]
   refine az (Ycj (f1A.ah kk).up (f2A.ah kk).up (by omega) (by omega) (by omega) (by omega)) ?_
   rintro v16 BR n16 k16 zfV
   simp(disch:=first|(simp;done)|omega|rfl) [-getElem?_pos, -aD]
   refine az (KY ((fP.ah kk).ah k16).up zfV (by omega) (by omega) (by omega) (by omega)) ?_
   rintro v17 NF n17 k17 zfW
   simp(disch:=first|(simp;done)|omega|rfl) [-getElem?_pos, -aD]
   refine az (KW ((zfU.ah k16).ah k17) zfW (by omega) (by omega) (by omega) (by omega)) ?_
   rintro _ Lj n18 k18 zfX
   obtain⟨c18,rfl,f18⟩:=zfX.c
   obtain⟨p1,p2⟩:=f18.len
   have kz:=((kk.trans k16).trans k17).trans k18
   have zf1:=kz.le
   have z6:=(kz.get n4 (by omega)).trans yB
   have r6:n4<n18:=by omega
   have e18:=rT (d:=cn) p1 u1
   have l18:4<=cn.length:=by omega
   simp(disch:=first|(simp;done)|omega|rfl) [-getElem?_pos, -aD, -V.cells, -V.one,hr,hf,h30,lY,p1,p2,bE,z6,r6,e18,l18,bU.bZ]
   have nuN:=fB.KZ
   have s18:c18.length=cn.length:=by omega
   have fin:∀{c:List V} {q:Rat},dB HA (eN+1+1) c q->dB (Lj.set n4 (.cells c18 110 true)) n18 c q:=fun s=>(s.ah kz).aG z6 nuN s18
   have e1:(Zuz g l p D d (t+1)).1=es:=by rw[kK];rfl
   have e2:(Zuz g l p D d (t+1)).2.1=(Zuz g l p D d t).2.1++[(Zuz g l p D d t).2.2]:=rfl
   have e3:(Zuz g l p D d (t+1)).2.2=l*(Zuz g l p D d t).2.2+g*Zwn es D t+p*(Zwn es D t-Zwn es (D+1) t):=by
    rw[Rat.add_assoc,kK];rfl
   have rEb:∀i∈rE,n4+1<=i:=fun i hi=>by
    rw[<-hrE]at hi
    have:=wr9 i (za hi).1
    simp at this
    exact(hre i this).1
   have uS:sE (fun i=>i=n4) Lj n18 (Lj.set n4 (.cells c18 110 true)) n18:=⟨aZ _,fun i _ hi=>by rw[T.aj,aA hi]⟩
   refine⟨m,by omega,Dr fun i hi=>?_,(KA.trans kz).set (by omega),by rw[aA (by omega)];exact(kz.get N (by omega)).trans y0,by rw[aA (by omega)];exact(kz.get n3 (by omega)).trans yG,by rw[aA (by omega)];exact(kz.get (n3+1) (by omega)).trans yK,by rw[aA (by omega)];exact(kz.get (n3+1+1) (by omega)).trans yP,fin fG,fin fK,fin fP,t+1,by omega,by simp,ve',c18,?_⟩
   ·rcases l7.1 hi with hi|hi
    ·have:=(za hi).1;simp at this;omega
    rcases l7.1 hi with hi|hi
    ·have:=(za hi).1;simp at this;omega
    rcases l7.1 hi with hi|hi
    ·have:=(za hi).1;simp at this;omega
    rcases ku.1 hi with rfl|hi
    ·omega
    rcases l7.1 hi with hi|hi
    ·have:=rEb i hi;omega
    rcases l7.1 hi with hi|hi
    ·have:=rUb i hi;omega
    rcases ku.1 hi with rfl|hi
    ·omega
    exact Sj hW i hi
   ·refine⟨⟨zfA++[c8],(oeA.ah kz).upd uS fun i hi hc=>by have:=(oeA.ah kz).lt i hi;omega,by simp[oe2],by simp,fun c hc y hy=>?_,fun j hj=>?_⟩,⟨zfB++[cn],(ouA.ah kz).upd uS fun i hi hc=>by have:=(ouA.ah kz).lt i hi;omega,by simp[ou2],by simp,fun c hc y hy=>?_,fun j hj=>?_⟩,fun i hi hc=>?_,by rw[T.aj,aA (by omega)];exact(kz.get (n3+1+1+1) (by omega)).trans gEA,by rw[T.aj,aQ rfl],by rw[e3];exact f18.aG z6 nuN s18⟩
    ·rcases l7.1 hc with hc|hc
     ·exact oe4 c hc y hy
     ·simp only[xZ]at hc;subst hc;exact nw8 y hy
    ·rw[e1]
     by_cases hjt:j<t
     ·obtain⟨c,x1,x2⟩:=oe5 j hjt
      refine⟨c,by rw[rR (by omega)];exact x1,?_⟩
      have:pg es j=pg (Zuz g l p D d t).1 j:=by unfold pg;rw[kK,rR (by omega)]
      rw[this]
      exact fin (mvA (zfG x2))
     ·obtain rfl:j=t:=by omega
      refine⟨c8,by rw[xg (by omega),oe2];simp,?_⟩
      have:pg es j=pg d j-(Zuz g l p D d j).2.2:=by unfold pg;rw[kK,xg (by omega),rl.1,Nat.sub_self];rfl
      rw[this]
      exact fin (mvA t8)
    ·rcases l7.1 hc with hc|hc
     ·exact ou4 c hc y hy
     ·simp only[xZ]at hc;subst hc;exact nwB y hy
    ·rw[e2]
     by_cases hjt:j<t
     ·obtain⟨c,x1,x2⟩:=ou5 j hjt
      refine⟨c,by rw[rR (by omega)];exact x1,?_⟩
      have:pg ((Zuz g l p D d t).2.1++[(Zuz g l p D d t).2.2]) j=pg (Zuz g l p D d t).2.1 j:=by unfold pg;rw[rR (by omega)]
      rw[this]
      exact fin (mvA (zfG x2))
     ·obtain rfl:j=t:=by omega
      refine⟨cn,by rw[xg (by omega),ou2];simp,?_⟩
      have:pg ((Zuz g l p D d j).2.1++[(Zuz g l p D d j).2.2]) j=(Zuz g l p D d j).2.2:=by unfold pg;rw[xg (by omega),rl.2,Nat.sub_self];rfl
      rw[this]
      exact fin (mvA tB)
    ·rw[re9]at hi
     rw[ru6]at hc
     simp at hi hc
     omega
 ·rintro _ r ⟨H,n1,W⟩ hr ⟨rfl,hW,hK',mF,ve,vu,cn,jw,hI⟩
  simp only at hW hK' mF hI
  obtain⟨⟨zfA,oe1,oe2,oe3,oe4,oe5⟩,⟨zfB,ou1,ou2,ou3,ou4,ou5⟩,dj,gE,gB,fB⟩:=hI
  have lE:n3+1+1+1<n1:=by omega
  have lL:=@Yan g l p D d d.length
  have fe:nK H n1 ve (Ygt g l p D d):=RX oe1 (by rw[oe2];exact lL.1.symm) fun j hj=>by
   have AP:j<d.length:=by simpa[Ygt,lL.1]using hj
   obtain⟨c,x1,x2⟩:=oe5 j AP
   refine⟨c,x1,fun q hq=>?_⟩
   have:(Ygt g l p D d)[j]?=some (pg (Zuz g l p D d d.length).1 j):=eL (by unfold Ygt;rw[lL.1];exact AP)
   rw[this]at hq
   simp only[au]at hq
   rw[<-hq];exact x2
  have fu:nK H n1 vu (Yz7 g l p D d):=RX ou1 (by rw[ou2];exact lL.2.symm) fun j hj=>by
   have AP:j<d.length:=by simpa[Yz7,lL.2]using hj
   obtain⟨c,x1,x2⟩:=ou5 j AP
   refine⟨c,x1,fun q hq=>?_⟩
   have:(Yz7 g l p D d)[j]?=some (pg (Zuz g l p D d d.length).2.1 j):=eL (by unfold Yz7;rw[lL.2];exact AP)
   rw[this]at hq
   simp only[au]at hq
   rw[<-hq];exact x2
  simp(disch:=first|(simp;done)|omega|rfl) [-getElem?_pos, -V.cells, -V.one,hr,jw,gE,lE,hW,aF]
  exact⟨hK',ve,vu,⟨rfl,rfl⟩,fe,fu⟩
end Go.Mx
