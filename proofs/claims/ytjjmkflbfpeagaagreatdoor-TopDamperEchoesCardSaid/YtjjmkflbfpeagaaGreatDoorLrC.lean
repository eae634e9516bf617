/-loop-/
import Derived.Test.YtjjmkflbfpeagaaGreatDoorLpF
set_option linter.all false
set_option maxHeartbeats 4000000
namespace Go.Mx
open Go Go.Proofs
variable {N z:Nat} {h h':T O} {l:List (List V)} {u v:V}
set_option maxRecDepth 1000000
noncomputable def A.XX:=A.q Tryz.f28
noncomputable def A.sD:=A.ql A.XX 0 []
noncomputable def A.b28:=(fun x0=>A.qb A.XX [x0]) A.sD
def A.k28:=@A.kk 28 74 [.tmp 4,.tmp 5] A.b28 (by kernel_rfl) rfl
def Own.lt{e:TypeId}{N0:Nat}(s:Own z e N0 h N v l):∀i∈eL v,N0<=i/\i<N:=fun i hi=>by
 obtain⟨_,⟨_,rfl⟩|⟨j,rfl,h1,h2,_⟩⟩:=s
 ·simp[eL]at hi
 ·simp[eL]at hi
  subst hi
  exact⟨h1,h2⟩
def Own.upd{e:TypeId}{N0:Nat}{N':Nat}{D:Nat->Prop}(s:Own z e N0 h N v l)(k:np D h N h' N')(hd:∀i∈eL v,¬D i):Own z e N0 h' N' v l:=by
 obtain⟨hl,s|⟨i,rfl,h2,h3,h4⟩⟩:=s
 ·exact⟨hl,.inl s⟩
 ·exact⟨hl,.inr ⟨i,rfl,h2,ic h3 k.le,(k.get i h3 (hd i (by simp[eL]))).trans h4⟩⟩
def mq.Rr{R:Nat}{l:List Rat}{us vs:List V}{e:TypeId}{b c:Bool}(s:mq h N u l)(g:h.get R=some (.cells us e b))(he:e≠72)(hn:q_ us)(hl:vs.length=us.length):mq (h.set R (.cells vs e c)) N u l:=by
 have bK:∀i∈eL u,i≠R:=fun i hi hc=>by
  obtain⟨z,w,hz⟩:=s.2 i hi
  rw[hc,g]at hz
  simp at hz
  exact he hz.2.1
 obtain⟨cs,h1,h2,h3⟩:=s.1
 have k:np (fun i=>i=R) h N (h.set R (.cells vs e c)) N:=⟨aR _,fun i _ hi=>by rw[T.ai,aq hi]⟩
 refine⟨⟨cs,h1.dh k bK,h2,fun j q hq=>?_⟩,fun i hi=>?_⟩
 ·obtain⟨x,g1,g2⟩:=h3 j q hq
  exact⟨x,g1,g2.aC g hn hl⟩
 ·rw[T.ai,aq (bK i hi)]
  exact s.2 i hi
def XY{e:TypeId}{N0:Nat}{bytes:Nat}{v':V}{x:List V}{w w':List Nat}(s:Own z e N0 h N v l)(hu:iQ ⟨h,N,w⟩ z u=some (1,x))(f:nI ⟨h,N,w⟩ z bytes e v u=some (v',⟨h',N+1,w'⟩)):eL v'=[N]:=by
 obtain⟨hl,⟨rfl,rfl⟩|⟨i,rfl,_,_,g⟩⟩:=s
 ·simp only[nI,hu]at f
  rw[aq (by decide)]at f
  split at f
  ·simp only[ak,bh]at f
   rw[<-f.1];rfl
  ·cases f
 ·simp only[nI,hu,St.row,g]at f
  rw[aq (by decide)]at f
  split at f
  ·cases f
  ·rename_i h1
   simp only[if_true]at f
   split at f
   ·rename_i h2
    rw[u9 hl,jF]at h2
    omega
   ·simp at f
    rw[<-f.2.1];rfl
def XZ{e:TypeId}{N0:Nat}{bytes:Nat}{v':V}{x:List V}{w w':List Nat}(s:Own z e N0 h N v l)(hu:iQ ⟨h,N,w⟩ z u=some (1,x))(f:nI ⟨h,N,w⟩ z bytes e v u=some (v',⟨h',N+1,w'⟩)):∀i∈w',i∈eL v\/i∈w:=by
 obtain⟨hl,⟨rfl,rfl⟩|⟨i,rfl,_,_,g⟩⟩:=s
 ·simp only[nI,hu]at f
  rw[aq (by decide)]at f
  split at f
  ·simp only[ak,bh,St.alloc,St.mk.injEq]at f
   rw[<-f.2.2.2]
   intro j hj;exact .inr hj
  ·cases f
 ·simp only[nI,hu,St.row,g]at f
  rw[aq (by decide)]at f
  split at f
  ·cases f
  ·rename_i h1
   simp only[if_true]at f
   split at f
   ·rename_i h2
    rw[u9 hl,jF]at h2
    omega
   ·simp at f
    rw[<-f.2.2.2]
    intro j hj
    rcases jy.1 hj with rfl|hj
    ·exact .inl (by simp[eL])
    ·exact .inr hj
def Rt{x:Nat}{l:List Nat}(h:∀i∈l,i≠x):t_ l (some [x])=false:=by
 unfold t_
 rw[List.any_eq_false]
 intro i hi
 simpa using h i hi
def Ybe{o:Option (List Nat)}:t_ [] o=false:=by cases o<;>rfl
structure X0 (kk:Nat) (N n0 E B:Nat) (g l p:Rat) (D:Nat) (d:List Rat) (k:Nat) (H:T O) (n:Nat) (ve vu:V) (cn:List V):Prop where
 oe:∃out:List (List V),Own 4 72 n0 H n ve out/\out.length=k/\(out=[]->ve=.aa)/\(∀c∈out,∀y∈c,NW y)/\∀j,j<k->∃c,out[j]?=some c/\dX H n c (pg (dS g l p D d k).1 j)
 ou:∃out:List (List V),Own 4 72 n0 H n vu out/\out.length=k/\(out=[]->vu=.aa)/\(∀c∈out,∀y∈c,NW y)/\∀j,j<k->∃c,out[j]?=some c/\dX H n c (pg (dS g l p D d k).2.1 j)
 dj:∀i∈eL ve,i∉eL vu
 gE:H.get E=some (.cells [ve] 67 true)
 gB:H.get B=some (.cells cn 72 true)
 fB:dX H n cn (dS g l p D d k).2.2
def Yjw{g l p:Rat}{D kc kd K:Nat}{d:List Rat}(hd:mq h N v d)(qg:Qb kc g)(ql:Qb kc l)(qp:Qb kc p)(qd:∀q∈d,Qb kd q)(hkc:kc<=4000)(hD:D<=6)(hl:d.length<1000)(hK:(3*kc+3)*d.length+kd*(d.length+1)+2<=K)(kO:K<=10000000)(hkd:kd<=10000000):Fn A.C 28 [.agg [.str (av g),.str (av l),.str (av p),.int .i64 D],v] h N (fun x h' n'=>∃a b,x=.aY [a,b]/\mq h' n' a (eC g l p D d)/\mq h' n' b (C8 g l p D d)):=by
 intro w
 have pY:∀c:List V,(V.agg c).cells=c:=fun _=>rfl
 have lv:=hd.1.len
 have kB:ad h N (h.set N (.cells [.str (av g),.str (av l),.str (av p),.int .i64 D] 24 true)) (N+1):=ad.refl.new _
 have b0:(h.set N (.cells [.str (av g),.str (av l),.str (av p),.int .i64 D] 24 true)).get N=some (.cells [.str (av g),.str (av l),.str (av p),.int .i64 D] 24 true):=by simp
 rw[aQ,A.k28 (by simp)]
 simp(disch:=first|(simp;done)|omega|rfl) [-getElem?_pos,A.b28,aL,aM]
 generalize h.set N (.cells [.str (av g),.str (av l),.str (av p),.int .i64 D] 24 true)=hB at*
 refine au (yV qg (by omega)) ?_
 rintro _ h1 n1 k1 xl
 obtain⟨cg,rfl,fg⟩:=xl.c
 obtain⟨g1,g2⟩:=fg.len
 have tU:=k1.le
 have b1:=(k1.get N (by omega)).trans b0
 have l1:N<n1:=by omega
 simp(disch:=first|(simp;done)|omega|rfl) [-getElem?_pos,b1,l1]
 refine au (yV ql (by omega)) ?_
 rintro _ h2 n2 k2 Il
 obtain⟨cl,rfl,fl⟩:=Il.c
 obtain⟨g3,g4⟩:=fl.len
 have nk:=k2.le
 have b2:=(k2.get N (by omega)).trans b1
 have l2:N<n2:=by omega
 simp(disch:=first|(simp;done)|omega|rfl) [-getElem?_pos,b2,l2]
 refine au (yV qp (by omega)) ?_
 rintro _ h3 n3 k3 hg3
 obtain⟨cp,rfl,fp⟩:=hg3.c
 obtain⟨g5,g6⟩:=fp.len
 have vY:=k3.le
 have b3:=(k3.get N (by omega)).trans b2
 have l3:N<n3:=by omega
 have e4:=tW (d:=zF) g1 rfl
 have e5:=tW (d:=zF) g3 rfl
 have e6:=tW (d:=zF) g5 rfl
 have e0:zF=[V.int .i64 0,.aa,.int .i64 0,.aa]:=rfl
 rw[e0]at e4 e5 e6
 simp(disch:=first|(simp;done)|omega|rfl) [-getElem?_pos, -V.cells, -V.one,pY,g1,g2,g3,g4,g5,g6,bS,e4,e5,e6]
 have kC:ad h3 n3 (((((((h3.set n3 (.cells [.int .i64 0,.aa,.int .i64 0,.aa] 72 true)).set (n3+1) (.cells [.int .i64 0,.aa,.int .i64 0,.aa] 72 true)).set (n3+1+1) (.cells [.int .i64 0,.aa,.int .i64 0,.aa] 72 true)).set n3 (.cells cg 72 true)).set (n3+1) (.cells cl 72 true)).set (n3+1+1) (.cells cp 72 true)).set (n3+1+1+1) (.cells [.aa] 67 true)) (n3+1+1+1+1):=((((((ad.refl.new _).new _).new _).set (by omega)).set (by omega)).set (by omega)).new _
 have gG:(((((((h3.set n3 (.cells [.int .i64 0,.aa,.int .i64 0,.aa] 72 true)).set (n3+1) (.cells [.int .i64 0,.aa,.int .i64 0,.aa] 72 true)).set (n3+1+1) (.cells [.int .i64 0,.aa,.int .i64 0,.aa] 72 true)).set n3 (.cells cg 72 true)).set (n3+1) (.cells cl 72 true)).set (n3+1+1) (.cells cp 72 true)).set (n3+1+1+1) (.cells [.aa] 67 true)).get n3=some (.cells cg 72 true):=by simp
 have gK:(((((((h3.set n3 (.cells [.int .i64 0,.aa,.int .i64 0,.aa] 72 true)).set (n3+1) (.cells [.int .i64 0,.aa,.int .i64 0,.aa] 72 true)).set (n3+1+1) (.cells [.int .i64 0,.aa,.int .i64 0,.aa] 72 true)).set n3 (.cells cg 72 true)).set (n3+1) (.cells cl 72 true)).set (n3+1+1) (.cells cp 72 true)).set (n3+1+1+1) (.cells [.aa] 67 true)).get (n3+1)=some (.cells cl 72 true):=by simp
 have gP:(((((((h3.set n3 (.cells [.int .i64 0,.aa,.int .i64 0,.aa] 72 true)).set (n3+1) (.cells [.int .i64 0,.aa,.int .i64 0,.aa] 72 true)).set (n3+1+1) (.cells [.int .i64 0,.aa,.int .i64 0,.aa] 72 true)).set n3 (.cells cg 72 true)).set (n3+1) (.cells cl 72 true)).set (n3+1+1) (.cells cp 72 true)).set (n3+1+1+1) (.cells [.aa] 67 true)).get (n3+1+1)=some (.cells cp 72 true):=by simp
 have gE:(((((((h3.set n3 (.cells [.int .i64 0,.aa,.int .i64 0,.aa] 72 true)).set (n3+1) (.cells [.int .i64 0,.aa,.int .i64 0,.aa] 72 true)).set (n3+1+1) (.cells [.int .i64 0,.aa,.int .i64 0,.aa] 72 true)).set n3 (.cells cg 72 true)).set (n3+1) (.cells cl 72 true)).set (n3+1+1) (.cells cp 72 true)).set (n3+1+1+1) (.cells [.aa] 67 true)).get (n3+1+1+1)=some (.cells [.aa] 67 true):=by simp
 generalize ((((((h3.set n3 (.cells [.int .i64 0,.aa,.int .i64 0,.aa] 72 true)).set (n3+1) (.cells [.int .i64 0,.aa,.int .i64 0,.aa] 72 true)).set (n3+1+1) (.cells [.int .i64 0,.aa,.int .i64 0,.aa] 72 true)).set n3 (.cells cg 72 true)).set (n3+1) (.cells cl 72 true)).set (n3+1+1) (.cells cp 72 true)).set (n3+1+1+1) (.cells [.aa] 67 true)=HC at*
 refine au (BB (z:=0) (by decide) (by decide)) ?_
 rintro _ h4 n4 k4 uc
 obtain⟨c0,rfl,f0⟩:=uc.c
 obtain⟨g7,g8⟩:=f0.len
 have e7:=tW (d:=zF) g7 rfl
 rw[e0]at e7
 have kD:ad h4 n4 ((h4.set n4 (.cells [.int .i64 0,.aa,.int .i64 0,.aa] 72 true)).set n4 (.cells c0 72 true)) (n4+1):=(ad.refl.new _).set (aR _)
 have gB:((h4.set n4 (.cells [.int .i64 0,.aa,.int .i64 0,.aa] 72 true)).set n4 (.cells c0 72 true)).get n4=some (.cells c0 72 true):=by simp
 simp(disch:=first|(simp;done)|omega|rfl) [-getElem?_pos, -V.cells, -V.one,pY,g7,g8,bS,e7,lv]
 generalize (h4.set n4 (.cells [.int .i64 0,.aa,.int .i64 0,.aa] 72 true)).set n4 (.cells c0 72 true)=H0 at*
 have QQ:=k4.le
 obtain⟨G1,hG1⟩:∃G,G=n3:=⟨_,rfl⟩
 have KC:=((kB.trans k1).trans k2).trans k3
 have K0:=((KC.trans kC).trans k4).trans kD
 have k34:=(kC.trans k4).trans kD
 have k4D:=k4.trans kD
 have m0:=(k34.get N (by omega)).trans b3
 have mG:=(k4D.get n3 (by omega)).trans gG
 have mK:=(k4D.get (n3+1) (by omega)).trans gK
 have mP:=(k4D.get (n3+1+1) (by omega)).trans gP
 have mE:=(k4D.get (n3+1+1+1) (by omega)).trans gE
 have wG:=((fg.ae k2).ae k3).ae k34
 have wK:=(fl.ae k3).ae k34
 have wP:=fp.ae k34
 have w0:=f0.ae kD
 refine cX [(10,10),(13,16),(30,71)] (fun e r st=>e=.exit 0/\aB N st.w=[]/\ad h N st.h st.n/\n4<st.n/\∃ve vu cn,r.get 10=some vu/\X0 K N (n4+1) (n3+1+1+1) n4 g l p D d d.length st.h st.n ve vu cn) (fun m r st=>aB N st.w=[]/\ad h N st.h st.n/\n4<st.n/\st.h.get N=some (.cells [.str (av g),.str (av l),.str (av p),.int .i64 D] 24 true)/\st.h.get n3=some (.cells cg 72 true)/\st.h.get (n3+1)=some (.cells cl 72 true)/\st.h.get (n3+1+1)=some (.cells cp 72 true)/\dX st.h st.n cg g/\dX st.h st.n cl l/\dX st.h st.n cp p/\∃t,t+m=d.length/\r.get 30=some (.int .i64 t)/\∃vu,r.get 10=some vu/\∃ve cn,X0 K N (n4+1) (n3+1+1+1) n4 g l p D d t st.h st.n ve vu cn) d.length ?_ ?_ ?_
 ·exact⟨Im fun i hi=>by simp at hi;omega,K0,by show n4<n4+1;omega,m0,mG,mK,mP,wG,wK,wP,0,by omega,by simp,.aa,by simp,.aa,c0,⟨[],Own.nil,rfl,fun _=>rfl,by simp,fun j hj=>by omega⟩,⟨[],Own.nil,rfl,fun _=>rfl,by simp,fun j hj=>by omega⟩,by simp[eL],mE,gB,w0⟩
 ·rintro m r ⟨H,n1,W⟩ hr hf ⟨hW,nG,oT,m0,mG,mK,mP,wG,wK,wP,t,ht,Ru,vu,ud,ve,cn,hI⟩
  simp only at hW nG oT m0 mG mK mP wG wK wP hI
  rw[cm]
  cases m with
  |zero=>
   obtain rfl:t=d.length:=by omega
   simp(disch:=first|(simp;done)|omega|rfl) [-getElem?_pos,A.sD,hr,hf,Ru,ud,hW,nG,oT]
   exact⟨ve,cn,hI⟩
  |succ m=>
   have aO:t<d.length:=by omega
   have dB:(t:Int)<(d.length:Int):=by omega
   obtain⟨i0,o0,y0,z0,q0,cx,b1,b2,b3,b4,b5⟩:=(hd.ae nG).1.at (gH (p:=d) (i:=t) aO)
   obtain⟨f1,f2⟩:=b5.len
   have ex:=tW (d:=zF) f1 rfl
   rw[e0]at ex
   have kX:ad H n1 ((H.set n1 (.cells [.int .i64 0,.aa,.int .i64 0,.aa] 72 true)).set n1 (.cells cx 72 true)) (n1+1):=(ad.refl.new _).set (aR _)
   have gX:((H.set n1 (.cells [.int .i64 0,.aa,.int .i64 0,.aa] 72 true)).set n1 (.cells cx 72 true)).get n1=some (.cells cx 72 true):=by simp
   obtain⟨⟨C9,Io,Gb,X7,Rv,MR⟩,⟨Da,Gc,MS,X8,Rw,Rx⟩,dj,gE,gB,fB⟩:=hI
   obtain⟨u1,u2⟩:=fB.len
   have sn:=zb u1
   have sx:=zb f1
   have Gd:=(kX.get n4 (by omega)).trans gB
   have gE1:=(kX.get (n3+1+1+1) (by omega)).trans gE
   have kU:ad ((H.set n1 (.cells [.int .i64 0,.aa,.int .i64 0,.aa] 72 true)).set n1 (.cells cx 72 true)) (n1+1) (((H.set n1 (.cells [.int .i64 0,.aa,.int .i64 0,.aa] 72 true)).set n1 (.cells cx 72 true)).set (n1+1) (.cells cn 72 true)) (n1+1+1):=ad.refl.new _
   have nwB:∀y∈cn,NW y:=fB.CX
   have Ai:=kX.trans kU
   have gu:(((H.set n1 (.cells [.int .i64 0,.aa,.int .i64 0,.aa] 72 true)).set n1 (.cells cx 72 true)).set (n1+1) (.cells cn 72 true)).get (n1+1)=some (.cells cn 72 true):=by rw[T.ai,aJ rfl]
   obtain⟨QG,h6,w6,j1,j2,j3,j4,jD,j5⟩:=HY (Y:=NW) (x:=cn) (u:=.slice (n1+1) 0 1 (some 1) 4) (bytes:=64) (w:=[]) (Gc.ae Ai) X8 Rw (by omega) (by decide) u1 (by simp only[iQ,St.row,gu,if_true];unfold aM;simp[u1];exact gI (by omega)) (by omega)
   have e7:=tW (d:=zF) u1 rfl
   rw[e0]at e7
   have lB1:n4<n1+1:=by omega
   have XA:d.length<1000:=hl
   have xf:=Gc.lt
   have Ip:=Io.lt
   have gX6:=(j4.get n1 (by omega) (fun hc=>by have:=xf _ hc;omega)).trans ((kU.get n1 (by omega)).trans gX)
   have gB6:=(j4.get n4 (by omega) (fun hc=>by have:=xf _ hc;omega)).trans ((kU.get n4 (by omega)).trans Gd)
   have X9:=(j4.get (n3+1+1+1) (by omega) (fun hc=>by have:=xf _ hc;omega)).trans ((kU.get (n3+1+1+1) (by omega)).trans gE1)
   have fB6:=(fB.ae Ai).dh j4 jD
   have fX6:=(b5.ae Ai).dh j4 jD
   have Ry:=(Io.ae Ai).upd j4 dj
   have lX6:n1<n1+1+1+1:=by omega
   have lB6:n4<n1+1+1+1:=by omega
   have lE6:n3+1+1+1<n1+1+1+1:=by omega
   have rq:=MH (D:=D) qg ql qp qd (k:=t) (by omega)
   have wb:=(rq.1.mono hK).iF
   have wx:=(qd _ (fW (gH (p:=d) (i:=t) aO))).iF
   have Ya:=XY (Gc.ae Ai) (by simp only[iQ,St.row,gu,if_true];unfold aM;simp[u1];exact gI (by omega)) j1
   have wr6:=XZ (Gc.ae Ai) (by simp only[iQ,St.row,gu,if_true];unfold aM;simp[u1];exact gI (by omega)) j1
   obtain⟨rU,Yb⟩:∃rU,aB (n1+1+1) w6=rU:=⟨_,rfl⟩
   have MT:∀i∈rU,n4+1<=i/\i<n1:=fun i hi=>by
    rw[<-Yb]at hi
    have:=wr6 i (xm hi).1
    simp at this
    exact xf i this
   have K6:ad h N h6 (n1+1+1+1):=⟨by have:=nG.le;omega,fun i hi=>by
    rw[j4.get i (by have:=nG.le;omega) (fun hc=>by have:=xf _ hc;have:=nG.le;omega),Ai.get i (by have:=nG.le;omega),nG.get i hi]⟩
   simp(disch:=first|(simp;done)|omega|rfl) [-getElem?_pos, -aB, -V.cells, -V.one,A.sD,hr,hf,Ru,ud,aO,dB,lv,b1,b2,b3,b4,pY,f1,f2,bS,ex,aL,Gd,lB1,sn,u1,u2,e7,j1,X9,gX6,gB6,lX6,lB6,lE6,sx,Yb]
   refine au (My fX6.up fB6.up (by omega) (by omega) (by omega) (by omega)) ?_
   rintro _ h8 n8 k8 Rh
   obtain⟨c8,rfl,MU⟩:=Rh.c
   obtain⟨Ge,e82⟩:=MU.len
   have le8:=k8.le
   have e9:=tW (d:=zF) Ge rfl
   rw[e0]at e9
   have nw8:∀y∈c8,NW y:=MU.CX
   have kN:ad h8 n8 (h8.set n8 (.cells c8 72 true)) (n8+1):=ad.refl.new _
   have k8N:=k8.trans kN
   have Rz:(h8.set n8 (.cells c8 72 true)).get n8=some (.cells c8 72 true):=by rw[T.ai,aJ rfl]
   obtain⟨pZ,h9,w9,i1,i2,i3,i4,iD,i5⟩:=HY (Y:=NW) (x:=c8) (u:=.slice n8 0 1 (some 1) 4) (bytes:=64) (w:=[]) (Ry.ae k8N) X7 Rv (by omega) (by decide) Ge (by simp only[iQ,St.row,Rz,if_true];unfold aM;simp[Ge];exact gI (by omega)) (by omega)
   have re9:=XY (w:=[]) (Ry.ae k8N) (by simp only[iQ,St.row,Rz,if_true];unfold aM;simp[Ge];exact gI (by omega)) i1
   have Iq:V.one pZ=true/\V.cells pZ=[pZ]:=by
    obtain⟨_,⟨_,hx⟩|⟨_,hx,_⟩⟩:=i5<;>rw[hx]<;>exact⟨rfl,rfl⟩
   have RA:=(i4.get (n3+1+1+1) (by omega) (fun hc=>by have:=Ip _ hc;omega)).trans ((k8N.get (n3+1+1+1) (by omega)).trans X9)
   have lE9:n3+1+1+1<n8+1+1:=by omega
   have wr9:=XZ (w:=[]) (Ry.ae k8N) (by simp only[iQ,St.row,Rz,if_true];unfold aM;simp[Ge];exact gI (by omega)) i1
   obtain⟨rE,Yc⟩:∃rE,aB (n8+1) w9=rE:=⟨_,rfl⟩
   have m1:=Rt (x:=n3+1+1+1) (l:=rU) fun i hi=>by have:=MT i hi;omega
   have m2:=Rt (x:=n1) (l:=rU) fun i hi=>by have:=MT i hi;omega
   have m3:=Rt (x:=n4) (l:=rU) fun i hi=>by have:=MT i hi;omega
   have oE:aB (n8+1+1) [n3+1+1+1]=[n3+1+1+1]:=by simp[aB];omega
   simp(disch:=first|(simp;done)|omega|rfl) [-getElem?_pos, -aB, -t_, -V.cells, -V.one,hr,hf,pY,Ge,e82,e9,i1,RA,lE9,Iq.1,Iq.2,bS,ag,cD.cG,Yc,oE,m1,m2,m3,Yd,Ye]
   refine(Ir (by simp[-t_,gO,cD,cD.go,cD.cG,FP.free,m1,m2,m3,Yd,Ybe,Ye,Nat.testBit])).2 ?_
   have K9:ad h N h9 (n8+1+1):=⟨by have:=K6.le;omega,fun i hi=>by
    have:=nG.le
    rw[i4.get i (by omega) (fun hc=>by have:=Ip _ hc;omega),k8N.get i (by omega),K6.get i hi]⟩
   have at9:∀i,i<n1->i∉eL vu->i∉eL ve->h9.get i=H.get i:=fun i h1 h2 h3=>by
    rw[i4.get i (by omega) h3,k8N.get i (by omega),j4.get i (by omega) h2,Ai.get i (by omega)]
   have at0:∀i,i<n4+1->i<n1->h9.get i=H.get i:=fun i h0 h1=>at9 i h1 (fun hc=>by have:=xf _ hc;omega) (fun hc=>by have:=Ip _ hc;omega)
   have Gf:∀{c:List V} {q:Rat},dX H n1 c q->dX h9 (n8+1+1) c q:=fun s=>(((s.ae Ai).dh j4 jD).ae k8N).dh i4 iD
   have MV:=i5
   have Yf:=(j5.ae k8N).upd i4 (D:=fun i=>i∈eL ve) fun i hi hc=>by
    rw[Ya]at hi
    simp at hi
    have:=Ip _ hc
    omega
   have rl:=@BF g l p D d t
   obtain⟨es,mA⟩:∃es,es=(dS g l p D d t).1++[pg d t-(dS g l p D d t).2.2]:=⟨_,rfl⟩
   have Is:es.length=t+1:=by rw[mA];simp[rl.1]
   have fe9:mq h9 (n8+1+1) pZ es:=HX MV (by rw[Is];simp[Gb]) fun j hj=>by
    rw[Is]at hj
    by_cases hjt:j<t
    ·obtain⟨c,x1,x2⟩:=MR j hjt
     refine⟨c,by rw[nj (by omega)];exact x1,fun q hq=>?_⟩
     rw[mA,nj (by omega),gH (by omega)]at hq
     simp only[ak]at hq
     rw[<-hq];exact Gf x2
    ·obtain rfl:j=t:=by omega
     refine⟨c8,by rw[qu (by omega),Gb];simp,fun q hq=>?_⟩
     rw[mA,qu (by omega),rl.1]at hq
     simp at hq
     rw[<-hq];exact(MU.ae kN).dh i4 iD
   have Dc:(h9.set (n3+1+1+1) (.cells [pZ] 67 true)).get (n3+1+1+1)=some (.cells [pZ] 67 true):=by rw[T.ai,aJ rfl]
   have Yg:q_ [ve]:=by
    intro x hx m
    simp at hx
    subst hx
    obtain⟨_,⟨_,hv⟩|⟨_,hv,_⟩⟩:=Io<;>rw[hv]<;>simp
   have zak:q_ [pZ]:=by
    intro x hx m
    simp at hx
    subst hx
    obtain⟨_,⟨_,hv⟩|⟨_,hv,_⟩⟩:=MV<;>rw[hv]<;>simp
   have It:mq (h9.set (n3+1+1+1) (.cells [pZ] 67 true)) (n8+1+1) pZ es:=fe9.Rr RA (by decide) Yg rfl
   have vi:∀{c:List V} {q:Rat},dX h9 (n8+1+1) c q->dX (h9.set (n3+1+1+1) (.cells [pZ] 67 true)) (n8+1+1) c q:=fun s=>s.aC RA Yg rfl
   have xn:∀i,i<n4+1->i<n1->¬i=n3+1+1+1->(h9.set (n3+1+1+1) (.cells [pZ] 67 true)).get i=H.get i:=fun i h0 h1 h2=>by rw[T.ai,aq h2];exact at0 i h0 h1
   have K10:ad h N (h9.set (n3+1+1+1) (.cells [pZ] 67 true)) (n8+1+1):=K9.set (by omega)
   have RB:Own 4 72 (n4+1) (h9.set (n3+1+1+1) (.cells [pZ] 67 true)) (n8+1+1) pZ (C9++[c8]):=MV.upd (D:=fun i=>i=n3+1+1+1) ⟨aR _,fun i _ hi=>by rw[T.ai,aq hi]⟩ fun i hi hc=>by have:=MV.lt i hi;omega
   have RC:Own 4 72 (n4+1) (h9.set (n3+1+1+1) (.cells [pZ] 67 true)) (n8+1+1) QG (Da++[cn]):=Yf.upd (D:=fun i=>i=n3+1+1+1) ⟨aR _,fun i _ hi=>by rw[T.ai,aq hi]⟩ fun i hi hc=>by have:=Yf.lt i hi;omega
   have s0:=(xn N (by omega) (by omega) (by omega)).trans m0
   have sG:=(xn n3 (by omega) (by omega) (by omega)).trans mG
   have sK:=(xn (n3+1) (by omega) (by omega) (by omega)).trans mK
   have sP:=(xn (n3+1+1) (by omega) (by omega) (by omega)).trans mP
   have sB:=(xn n4 (by omega) (by omega) (by omega)).trans gB
   have tG:=vi (Gf wG)
   have tK:=vi (Gf wK)
   have tP:=vi (Gf wP)
   have tB:=vi (Gf fB)
   have Iu:∀{c:List V} {q:Rat},dX H n1 c q->dX (h9.set (n3+1+1+1) (.cells [pZ] 67 true)) (n8+1+1) c q:=fun s=>vi (Gf s)
   have t8:=vi ((MU.ae kN).dh i4 iD)
   generalize h9.set (n3+1+1+1) (.cells [pZ] 67 true)=HD at*
   have lN9:N<n8+1+1:=by omega
   simp(disch:=first|(simp;done)|omega|rfl) [-getElem?_pos, -aB, -V.cells, -V.one,hr,hf,s0,lN9]
   refine Rk (XW (D:=D) (k:=t) Dc (by omega) It.1 (by omega) Is (by omega)) ?_
   rintro _ jW QS k11 RD
   obtain⟨c11,rfl,f11⟩:=RD.c
   have QT:=k11.le
   have s0':=(k11.get N (by omega)).trans s0
   have RE:N<QS:=by omega
   simp(disch:=first|(simp;done)|omega|rfl) [-getElem?_pos, -aB, -V.cells, -V.one,hr,hf,s0',RE]
   have RF:=(k11.get (n3+1+1+1) (by omega)).trans Dc
   refine Rk (XW (D:=D+1) (k:=t) RF (by omega) (It.ae k11).1 (by omega) Is (by omega)) ?_
   rintro _ rX eN k12 RG
   obtain⟨c12,rfl,f12⟩:=RG.c
   have QX:=k12.le
   obtain⟨RH,p12⟩:=f11.len
   obtain⟨RI,p14⟩:=f12.len
   have ea:=tW (d:=zF) RH rfl
   have eb:=tW (d:=zF) RI rfl
   rw[e0]at ea eb
   have kA:ad rX eN ((((rX.set eN (.cells [.int .i64 0,.aa,.int .i64 0,.aa] 72 true)).set (eN+1) (.cells [.int .i64 0,.aa,.int .i64 0,.aa] 72 true)).set eN (.cells c11 72 true)).set (eN+1) (.cells c12 72 true)) (eN+1+1):=(((ad.refl.new _).new _).set (aR _)).set (by omega)
   have Gg:((((rX.set eN (.cells [.int .i64 0,.aa,.int .i64 0,.aa] 72 true)).set (eN+1) (.cells [.int .i64 0,.aa,.int .i64 0,.aa] 72 true)).set eN (.cells c11 72 true)).set (eN+1) (.cells c12 72 true)).get eN=some (.cells c11 72 true):=by simp
   have Iv:((((rX.set eN (.cells [.int .i64 0,.aa,.int .i64 0,.aa] 72 true)).set (eN+1) (.cells [.int .i64 0,.aa,.int .i64 0,.aa] 72 true)).set eN (.cells c11 72 true)).set (eN+1) (.cells c12 72 true)).get (eN+1)=some (.cells c12 72 true):=by simp
   have k11A:=(k11.trans k12).trans kA
   have y0:=(k11A.get N (by omega)).trans s0
   have yG:=(k11A.get n3 (by omega)).trans sG
   have yK:=(k11A.get (n3+1) (by omega)).trans sK
   have yP:=(k11A.get (n3+1+1) (by omega)).trans sP
   have yB:=(k11A.get n4 (by omega)).trans sB
   have sg:=zb g1
   have sl:=zb g3
   have sp:=zb g5
   have MW:=zb RH
   have s12:=zb RI
   have lA1:n3<eN+1+1:=by omega
   have lA2:n3+1<eN+1+1:=by omega
   have lA3:n3+1+1<eN+1+1:=by omega
   have lA4:n4<eN+1+1:=by omega
   have k1112:=k11.trans k12
   have xK:=(k1112.get (n3+1) (by omega)).trans sK
   have xB:=(k1112.get n4 (by omega)).trans sB
   have q1:¬n3=eN:=by omega
   have q2:¬n3+1=eN:=by omega
   have q5:¬n4=eN:=by omega
   have q6:¬n4=eN+1:=by omega
   have sn2:=zb u1
   simp(disch:=first|(simp;done)|omega|rfl) [-getElem?_pos, -aB, -V.cells, -V.one,hr,hf,pY,RH,p12,RI,p14,bS,ea,eb,cD.cG,xK,xB,q1,q2,q5,q6,lA2,lA4,aL,sl,sn2]
   have fG:=tG.ae k11A
   have fK:=tK.ae k11A
   have fP:=tP.ae k11A
   have fN:=tB.ae k11A
   have Yh:=(f11.ae k12).ae kA
   have f2A:=f12.ae kA
   have MY:∀{c:List V} {q:Rat},dX HD (n8+1+1) c q->dX ((((rX.set eN (.cells [.int .i64 0,.aa,.int .i64 0,.aa] 72 true)).set (eN+1) (.cells [.int .i64 0,.aa,.int .i64 0,.aa] 72 true)).set eN (.cells c11 72 true)).set (eN+1) (.cells c12 72 true)) (eN+1+1) c q:=fun s=>s.ae k11A
   have Yi:=RB.ae k11A
   have Yj:=RC.ae k11A
   have gEA:=(k11A.get (n3+1+1+1) (by omega)).trans Dc
   have KA:=K10.trans k11A
   generalize ((((rX.set eN (.cells [.int .i64 0,.aa,.int .i64 0,.aa] 72 true)).set (eN+1) (.cells [.int .i64 0,.aa,.int .i64 0,.aa] 72 true)).set eN (.cells c11 72 true)).set (eN+1) (.cells c12 72 true))=HA at*
   have bl:=ql.iF
   have bg:=qg.iF
   have bp:=qp.iF
   have MZ:=rq.1.mono hK
   have qe:∀q∈es,Qb (kd+K+1) q:=fun q hq=>by
    rw[mA]at hq
    rcases kl.1 hq with hq|hq
    ·exact((rq.2 q hq).mono hK).mono (by omega)
    ·simp at hq
     rw[hq]
     exact(qd _ (fW (gH (p:=d) (i:=t) aO))).sub MZ
   have qL:∀D',Qb (kd+K+1) (qy es D' t):=fun D'=>by
    unfold qy
    split
    ·exact qe _ (fW (gH (by rw[Is];omega)))
    ·exact(Qb.int (z:=0) (k:=1) (by decide) (by decide)).mono (by omega)
   have bN:=MZ.iF
   have bL1:=(qL D).iF
   have bL2:=(qL (D+1)).iF
   have bm1:=(ql.mul MZ).iF
   have bm2:=(qg.mul (qL D)).iF
   have bs1:=((qL D).sub (qL (D+1))).iF
   have bm3:=(qp.mul ((qL D).sub (qL (D+1)))).iF
   have ba:=((ql.mul MZ).add (qg.mul (qL D))).iF
   refine au (HQ fK.up fN.up (by omega) (by omega) (by omega) (by omega)) ?_
   rintro v13 h13 Yk k13 RJ
   have zal:=k13.le
   have z1:=(k13.get n3 (by omega)).trans yG
   have z2:=(k13.get eN (by omega)).trans Gg
   have r1:n3<Yk:=by omega
   have r2:eN<Yk:=by omega
   simp(disch:=first|(simp;done)|omega|rfl) [-getElem?_pos, -aB, -V.cells, -V.one,hr,hf,z1,z2,r1,r2,aL,sg,MW]
   refine au (HQ (fG.ae k13).up (Yh.ae k13).up (by omega) (by omega) (by omega) (by omega)) ?_
   rintro v14 rY Q3 k14 RK
   simp(disch:=first|(simp;done)|omega|rfl) [-getElem?_pos, -aB]
   refine au (HN (RJ.ae k14) RK (by omega) (by omega) (by omega) (by omega)) ?_
   rintro v15 ue RL k15 RM
   have kk:=(k13.trans k14).trans k15
   have zam:=kk.le
   have z3:=(kk.get (n3+1+1) (by omega)).trans yP
   have z4:=(kk.get eN (by omega)).trans Gg
   have z5:=(kk.get (eN+1) (by omega)).trans Iv
   have r3:n3+1+1<RL:=by omega
   have r4:eN<RL:=by omega
   have r5:eN+1<RL:=by omega
   simp(disch:=first|(simp;done)|omega|rfl) [-getElem?_pos, -aB, -V.cells, -V.one,hr,hf,z3,z4,z5,r3,r4,r5,aL,sp,MW,s12]
   refine au (My (Yh.ae kk).up (f2A.ae kk).up (by omega) (by omega) (by omega) (by omega)) ?_
   rintro v16 Gh n16 k16 RN
   simp(disch:=first|(simp;done)|omega|rfl) [-getElem?_pos, -aB]
   refine au (HQ ((fP.ae kk).ae k16).up RN (by omega) (by omega) (by omega) (by omega)) ?_
   rintro v17 Iw n17 k17 RO
   simp(disch:=first|(simp;done)|omega|rfl) [-getElem?_pos, -aB]
   refine au (HN ((RM.ae k16).ae k17) RO (by omega) (by omega) (by omega) (by omega)) ?_
   rintro _ Aj M0 k18 RP
   obtain⟨c18,rfl,f18⟩:=RP.c
   obtain⟨p1,p2⟩:=f18.len
   have kz:=((kk.trans k16).trans k17).trans k18
   have zan:=kz.le
   have z6:=(kz.get n4 (by omega)).trans yB
   have r6:n4<M0:=by omega
   have Yl:=tW (d:=cn) p1 u1
   have l18:4<=cn.length:=by omega
   simp(disch:=first|(simp;done)|omega|rfl) [-getElem?_pos, -aB, -V.cells, -V.one,hr,hf,Ru,pY,p1,p2,bS,z6,r6,Yl,l18,cD.cG]
   have Ym:=fB.CX
   have Yn:c18.length=cn.length:=by omega
   have fin:∀{c:List V} {q:Rat},dX HA (eN+1+1) c q->dX (Aj.set n4 (.cells c18 72 true)) M0 c q:=fun s=>(s.ae kz).aC z6 Ym Yn
   have e1:(dS g l p D d (t+1)).1=es:=by rw[mA];rfl
   have e2:(dS g l p D d (t+1)).2.1=(dS g l p D d t).2.1++[(dS g l p D d t).2.2]:=rfl
   have e3:(dS g l p D d (t+1)).2.2=l*(dS g l p D d t).2.2+g*qy es D t+p*(qy es D t-qy es (D+1) t):=by
    rw[Rat.add_assoc,mA];rfl
   have rEb:∀i∈rE,n4+1<=i:=fun i hi=>by
    rw[<-Yc]at hi
    have:=wr9 i (xm hi).1
    simp at this
    exact(Ip i this).1
   have uS:np (fun i=>i=n4) Aj M0 (Aj.set n4 (.cells c18 72 true)) M0:=⟨aR _,fun i _ hi=>by rw[T.ai,aq hi]⟩
   refine⟨m,by omega,Im fun i hi=>?_,(KA.trans kz).set (by omega),by rw[aq (by omega)];exact(kz.get N (by omega)).trans y0,by rw[aq (by omega)];exact(kz.get n3 (by omega)).trans yG,by rw[aq (by omega)];exact(kz.get (n3+1) (by omega)).trans yK,by rw[aq (by omega)];exact(kz.get (n3+1+1) (by omega)).trans yP,fin fG,fin fK,fin fP,t+1,by omega,by simp,pZ,c18,?_⟩
   ·rcases kl.1 hi with hi|hi
    ·have:=(xm hi).1;simp at this;omega
    rcases kl.1 hi with hi|hi
    ·have:=(xm hi).1;simp at this;omega
    rcases kl.1 hi with hi|hi
    ·have:=(xm hi).1;simp at this;omega
    rcases jy.1 hi with rfl|hi
    ·omega
    rcases kl.1 hi with hi|hi
    ·have:=rEb i hi;omega
    rcases kl.1 hi with hi|hi
    ·have:=MT i hi;omega
    rcases jy.1 hi with rfl|hi
    ·omega
    exact RQ hW i hi
   ·refine⟨⟨C9++[c8],(Yi.ae kz).upd uS fun i hi hc=>by have:=(Yi.ae kz).lt i hi;omega,by simp[Gb],by simp,fun c hc y hy=>?_,fun j hj=>?_⟩,⟨Da++[cn],(Yj.ae kz).upd uS fun i hi hc=>by have:=(Yj.ae kz).lt i hi;omega,by simp[MS],by simp,fun c hc y hy=>?_,fun j hj=>?_⟩,fun i hi hc=>?_,by rw[T.ai,aq (by omega)];exact(kz.get (n3+1+1+1) (by omega)).trans gEA,by rw[T.ai,aJ rfl],by rw[e3];exact f18.aC z6 Ym Yn⟩
    ·rcases kl.1 hc with hc|hc
     ·exact Rv c hc y hy
     ·simp only[tX]at hc;subst hc;exact nw8 y hy
    ·rw[e1]
     by_cases hjt:j<t
     ·obtain⟨c,x1,x2⟩:=MR j hjt
      refine⟨c,by rw[nj (by omega)];exact x1,?_⟩
      have:pg es j=pg (dS g l p D d t).1 j:=by unfold pg;rw[mA,nj (by omega)]
      rw[this]
      exact fin (MY (Iu x2))
     ·obtain rfl:j=t:=by omega
      refine⟨c8,by rw[qu (by omega),Gb];simp,?_⟩
      have:pg es j=pg d j-(dS g l p D d j).2.2:=by unfold pg;rw[mA,qu (by omega),rl.1,Nat.sub_self];rfl
      rw[this]
      exact fin (MY t8)
    ·rcases kl.1 hc with hc|hc
     ·exact Rw c hc y hy
     ·simp only[tX]at hc;subst hc;exact nwB y hy
    ·rw[e2]
     by_cases hjt:j<t
     ·obtain⟨c,x1,x2⟩:=Rx j hjt
      refine⟨c,by rw[nj (by omega)];exact x1,?_⟩
      have:pg ((dS g l p D d t).2.1++[(dS g l p D d t).2.2]) j=pg (dS g l p D d t).2.1 j:=by unfold pg;rw[nj (by omega)]
      rw[this]
      exact fin (MY (Iu x2))
     ·obtain rfl:j=t:=by omega
      refine⟨cn,by rw[qu (by omega),MS];simp,?_⟩
      have:pg ((dS g l p D d j).2.1++[(dS g l p D d j).2.2]) j=(dS g l p D d j).2.2:=by unfold pg;rw[qu (by omega),rl.2,Nat.sub_self];rfl
      rw[this]
      exact fin (MY tB)
    ·rw[re9]at hi
     rw[Ya]at hc
     simp at hi hc
     omega
 ·rintro _ r ⟨H,n1,W⟩ hr ⟨rfl,hW,nG,oT,ve,vu,cn,ud,hI⟩
  simp only at hW nG oT hI
  obtain⟨⟨C9,Io,Gb,X7,Rv,MR⟩,⟨Da,Gc,MS,X8,Rw,Rx⟩,dj,gE,gB,fB⟩:=hI
  have lE:n3+1+1+1<n1:=by omega
  have lL:=@BF g l p D d d.length
  have fe:mq H n1 ve (eC g l p D d):=HX Io (by rw[Gb];exact lL.1.symm) fun j hj=>by
   have zf:j<d.length:=by simpa[eC,lL.1]using hj
   obtain⟨c,x1,x2⟩:=MR j zf
   refine⟨c,x1,fun q hq=>?_⟩
   have:(eC g l p D d)[j]?=some (pg (dS g l p D d d.length).1 j):=gH (by unfold eC;rw[lL.1];exact zf)
   rw[this]at hq
   simp only[ak]at hq
   rw[<-hq];exact x2
  have fu:mq H n1 vu (C8 g l p D d):=HX Gc (by rw[MS];exact lL.2.symm) fun j hj=>by
   have zf:j<d.length:=by simpa[C8,lL.2]using hj
   obtain⟨c,x1,x2⟩:=Rx j zf
   refine⟨c,x1,fun q hq=>?_⟩
   have:(C8 g l p D d)[j]?=some (pg (dS g l p D d d.length).2.1 j):=gH (by unfold C8;rw[lL.2];exact zf)
   rw[this]at hq
   simp only[ak]at hq
   rw[<-hq];exact x2
  simp(disch:=first|(simp;done)|omega|rfl) [-getElem?_pos, -V.cells, -V.one,hr,ud,gE,lE,hW,aA]
  exact⟨nG,ve,vu,⟨rfl,rfl⟩,fe,fu⟩
def Yn9(l:List aU):Int:=if 64<l.length then 5 else qw l
structure RnH (g l p:aU) (D:Int) (d:List aU):Prop where
 lg:g.length<=40
 ll:l.length<=40
 lp:p.length<=40
 ld:d.length<100000
 fd:∀s∈d,s.length<=64
 q:kj g l p D=0->Qb 40 (bu g)/\Qb 40 (bu l)/\Qb 40 (bu p)
 s:Yn9 d=0->d.length<=12
end Go.Mx
