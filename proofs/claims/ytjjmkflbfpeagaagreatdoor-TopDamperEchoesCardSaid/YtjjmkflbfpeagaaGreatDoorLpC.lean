/-loop-/
import Derived.Test.YtjjmkflbfpeagaaGreatDoorCoA
set_option linter.all false
set_option maxHeartbeats 4000000
namespace Go.Mx
noncomputable section
open Go Go.Proofs
variable {N:Nat} {h:T O}
set_option maxRecDepth 1000000
def A.Xq:=A.q Tryz.f75
def A.rW:=A.ql A.Xq 0 []
def A.b75:=(fun x0=>A.qb A.Xq [x0]) A.rW
def A.k75:=@A.kk 75 54 [.tmp 4] A.b75 (by kernel_rfl) rfl
def A.b30:=A.q Tryz.f30
def A.k30:=@A.kk 30 8 [.tmp 2] A.b30 (by kernel_rfl) rfl
def iR(g l p:Rat)(d:Nat):List Rat:=
 (((((List.range (d+3)).map fun _=>(0:Rat)).set (d+2) 1).set (d+1) (-l)).set 1 ((if d=0 then -l else 0)+g+p)).set 0 (-p)
def jA.QN{R m:Nat}{l:List Rat}(s:jA h N R l m){X:List V}{e:TypeId}{w:Bool}(g:h.get R=some (.cells X e w)):q_ X:=by
 obtain⟨cs,g1,g2,g3⟩:=s.ex
 obtain⟨f1,f2,_⟩:=jA.HS g2 g3
 rw[g1]at g
 simp only[ak,O.cells.injEq]at g
 rw[<-g.1];exact f2.app HT
def jA.at{R j:Nat}{l:List Rat}{q:Rat}(s:jA h N R l 0)(hj:l[j]?=some q){X:List V}{e:TypeId}{w:Bool}(g:h.get R=some (.cells X e w)):∃c,aM X (j*4) 4=some c/\dX h N c q:=by
 obtain⟨cs,g1,g2,g3⟩:=s.ex
 obtain⟨f1,f2,_⟩:=jA.HS g2 g3
 rw[g1]at g
 simp only[ak,O.cells.injEq]at g
 obtain⟨c,a,b⟩:=g3 j q hj
 have hz:df zF 0=[]:=by simp[df]
 rw[<-g.1,hz,yX]
 exact⟨c,ME f1 a,b⟩
def dX.up{c:List V}{q:Rat}(s:dX h N c q):Fc h N (.agg c) q:=by
 obtain⟨a,b,c,d,rfl,e,f⟩:=s
 exact⟨a,b,c,d,rfl,e,f⟩
def Yds{d k:Nat}{x:V}{g l p:Rat}{gs:aU}(hg:Fc h N x g)(bg:Qb k g)(bl:Qb k l)(bp:Qb k p)(hk:k<=50000)(hd:d<=6):Fn A.C 75 [.agg [.str gs,.str (av l),.str (av p),.int .i64 d],x] h N (fun v h' n'=>mq h' n' v (iR g l p d)):=by
 intro w
 obtain⟨na,ua,nb,ub,rfl,sa,sb⟩:=hg
 have oa:=cP sa
 have ob:=cP sb
 unfold V.one at oa ob
 have fg:dX h N [.int .i64 na,ua,.int .i64 nb,ub] g:=⟨na,ua,nb,ub,rfl,sa,sb⟩
 have c1:(64:Int)*((d:Int)+2+1)<=140737488355328:=by omega
 have c2:(d:Int)+2+1<4611686018427387904:=by omega
 have c3:(0:Int)<=(d:Int)+2+1:=by omega
 have ct:((d:Int)+2+1).toNat=d+3:=by omega
 rw[aQ,A.k75 (by simp)]
 simp(disch:=first|(simp;done)|omega|rfl) [-getElem?_pos,A.b75,oa,ob,c1,c2,c3,ct]
 have kB:ad h N (((h.set N (.cells [.str gs,.str (av l),.str (av p),.int .i64 d] 24 true)).set (N+1) (.cells [.int .i64 na,ua,.int .i64 nb,ub] 72 true)).set (N+1+1) (.cells (df [V.int .i64 0,V.aa,V.int .i64 0,V.aa] (d+3)) 72 true)) (N+3):=((ad.refl.new _).new _).new _
 have b0:(((h.set N (.cells [.str gs,.str (av l),.str (av p),.int .i64 d] 24 true)).set (N+1) (.cells [.int .i64 na,ua,.int .i64 nb,ub] 72 true)).set (N+1+1) (.cells (df [V.int .i64 0,V.aa,V.int .i64 0,V.aa] (d+3)) 72 true)).get N=some (.cells [.str gs,.str (av l),.str (av p),.int .i64 d] 24 true):=by simp
 have b1:(((h.set N (.cells [.str gs,.str (av l),.str (av p),.int .i64 d] 24 true)).set (N+1) (.cells [.int .i64 na,ua,.int .i64 nb,ub] 72 true)).set (N+1+1) (.cells (df [V.int .i64 0,V.aa,V.int .i64 0,V.aa] (d+3)) 72 true)).get (N+1)=some (.cells [.int .i64 na,ua,.int .i64 nb,ub] 72 true):=by simp
 have b2:(((h.set N (.cells [.str gs,.str (av l),.str (av p),.int .i64 d] 24 true)).set (N+1) (.cells [.int .i64 na,ua,.int .i64 nb,ub] 72 true)).set (N+1+1) (.cells (df [V.int .i64 0,V.aa,V.int .i64 0,V.aa] (d+3)) 72 true)).get (N+2)=some (.cells (df zF (d+3)) 72 true):=by simp[zF]
 generalize (((h.set N (.cells [.str gs,.str (av l),.str (av p),.int .i64 d] 24 true)).set (N+1) (.cells [.int .i64 na,ua,.int .i64 nb,ub] 72 true)).set (N+1+1) (.cells (df [V.int .i64 0,V.aa,V.int .i64 0,V.aa] (d+3)) 72 true))=hB at*
 refine cX [(7,7),(17,24)] (fun e r st=>e=.exit 0/\aB N st.w=[]/\ad h N st.h st.n/\N+3<=st.n/\st.h.get N=hB.get N/\st.h.get (N+1)=hB.get (N+1)/\jA st.h st.n (N+2) ((List.range (d+3)).map fun _=>0) 0) (fun i r st=>aB N st.w=[]/\ad h N st.h st.n/\N+3<=st.n/\st.h.get N=hB.get N/\st.h.get (N+1)=hB.get (N+1)/\∃t,t+i=d+3/\r.get 17=some (.int .i64 t)/\jA st.h st.n (N+2) ((List.range t).map fun _=>0) i) (d+3) ?_ ?_ ?_
 ·exact⟨by simp,kB,aR (N+3),rfl,rfl,0,by omega,by simp,by show N+2<N+3;omega,[],by rw[b2];simp,rfl,fun j q hq=>by simp at hq⟩
 ·rintro i r ⟨H,n1,W⟩ hr hf ⟨hW,hK,hn,m0,m1,t,ht,h9,hQ⟩
  simp only at hW hK hQ hn m0 m1
  rw[cm]
  cases i with
  |zero=>
   obtain rfl:t=d+3:=by omega
   simp(disch:=first|(simp;done)|omega|rfl) [-getElem?_pos,A.rW,hr,hf,h9,hW,hK,hn,m0,m1]
   exact hQ
  |succ i=>
   have aO:t<d+3:=by omega
   have dB:(t:Int)<(d:Int)+3:=by omega
   simp(disch:=first|(simp;done)|omega|rfl) [-getElem?_pos,A.rW,hr,hf,h9,aO,dB]
   refine au (BB (z:=0) (by decide) (by decide)) ?_
   rintro _ H2 n2 k2 hz
   obtain⟨c,rfl,hc⟩:=hz.c
   obtain⟨e1,e2⟩:=hc.len
   have nk:=k2.le
   have pY:(V.agg c).cells=c:=rfl
   obtain⟨X,x1,x2,x3⟩:=(hQ.ae k2).next hc
   have lN:N+2<n2:=ic hQ.lt nk
   have hl:((List.range t).map fun _=>(0:Rat)).length=t:=by simp
   rw[hl]at x2 x3
   have m0':=(k2.get N (by omega)).trans m0
   have QO:=(k2.get (N+1) (by omega)).trans m1
   simp(disch:=first|(simp;done)|omega|rfl) [-getElem?_pos, -V.cells, -V.one,hr,hf,h9,aO,dB,bS,pY,e1,e2,x1,x2,lN]
   exact⟨i,by omega,by simpa[aB]using hW,(hK.trans k2).set (by omega),by omega,m0',QO,t+1,by omega,by simp,by rw[List.range_succ,List.map_append];exact x3⟩
 ·rintro _ r ⟨H,n1,W⟩ hr ⟨rfl,hW,hK,hn,m0,m1,hQ⟩
  simp only at hW hK hQ hn m0 m1
  rw[b0]at m0
  rw[b1]at m1
  have g0:N<n1:=by omega
  simp(disch:=first|(simp;done)|omega|rfl) [-getElem?_pos,hr,m0,g0]
  refine au (yV bp (by omega)) ?_
  rintro vp h2 n2 k2 hp
  obtain⟨pa,pu,pb,pv,rfl,ta,tb⟩:=hp
  have oc:=cP ta
  have od:=cP tb
  unfold V.one at oc od
  have nk:=k2.le
  have k3:ad h2 n2 ((h2.set n2 (.cells [.int .i64 0,.aa,.int .i64 0,.aa] 72 true)).set n2 (.cells [.int .i64 pa,pu,.int .i64 pb,pv] 72 true)) (n2+1):=(ad.refl.new _).set (aR _)
  have b8:((h2.set n2 (.cells [.int .i64 0,.aa,.int .i64 0,.aa] 72 true)).set n2 (.cells [.int .i64 pa,pu,.int .i64 pb,pv] 72 true)).get n2=some (.cells [.int .i64 pa,pu,.int .i64 pb,pv] 72 true):=by simp
  have fp:dX h2 n2 [.int .i64 pa,pu,.int .i64 pb,pv] p:=⟨pa,pu,pb,pv,rfl,ta,tb⟩
  simp(disch:=first|(simp;done)|omega|rfl) [-getElem?_pos,hr,oc,od,bS,ag]
  generalize (h2.set n2 (.cells [.int .i64 0,.aa,.int .i64 0,.aa] 72 true)).set n2 (.cells [.int .i64 pa,pu,.int .i64 pb,pv] 72 true)=H3 at*
  refine au (BB (z:=1) (by decide) (by decide)) ?_
  rintro _ h4 n4 k4 h1
  replace h1:Fc h4 n4 _ 1:=h1
  obtain⟨c4,rfl,Xr⟩:=h1.c
  obtain⟨e41,e42⟩:=Xr.len
  have QP:(V.agg c4).cells=c4:=rfl
  have lL:((List.range (d+3)).map fun _=>(0:Rat)).length=d+3:=by simp
  obtain⟨X,x1,x2,x3⟩:=(((hQ.ae k2).ae k3).ae k4).put Xr (j:=d+2) (by rw[lL];omega)
  have d1:(d:Int)+2<(d:Int)+3:=by omega
  have d2:((d:Int)+2).toNat=d+2:=by omega
  have d3:(0:Int)<=(d:Int)+2:=by omega
  have vY:=k3.le
  have QQ:=k4.le
  have lR:N+2<n4:=by omega
  have lN4:N<n4:=by omega
  have K4:=(k2.trans k3).trans k4
  have m4:=(K4.get N (by omega)).trans m0
  have m4':=(K4.get (N+1) (by omega)).trans m1
  have p4:=(k4.get n2 (by omega)).trans b8
  simp(disch:=first|(simp;done)|omega|rfl) [-getElem?_pos, -V.cells, -V.one,hr,bS,QP,e41,e42,x1,x2,lR,d1,d2,d3,m4,lN4]
  have Xs:=jA.QN (((hQ.ae k2).ae k3).ae k4) x1
  have Xt:(ag X ((d+2)*4) c4).length=X.length:=CZ (by omega)
  have fg5:=((fg.ae hK).ae K4).aC (c1:=ag X ((d+2)*4) c4) (e1:=72) (w1:=true) x1 Xs Xt
  have fp5:=((fp.ae k3).ae k4).aC (c1:=ag X ((d+2)*4) c4) (e1:=72) (w1:=true) x1 Xs Xt
  have M5:(h4.set (N+2) (.cells (ag X ((d+2)*4) c4) 72 true)).get N=some (.cells [.str gs,.str (av l),.str (av p),.int .i64 d] 24 true):=by rw[T.ai,aq (by omega)];exact m4
  have M5':(h4.set (N+2) (.cells (ag X ((d+2)*4) c4) 72 true)).get (N+1)=some (.cells [.int .i64 na,ua,.int .i64 nb,ub] 72 true):=by rw[T.ai,aq (by omega)];exact m4'
  have P5:(h4.set (N+2) (.cells (ag X ((d+2)*4) c4) 72 true)).get n2=some (.cells [.int .i64 pa,pu,.int .i64 pb,pv] 72 true):=by rw[T.ai,aq (by omega)];exact p4
  have K5:ad h N (h4.set (N+2) (.cells (ag X ((d+2)*4) c4) 72 true)) n4:=(hK.trans K4).set (by omega)
  generalize h4.set (N+2) (.cells (ag X ((d+2)*4) c4) 72 true)=H5 at*
  refine au (yV bl (by omega)) ?_
  rintro v6 h6 n6 k6 hl6
  have wbl:=bl.iF
  simp(disch:=first|(simp;done)|omega|rfl) [-getElem?_pos,]
  refine au (Mw hl6 (by omega)) ?_
  rintro _ h7 n7 k7 hm7
  obtain⟨c7,rfl,MO⟩:=hm7.c
  obtain⟨e71,e72⟩:=MO.len
  have QR:(V.agg c7).cells=c7:=rfl
  have K7:=k6.trans k7
  have lL5:(((List.range (d+3)).map fun _=>(0:Rat)).set (d+2) 1).length=d+3:=by simp
  obtain⟨Y,y1,y2,y3⟩:=(x3.ae K7).put MO (j:=d+1) (by rw[lL5];omega)
  have d4:(d:Int)+2-1<(d:Int)+3:=by omega
  have d5:((d:Int)+2-1).toNat=d+1:=by omega
  have d6:(0:Int)<=(d:Int)+2-1:=by omega
  have Xu:=K7.le
  have lR7:N+2<n7:=by omega
  have lN7:N<n7:=by omega
  simp(disch:=first|(simp;done)|omega|rfl) [-getElem?_pos, -V.cells, -V.one,hr,bS,QR,e71,e72,y1,y2,lR7,d4,d5,d6]
  have Xv:=jA.QN (x3.ae K7) y1
  have Xw:(ag Y ((d+1)*4) c7).length=Y.length:=CZ (by omega)
  have fg8:=(fg5.ae K7).aC (c1:=ag Y ((d+1)*4) c7) (e1:=72) (w1:=true) y1 Xv Xw
  have Xx:=(fp5.ae K7).aC (c1:=ag Y ((d+1)*4) c7) (e1:=72) (w1:=true) y1 Xv Xw
  have M8':(h7.set (N+2) (.cells (ag Y ((d+1)*4) c7) 72 true)).get (N+1)=some (.cells [.int .i64 na,ua,.int .i64 nb,ub] 72 true):=by rw[T.ai,aq (by omega)];exact(K7.get (N+1) (by omega)).trans M5'
  have P8:(h7.set (N+2) (.cells (ag Y ((d+1)*4) c7) 72 true)).get n2=some (.cells [.int .i64 pa,pu,.int .i64 pb,pv] 72 true):=by rw[T.ai,aq (by omega)];exact(K7.get n2 (by omega)).trans P5
  have Y8:(h7.set (N+2) (.cells (ag Y ((d+1)*4) c7) 72 true)).get (N+2)=some (.cells (ag Y ((d+1)*4) c7) 72 true):=by rw[T.ai,aJ rfl]
  have K8:ad h N (h7.set (N+2) (.cells (ag Y ((d+1)*4) c7) 72 true)) n7:=(K5.trans K7).set (by omega)
  generalize h7.set (N+2) (.cells (ag Y ((d+1)*4) c7) 72 true)=H8 at*
  generalize ag Y ((d+1)*4) c7=Z at*
  have g1q:((((List.range (d+3)).map fun _=>(0:Rat)).set (d+2) 1).set (d+1) (-l))[1]?=some (if d=0 then -l else 0):=by
   by_cases kM:d=0
   ·subst kM;simp
   ·rw[eB (by omega),eB (by omega)];simp[kM]
  obtain⟨c1v,s1,Xy⟩:=y3.at g1q Y8
  obtain⟨z1,z2⟩:=Xy.len
  have le8:=K8.le
  have lR8:N+2<n7:=by omega
  have lG8:N+1<n7:=by omega
  have lP8:n2<n7:=by omega
  have q1:(0:Int)<=(d:Int)+3:=by omega
  have q2:(1:Int)<(d:Int)+3:=by omega
  rw[show 1*4=4 from rfl]at s1
  have sg:aM [V.int .i64 na,ua,.int .i64 nb,ub] 0 4=some [.int .i64 na,ua,.int .i64 nb,ub]:=rfl
  have sp:aM [V.int .i64 pa,pu,.int .i64 pb,pv] 0 4=some [.int .i64 pa,pu,.int .i64 pb,pv]:=rfl
  simp(disch:=first|(simp;done)|omega|rfl) [-getElem?_pos, -V.cells, -V.one,hr,aL,Y8,M8',P8,lR8,lG8,lP8,q2,s1,sg,sp]
  have ew:1<=k:=by
   have h1:=bg.2
   have h2:=g.den_pos
   rcases k with _|k
   ·simp at h1;omega
   ·omega
  have bz:Qb k (if d=0 then -l else 0):=by
   split
   ·exact bl.neg
   ·exact(Qb.int (z:=0) (k:=1) (by decide) (by decide)).mono ew
  have wz:=bz.iF
  have wg:=bg.iF
  have wp:=bp.iF
  have ws:=(bz.add bg).iF
  refine au (HN Xy.up fg8.up (by omega) (by omega) (by omega) (by omega)) ?_
  rintro v11 jW QS k11 ha
  have QT:=k11.le
  have P11:=(k11.get n2 (by omega)).trans P8
  have QU:n2<QS:=by omega
  simp(disch:=first|(simp;done)|omega|rfl) [-getElem?_pos, -V.cells, -V.one,hr,aL,P11,QU,sp]
  refine au (HN ha (Xx.ae k11).up (by omega) (by omega) (by omega) (by omega)) ?_
  rintro _ rX eN k12 hb
  obtain⟨c12,rfl,Ib⟩:=hb.c
  obtain⟨QV,QW⟩:=Ib.len
  have Ic:(V.agg c12).cells=c12:=rfl
  have C0:=k11.trans k12
  have QX:=C0.le
  obtain⟨U,u1,u2,u3⟩:=(y3.ae C0).put Ib (j:=1) (by simp)
  have QY:N+2<eN:=by omega
  rw[show 1*4=4 from rfl]at u2 u3
  have bK:¬n2=N+1+1:=by omega
  have P12:=(C0.get n2 (by omega)).trans P8
  have QZ:n2<eN:=by omega
  simp(disch:=first|(simp;done)|omega|rfl) [-getElem?_pos, -V.cells, -V.one,hr,aL,bS,Ic,QV,QW,u1,u2,QY,q2,cD.cG,P12,QZ,bK,sp]
  have Q0:=jA.QN (y3.ae C0) u1
  have Q1:(ag U 4 c12).length=U.length:=CZ (by omega)
  have Q2:=(Xx.ae C0).aC (c1:=ag U 4 c12) (e1:=72) (w1:=true) u1 Q0 Q1
  have P13:(rX.set (N+2) (.cells (ag U 4 c12) 72 true)).get n2=some (.cells [.int .i64 pa,pu,.int .i64 pb,pv] 72 true):=by rw[T.ai,aq (by omega)];exact(C0.get n2 (by omega)).trans P8
  have K13:ad h N (rX.set (N+2) (.cells (ag U 4 c12) 72 true)) eN:=(K8.trans C0).set (by omega)
  generalize rX.set (N+2) (.cells (ag U 4 c12) 72 true)=H13 at*
  refine au (Mw Q2.up (by omega)) ?_
  rintro _ rY Q3 k14 Q4
  obtain⟨c14,rfl,Ie⟩:=Q4.c
  obtain⟨Q5,Q6⟩:=Ie.len
  have Ig:(V.agg c14).cells=c14:=rfl
  have zai:=k14.le
  obtain⟨S,t1,t2,t3⟩:=(u3.ae k14).put Ie (j:=0) (by simp)
  rw[show 0*4=0 from rfl]at t2 t3
  have Q7:N+2<Q3:=by omega
  have q3:(0:Int)<(d:Int)+3:=by omega
  simp(disch:=first|(simp;done)|omega|rfl) [-getElem?_pos, -V.cells, -V.one,hr,aL,bS,Ig,Q5,Q6,t1,t2,Q7,q3,aA]
  have ec:(iR g l p d).length=d+3:=by simp[iR]
  have fin:mq (rY.set (N+2) (.cells (ag S 0 c14) 72 true)) Q3 (.slice (N+2) 0 (iR g l p d).length (some (iR g l p d).length) 4) (iR g l p d):=t3.W9
  rw[ec]at fin
  exact⟨by rw[aq (by omega)];exact hW,(K13.trans k14).set (by omega),fin⟩
def Ym7{d k:Nat}{g l p:Rat}(bg:Qb k g)(bl:Qb k l)(bp:Qb k p)(hk:k<=50000)(hd:d<=6):Fn A.C 30 [.agg [.str (av g),.str (av l),.str (av p),.int .i64 d]] h N (fun v h' n'=>mq h' n' v (iR g l p d)):=by
 intro w
 rw[aQ,A.k30 (by simp)]
 have kB:=aG (ad.refl (h:=h) (n:=N)) (.cells [.str (av g),.str (av l),.str (av p),.int .i64 d] 24 true)
 simp(disch:=first|(simp;done)|omega|rfl) [-getElem?_pos,A.b30,aL,aM]
 generalize h.set N (.cells [.str (av g),.str (av l),.str (av p),.int .i64 d] 24 true)=hB at*
 refine au (yV bg (by omega)) ?_
 rintro v1 h1 n1 k1 h1g
 simp(disch:=first|(simp;done)|omega|rfl) [-getElem?_pos,]
 refine au (Yds h1g bg bl bp hk hd) ?_
 rintro v2 h2 n2 k2 h2g
 simp(disch:=first|(simp;done)|omega|rfl) [-getElem?_pos,cD.cG,aA]
 exact⟨(kB.trans k1).trans k2,h2g⟩
def A.b79:=A.q Tryz.f79
def A.k79:=@A.kk 79 9 [.cell 2 (some 4)] A.b79 (by kernel_rfl) rfl
def A.b77:=A.q Tryz.f77
def A.k77:=@A.kk 77 6 [.tmp 2] A.b77 (by kernel_rfl) rfl
def dL(q:Rat):Rat:=if q<0 then -q else q
def Yja{h:T O}{N:Nat}{x:V}{q:Rat}(hx:Fc h N x q)(l1:wl q.num<1000000000):Fn A.C 79 [x] h N (fun v h' n'=>Fc h' n' v (dL q)):=by
 intro w
 rw[aQ,A.k79 (by simp)]
 obtain⟨n1,u1,n2,u2,rfl,s1,s2⟩:=hx
 have o1:=cP s1
 have o2:=cP s2
 unfold V.one at o1 o2
 have kB:ad h N ((h.set N (.cells [.int .i64 n1,u1,.int .i64 n2,u2] 72 true)).set (N+1) (.cells [.int .i64 0,.aa,.int .i64 0,.aa] 72 true)) (N+2):=aG (aG ad.refl _) _
 have b0:((h.set N (.cells [.int .i64 n1,u1,.int .i64 n2,u2] 72 true)).set (N+1) (.cells [.int .i64 0,.aa,.int .i64 0,.aa] 72 true)).get N=some (.cells [.int .i64 n1,u1,.int .i64 n2,u2] 72 true):=by simp
 have b1:((h.set N (.cells [.int .i64 n1,u1,.int .i64 n2,u2] 72 true)).set (N+1) (.cells [.int .i64 0,.aa,.int .i64 0,.aa] 72 true)).get (N+1)=some (.cells [.int .i64 0,.aa,.int .i64 0,.aa] 72 true):=by simp
 simp(disch:=first|(simp;done)|omega|rfl) [-getElem?_pos,A.b79,aL,aM,ag,o1,o2]
 generalize fV:(h.set N (.cells [.int .i64 n1,u1,.int .i64 n2,u2] 72 true)).set (N+1) (.cells [.int .i64 0,.aa,.int .i64 0,.aa] 72 true)=hB at*
 clear fV
 have hx:Fc hB (N+2) (.agg [.int .i64 n1,u1,.int .i64 n2,u2]) q:=⟨n1,u1,n2,u2,rfl,s1.ae kB,s2.ae kB⟩
 refine au (WO hx) ?_
 rintro _ h1 m1 k1 rfl
 have tU:=k1.le
 have f0:=(k1.get N (by omega)).trans b0
 have f1:=(k1.get (N+1) (by omega)).trans b1
 have e0:N<m1:=by omega
 have e1:N+1<m1:=by omega
 by_cases hz:q<0
 ·have hs:=Ac.2 hz
  simp(disch:=first|(simp;done)|omega|rfl) [-getElem?_pos,f0,e0,hs,aL,aM]
  refine au (Mw (hx.ae k1) l1) ?_
  rintro _ h2 m2 k2 ⟨n3,u3,n4,u4,rfl,t1,t2⟩
  have o3:=cP t1
  have o4:=cP t2
  unfold V.one at o3 o4
  have nk:=k2.le
  have f2:=(k2.get (N+1) (by omega)).trans f1
  have e2:N+1<m2:=by omega
  simp(disch:=first|(simp;done)|omega|rfl) [-getElem?_pos,f2,e2,aL,aM,ag,bS,o3,o4,aA]
  have ea:dL q= -q:=aJ hz
  rw[ea]
  exact⟨((kB.trans k1).trans k2).set (by omega),n3,u3,n4,u4,rfl,t1.aC (i:=N+1) f2 ki rfl,t2.aC (i:=N+1) f2 ki rfl⟩
 ·have hs:¬cY q.num<0:=fun hc=>hz (Ac.1 hc)
  have s1':=(s1.ae kB).ae k1
  have s2':=(s2.ae kB).ae k1
  simp(disch:=first|(simp;done)|omega|rfl) [-getElem?_pos,f0,f1,e0,e1,hs,aL,aM,ag,bS,o1,o2,aA]
  have ea:dL q=q:=aq hz
  rw[ea]
  exact⟨(kB.trans k1).set (by omega),n1,u1,n2,u2,rfl,s1'.aC (i:=N+1) f1 ki rfl,s2'.aC (i:=N+1) f1 ki rfl⟩
def Ydd{h:T O}{N:Nat}{w:List Nat}{v:V}{l:List Rat}(hs:we h N v l)(hb:l.length<100000):A.C.call (.func 77 [] []) [v] ⟨h,N,w⟩=some (.int .i64 ((l.length:Int)-1),⟨h,N,w⟩):=by
 have hl:=hs.len
 apply Call.eq
 rw[aQ,A.k77 (by simp)]
 simp(disch:=first|(simp;done)|omega|rfl) [-getElem?_pos,A.b77,hl]
variable {N:Nat} {h h':T O} {v:V}
abbrev NW(y:V):Prop:=∀m,y≠.int .u64 m
def In.dh{n n':Nat}{x:V}{z:Int}{e:TypeId}(s:In h n x z)(k:np (fun i=>i∈eL v) h n h' n')(hd:Ih e NW h v):In h' n' x z:=by
 rcases s with s|⟨i,o,l,c,s1,s2,s3⟩
 ·exact .inl s
 ·refine .inr ⟨i,o,l,c,s1,Sl.dh s2 k fun j hj hjv=>?_,s3⟩
  simp[eL]at hj
  subst hj
  obtain⟨z2,g1,_,g3⟩:=hd j hjv
  unfold Wn at s2
  have bK:aH z.natAbs≠[]:=fun h0=>by
   have:=kP z.natAbs
   rw[h0]at this
   simp[val]at this
   omega
  obtain⟨d,ds,nZ⟩:=List.exists_cons_of_ne_nil bK
  have Q8:(dg (aH z.natAbs))[0]?=some (.int .u64 d):=by rw[nZ];simp[dg]
  obtain⟨i2,o2,c2,e2,rw2,q1,q2,q3,q4⟩:=Sl.at s2 Q8
  simp[y8]at q1
  obtain⟨rfl,rfl⟩:=q1
  rw[g1]at q3
  simp only[ak,O.cells.injEq]at q3
  obtain⟨rfl,_⟩:=q3
  exact g3 _ (fW q4) _ rfl
def dX.dh{n n':Nat}{c:List V}{q:Rat}{e:TypeId}(s:dX h n c q)(k:np (fun i=>i∈eL v) h n h' n')(hd:Ih e NW h v):dX h' n' c q:=by
 obtain⟨n1,u1,n2,u2,rfl,s1,s2⟩:=s
 exact⟨n1,u1,n2,u2,rfl,s1.dh k hd,s2.dh k hd⟩
def Sn.C1{z:Nat}{l:List (List V)}(s:Sn z h N v l):∀i∈eL v,i<N:=fun i hi=>by
 rcases s with⟨_,rfl|rfl⟩|⟨j,o,cp,c,e,rw,rfl,hj,_⟩
 ·simp[eL]at hi
 ·simp[eL]at hi
 ·simp[eL]at hi;omega
def Sn.dh{z:Nat}{D:Nat->Prop}{N':Nat}{l:List (List V)}(s:Sn z h N v l)(k:np D h N h' N')(hd:∀i∈eL v,¬D i):Sn z h' N' v l:=by
 rcases s with s|⟨i,o,cp,c,e,rw,rfl,h2,h3,h4⟩
 ·exact .inl s
 ·exact .inr ⟨i,o,cp,c,e,rw,rfl,ic h2 k.le,(k.get i h2 (hd i (by simp[eL]))).trans h3,h4⟩
def mq.ae{N':Nat}{u:V}{l:List Rat}(s:mq h N u l)(k:ad h N h' N'):mq h' N' u l:=⟨s.1.ae k,fun i hi=>by
 obtain⟨cs,h1,_⟩:=s.1
 rw[k.get i (h1.C1 i hi)]
 exact s.2 i hi⟩
def HX{N0:Nat}{out:List (List V)}{l:List Rat}(s:Own 4 72 N0 h N v out)(hl:out.length=l.length)(hc:∀(j:Nat),j<l.length->∃c,out[j]?=some c/\∀q,l[j]?=some q->dX h N c q):mq h N v l:=by
 refine⟨⟨out,s.sn,hl,fun j q hq=>?_⟩,fun i hi=>?_⟩
 ·obtain⟨c,g1,g2⟩:=hc j (uZ hq)
  exact⟨c,g1,g2 q hq⟩
 ·obtain⟨_,⟨_,rfl⟩|⟨j,rfl,_,_,hg⟩⟩:=s
  ·simp[eL]at hi
  ·simp[eL]at hi;subst hi;exact⟨_,_,hg⟩
variable {k:Nat}
def A.Q9:=A.q Tryz.f33
def A.rZ:=A.ql A.Q9 1 []
def A.r_:=(fun x0=>A.ql A.Q9 0 [x0]) A.rZ
def A.b33:=(fun x0=>A.qb A.Q9 [x0]) A.r_
def A.k33:=@A.kk 33 51 [.tmp 2] A.b33 (by kernel_rfl) rfl
def pg(p:List Rat)(i:Nat):Rat:=(p[i]?).getD 0
def gH{p:List Rat}{i:Nat}(h:i<p.length):p[i]?=some (pg p i):=by
 unfold pg;rw[dT h];rfl
def iz(p:List Rat):Rat:=pg p 0/pg p (p.length-1)
def oU(p:List Rat):List Rat:=(List.range (p.length-1)).map fun k=>pg p (k+1)-iz p*pg p (p.length-1-1-k)
def Zip:Nat->List Rat->Bool
 |0,_=>true
 |n+1,p=>if p.length<=1 then true else if 1<=dL (iz p) then false else Zip n (oU p)
def HZ{p:List Rat}:(oU p).length=p.length-1:=by simp[oU]
def QK{p:List Rat}(h:k<p.length-1):pg (oU p) k=pg p (k+1)-iz p*pg p (p.length-1-1-k):=by
 show ((oU p)[k]?).getD 0=_
 unfold oU;simp[h]
def Yl6{q:Rat}(h:dL q<1):q*q≠1:=by
 intro hc
 have h2:(q-1)*(q+1)=0:=by grind
 rcases Rat.mul_eq_zero.1 h2 with h3|h3
 ·obtain rfl:q=1:=by grind
  exact absurd h (by decide)
 ·obtain rfl:q= -1:=by grind
  exact absurd h (by decide)
def Ybg{p:List Rat}(h1:1<p.length)(h0:pg p (p.length-1)≠0)(hr:dL (iz p)<1):pg (oU p) ((oU p).length-1)≠0:=by
 rw[HZ,QK (by omega),show p.length-1-1+1=p.length-1 from by omega,show p.length-1-1-(p.length-1-1)=0 from by omega]
 have e:iz p*pg p 0=iz p*iz p*pg p (p.length-1):=by
  have:pg p 0=iz p*pg p (p.length-1):=by unfold iz;exact(Rat.div_mul_cancel h0).symm
  rw[Rat.mul_assoc,<-this]
 rw[e]
 have:=Yl6 hr
 intro hc
 apply this
 have h2:(1-iz p*iz p)*pg p (p.length-1)=0:=by grind
 rcases Rat.mul_eq_zero.1 h2 with h|h
 ·grind
 ·exact absurd h h0
def Xk{p:List Rat}{n:Nat}(h:p.length<=1):Zip n p=true:=by
 cases n with
 |zero=>rfl
 |succ n=>unfold Zip;rw[aJ h]
def Xz{p:List Rat}(h1:1<=p.length)(h0:pg p (p.length-1)≠0)(hq:∀q∈p,Qb k q):Qb (k+k) (iz p):=by
 have a:=hq _ (fW (gH (p:=p) (i:=0) (by omega)))
 have b:=hq _ (fW (gH (p:=p) (i:=p.length-1) (by omega)))
 unfold iz;rw[Rat.div_def]
 exact a.mul (b.inv h0)
def Yka{p:List Rat}(h1:1<=p.length)(hk:1<=k)(h0:pg p (p.length-1)≠0)(hq:∀q∈p,Qb k q):∀q∈oU p,Qb (5*k) q:=by
 intro q hm
 unfold oU at hm
 obtain⟨j,hj,rfl⟩:=tV.1 hm
 rw[List.mem_range]at hj
 have a:=hq _ (fW (gH (p:=p) (i:=j+1) (by omega)))
 have b:=hq _ (fW (gH (p:=p) (i:=p.length-1-1-j) (by omega)))
 exact(a.sub ((Xz h1 h0 hq).mul b)).mono (by omega)
structure Ysb (h:T O) (N:Nat) (l:List Rat) (k m:Nat) (r:T V) (st:St):Prop where
 w:aB N st.w=[]
 ae:ad h N st.h st.n
 ex:∃(v:V) (p:List Rat),r.get 0=some v/\r.get 3=some (.bool true)/\mq st.h st.n v p/\p.length=m+1/\m+1<=l.length/\pg p m≠0/\(∀q∈p,Qb (k*5^(l.length-1-m)) q)/\Zip (m+1) p=Zip l.length l
def Yaa{h:T O}{N:Nat}{v:V}{l:List Rat}(hs:mq h N v l)(h1:1<=l.length)(hl:l.length<=13)(h0:pg l (l.length-1)≠0)(hq:∀q∈l,Qb k q)(hk:1<=k)(kf:k*5^(l.length-1)<=400000000):Fn A.C 33 [v] h N (fun x _ _=>x=.bool (Zip l.length l)):=by
 intro w
 rw[aQ,A.k33 (by simp)]
 simp(disch:=first|(simp;done)|omega|rfl) [-getElem?_pos,A.b33]
 refine cX [(0,0),(3,49)] (fun e r st=>e=.exit 0/\aB N st.w=[]/\ad h N st.h st.n/\r.get 3=some (.bool (Zip l.length l))) (Ysb h N l k) (l.length-1) ?_ ?_ ?_
 ·refine⟨by simp,ad.refl,v,l,by simp,by simp,hs,by omega,by omega,h0,fun q hm=>?_,by rw[show l.length-1+1=l.length from by omega]⟩
  rw[Nat.sub_self,Ag,se];exact hq q hm
 ·rintro m r ⟨H,n1,W⟩ hr hf ⟨hW,hK,v,p,r0,r3,hp,pl,pll,pz,pq,ps⟩
  simp only at hW hK hp
  have dg:=fun w=>Ydd (w:=w) hp.1 (by omega)
  rw[pl]at dg
  rw[cm]
  cases m with
  |zero=>
   rw[Xk (by omega)]at ps
   simp(disch:=first|(simp;done)|omega|rfl) [-getElem?_pos,A.r_,hr,hf,r0,dg,r3,hW,hK,<-ps]
  |succ m=>
   obtain⟨i0,o0,x0,e0,w0,c0,a1,a2,a3,a4,a5⟩:=hp.1.at (gH (p:=p) (i:=0) (by omega))
   obtain⟨i1,o1,x1,e1,w1,c1,b1,b2,b3,b4,b5⟩:=hp.1.at (gH (p:=p) (i:=m+1) (by omega))
   rw[a1]at b1
   obtain⟨rfl,rfl⟩:i0=i1/\o0=o1:=by simpa using b1
   have lv:=hp.1.len
   rw[pl]at lv
   rw[a3]at b3
   obtain⟨rfl,rfl,rfl⟩:x0=x1/\e0=e1/\w0=w1:=by simpa using b3
   rw[Nat.zero_mul,ri]at a4
   have g1:(0:Int)<((m+1+1:Nat):Int)-1:=by omega
   have g2:((m+1+1:Nat):Int)-1<((m+1+1:Nat):Int):=by omega
   have g3:(((m+1+1:Nat):Int)-1).toNat=m+1:=by omega
   have g4:(0:Int)<((m+1+1:Nat):Int):=by omega
   have g5:(0:Int)<=((m+1+1:Nat):Int)-1:=by omega
   simp(disch:=first|(simp;done)|omega|rfl) [-getElem?_pos,A.r_,hr,hf,r0,r3,dg,lv,a1,a2,a3,a4,b4,g1,g2,g3,g4,g5,aL]
   have wh:k*5^(l.length-1-(m+1))*5=k*5^(l.length-1-m):=by
    rw[tZ,<-fv];congr 2;omega
   have hB1:k*5^(l.length-1-m)<=400000000:=qz (iT k (nY (by omega) (by omega))) kf
   have hBk:1<=k*5^(l.length-1-(m+1)):=sh hk (vf (by omega))
   generalize hB:k*5^(l.length-1-(m+1))=B at*
   have Ra:pg p (p.length-1)≠0:=by rw[pl];exact pz
   have ql:=Yka (by omega) hBk Ra pq
   have qr:=Xz (by omega) Ra pq
   have qa:=pq _ (fW (gH (p:=p) (i:=0) (by omega)))
   have qb:=pq _ (fW (gH (p:=p) (i:=m+1) (by omega)))
   have wa:=qa.iF
   have wb:=qb.iF
   have wc:=(qb.inv pz).iF
   have wr:=qr.iF
   have er:pg p 0/pg p (m+1)=iz p:=by unfold iz;rw[pl];rfl
   refine au (Ylb a5.fc b5.fc pz (by omega) (by omega) (by omega) (by omega) (by omega) (by omega)) ?_
   rintro _ h2 n2 k2 dW
   rw[er]at dW
   obtain⟨c2,rfl,wi⟩:=dW.c
   obtain⟨f1,f2⟩:=wi.len
   have pY:(V.agg c2).cells=c2:=rfl
   have e4:ag zF 0 c2=c2:=by unfold ag;rw[f1];simp[f1,zF]
   have s0:aM c2 0 4=some c2:=by unfold aM;rw[f1];simp;exact gI (by omega)
   unfold zF at e4
   have nk:=k2.le
   have kA:ad h2 n2 ((h2.set n2 (.cells [.int .i64 0,.aa,.int .i64 0,.aa] 72 true)).set n2 (.cells c2 72 true)) (n2+1):=(ad.refl.new _).set (aR _)
   have g2:((h2.set n2 (.cells [.int .i64 0,.aa,.int .i64 0,.aa] 72 true)).set n2 (.cells c2 72 true)).get n2=some (.cells c2 72 true):=by simp
   simp(disch:=first|(simp;done)|omega|rfl) [-getElem?_pos, -V.cells, -V.one,hr,hf,r0,r3,pY,f1,f2,e4,bS,cD.cG,aL,s0]
   generalize (h2.set n2 (.cells [.int .i64 0,.aa,.int .i64 0,.aa] 72 true)).set n2 (.cells c2 72 true)=H3 at*
   refine au (Yja (dW.ae kA) (by omega)) ?_
   rintro v4 h4 n4 k4 y_
   have Rb:Qb (B+B) (dL (iz p)):=by
    unfold dL;split
    ·exact qr.neg
    ·exact qr
   have zaj:=Rb.iF
   have w1:=(Qb.int (z:=1) (k:=1) (by decide) (by decide)).iF
   simp(disch:=first|(simp;done)|omega|rfl) [-getElem?_pos,]
   refine au (BB (z:=1) (by decide) (by decide)) ?_
   rintro v5 h5 n5 k5 Ii
   simp(disch:=first|(simp;done)|omega|rfl) [-getElem?_pos,]
   refine au (WY (y_.ae k5) Ii (by omega) (by omega) (by omega) (by omega)) ?_
   rintro _ h6 n6 k6 rfl
   have ec:(0<=cY ((dL (iz p)).num*(((1:Int):Rat).den:Nat)-((1:Int):Rat).num*((dL (iz p)).den:Nat)))↔1<=dL (iz p):=by
    have h1:dL (iz p)<1↔(dL (iz p)).num*(((1:Int):Rat).den:Nat)<((1:Int):Rat).num*((dL (iz p)).den:Nat):=by
     rw[Rat.lt_iff];rfl
    rw[<-Rat.not_lt,h1];unfold cY;split
    ·constructor<;>intro<;>omega
    ·split<;>constructor<;>intro<;>omega
   generalize cY ((dL (iz p)).num*(((1:Int):Rat).den:Nat)-((1:Int):Rat).num*((dL (iz p)).den:Nat))=cz at*
   have kD:=((kA.trans k4).trans k5).trans k6
   have K6:=(hK.trans k2).trans kD
   have ps2:Zip (m+1+1) p=if 1<=dL (iz p) then false else Zip (m+1) (oU p):=by
    conv=>lhs;unfold Zip
    rw[aq (by omega)]
   rw[ps2]at ps
   by_cases cc:1<=dL (iz p)
   ·have xc:=ec.2 cc
    rw[aJ cc]at ps
    have F5:=hK.le
    simp(disch:=first|(simp;done)|omega|rfl) [-getElem?_pos,hr,hf,r0,r3,xc,hW,K6,<-ps]
    omega
   ·have xc:¬0<=cz:=fun h=>cc (ec.1 h)
    rw[aq cc]at ps
    have XA:dL (iz p)<1:=Rat.not_le.1 cc
    simp(disch:=first|(simp;done)|omega|rfl) [-getElem?_pos,hr,hf,r0,r3,xc]
    have F5:=hK.le
    have leD:=kD.le
    have leE:=((k4.trans k5).trans k6).le
    have g6:=(((k4.trans k5).trans k6).get n2 (by omega)).trans g2
    have hc6:=wi.ae kD
    have XB:=(hp.ae k2).ae kD
    have W6:aB N (n2::W)=[]:=by simp[aB,hW];omega
    have lv6:=XB.1.len
    rw[pl]at lv6
    have bzr:=fun j (hj:j<(oU p).length)=>ql _ (fW (gH hj))
    have nl:(oU p).length=m+1:=by rw[HZ,pl];rfl
    refine cX [(6,7),(27,48)] (fun e r st=>e=.exit 2/\aB N st.w=[]/\ad h6 n6 st.h st.n/\∃u,r.get 6=some u/\mq st.h st.n u (oU p)) (fun i r st=>aB N st.w=[]/\ad h6 n6 st.h st.n/\∃(t:Nat) (u:V) (out:List (List V)),t+i=m+1/\r.get 27=some (.int .i64 t)/\r.get 6=some u/\Own 4 72 n6 st.h st.n u out/\out.length=t/\(out=[]->u=.aa)/\(∀c∈out,∀y∈c,NW y)/\∀j,j<t->∃c,out[j]?=some c/\dX st.h st.n c (pg (oU p) j)) (m+1) ?_ ?_ ?_
    ·exact⟨W6,ad.refl,0,.aa,[],by omega,by simp,by simp,Own.nil,rfl,fun _=>rfl,by simp,fun j hj=>by omega⟩
    ·rintro i r' ⟨H7,n7,W7⟩ iA C2 ⟨F7,za,t,u,out,ht,Rc,r6,ho,rM,Re,hY,si⟩
     simp only at F7 za ho si
     rw[cm]
     cases i with
     |zero=>
      obtain rfl:t=m+1:=by omega
      simp(disch:=first|(simp;done)|omega|rfl) [-getElem?_pos,A.rZ,iA,C2,Rc,F7,za]
      exact⟨u,r6,HX ho (by rw[rM,nl]) fun j hj=>by
       obtain⟨c,x1,x2⟩:=si j (by omega)
       refine⟨c,x1,fun q hq=>?_⟩
       rw[gH (by rw[nl];omega)]at hq
       simp only[ak]at hq
       rw[<-hq];exact x2⟩
     |succ i=>
      have aO:t<m+1:=by omega
      have dB:(t:Int)<(m:Int)+1:=by omega
      have Rf:=XB.ae za
      have XC:=Rf.1.len
      rw[pl]at XC
      have Xu:=za.le
      have g7:=(za.get n2 (by omega)).trans g6
      have MO:=hc6.ae za
      obtain⟨j0,u0,y0,z0,q0,d0,b1,b2,b3,b4,b5⟩:=Rf.1.at (gH (p:=p) (i:=t+1) (by omega))
      obtain⟨j1,u1,y1,z1,q1,d1,x1,x2,x3,x4,x5⟩:=Rf.1.at (gH (p:=p) (i:=m-t) (by omega))
      rw[b1]at x1
      obtain⟨rfl,rfl⟩:j0=j1/\u0=u1:=by simpa using x1
      rw[b3]at x3
      obtain⟨rfl,rfl,rfl⟩:y0=y1/\z0=z1/\q0=q1:=by simpa using x3
      have i1:(0:Int)<=(t:Int)+1:=by omega
      have i2:(t:Int)+1<((m+1+1:Nat):Int):=by omega
      have i3:((t:Int)+1).toNat=t+1:=by omega
      have i4:(0:Int)<=(m:Int)-t:=by omega
      have i5:(m:Int)-t<((m+1+1:Nat):Int):=by omega
      have i6:((m:Int)-t).toNat=m-t:=by omega
      have i7:n2<n7:=by omega
      have bx:=pq _ (fW (gH (p:=p) (i:=t+1) (by omega)))
      have XD:=pq _ (fW (gH (p:=p) (i:=m-t) (by omega)))
      have wx:=bx.iF
      have wy:=XD.iF
      have bm:=qr.mul XD
      have wm:=bm.iF
      simp(disch:=first|(simp;done)|omega|rfl) [-getElem?_pos,A.rZ,iA,C2,hr,hf,r0,r3,Rc,r6,dB,XC,b1,b2,b3,b4,x4,g7,s0,i1,i2,i3,i4,i5,i6,i7,aL]
      refine au (HQ MO.fc x5.fc (by omega) (by omega) (by omega) (by omega)) ?_
      rintro v8 h8 n8 k8 Rh
      simp(disch:=first|(simp;done)|omega|rfl) [-getElem?_pos,]
      refine au (My (b5.ae k8).fc Rh (by omega) (by omega) (by omega) (by omega)) ?_
      rintro _ h9 n9 k9 XE
      have en:pg p (t+1)-iz p*pg p (m-t)=pg (oU p) t:=by
       rw[QK (by omega),pl,show m+1+1-1-1-t=m-t from by omega]
      rw[en]at XE
      obtain⟨c9,rfl,Ri⟩:=XE.c
      obtain⟨f91,f92⟩:=Ri.len
      have Rj:(V.agg c9).cells=c9:=rfl
      have e9:ag zF 0 c9=c9:=by unfold ag;rw[f91];simp[f91,zF]
      unfold zF at e9
      have K9:=k8.trans k9
      have le9:=K9.le
      have ho9:Own 4 72 n6 (h9.set n9 (.cells c9 72 true)) (n9+1) u out:=(ho.ae K9).ae (ad.refl.new _)
      have nw9:∀y∈c9,NW y:=Ri.CX
      obtain⟨u',h',w',j1',j2',j3',XF,jD,j5'⟩:=HY (Y:=NW) (x:=c9) (u:=.slice n9 0 1 (some 1) 4) (bytes:=64) (w:=[]) ho9 Re hY (by omega) (by decide) f91 (by simp only[iQ,St.row,T.ai,if_true];unfold aM;simp[f91];exact gI (by omega)) (by omega)
      have ow:aB N w'=[]:=QH j2' (by omega) rfl
      simp(disch:=first|(simp;done)|omega|rfl) [-getElem?_pos, -aB, -V.cells, -V.one,iA,C2,Rc,r6,Rj,f91,f92,e9,j1']
      refine⟨i,by omega,Yj5 ow F7,((za.trans K9).trans (ad.refl.new (.cells c9 72 true))).then j3',t+1,by omega,by simp,out++[c9],j5',by simp[rM],by simp,fun c hc y hy=>?_,fun j hj=>?_⟩
      ·rcases kl.1 hc with hc|hc
       ·exact hY c hc y hy
       ·simp only[tX]at hc;subst hc;exact nw9 y hy
      ·by_cases hjt:j<t
       ·obtain⟨c,e1',e2'⟩:=si j hjt
        exact⟨c,by rw[nj (by omega)];exact e1',((e2'.ae K9).ae (ad.refl.new _)).dh XF jD⟩
       ·obtain rfl:j=t:=by omega
        exact⟨c9,by rw[qu (by omega),rM];simp,(Ri.ae (ad.refl.new _)).dh XF jD⟩
    ·rintro _ r' ⟨H7,n7,W7⟩ iA ⟨rfl,F7,za,u,r6,hu⟩
     simp only at F7 za hu
     have BI:=Ybg (by omega) Ra XA
     rw[nl,show m+1-1=m from rfl]at BI
     rw[fR B 5]at wh
     simp(disch:=first|(simp;done)|omega|rfl) [-getElem?_pos,iA,r6,hr,hf,r3]
     have FY:=hf.inner (D':=[(6,7),(27,48)]) rfl (fun hh=>by simpa using hh) iA
     exact⟨by simpa using FY,m,by omega,F7,K6.trans za,u,oU p,by simp,by simp[iA,r3],hu,nl,by omega,BI,by rw[<-wh];exact ql,ps⟩
 ·rintro _ r ⟨H,n1,W⟩ hr ⟨rfl,hW,hK,h3⟩
  simp only at hW hK
  simp(disch:=first|(simp;done)|omega|rfl) [-getElem?_pos,hr,h3,aA,hW,hK]
end
end Go.Mx
