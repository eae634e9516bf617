/-loop-/
import Derived.Test.YtlbnjhhebffhdaaGreatDoorVaE
set_option linter.all false
namespace Go.Mx
noncomputable section
open Go Go.Proofs
variable {N:Nat} {h:T O}
set_option maxRecDepth 1000000
def A.RH:=A.q Tryz.f106
def A.zjr:=A.ql A.RH 0 []
def A.b106:=(fun x0=>A.qb A.RH [x0]) A.zjr
def A.k106:=@A.kk 106 54 [.tmp 4] A.b106 (by kernel_rfl) rfl
def A.b114:=A.q Tryz.f114
def A.k114:=@A.kk 114 8 [.tmp 2] A.b114 (by kernel_rfl) rfl
def aJ(g l p:Rat)(d:Nat):List Rat:=
 (((((List.range (d+3)).map fun _=>(0:Rat)).set (d+2) 1).set (d+1) (-l)).set 1 ((if d=0 then -l else 0)+g+p)).set 0 (-p)
def jQ.nou{R m:Nat}{l:List Rat}(s:jQ h N R l m){X:List V}{e:TypeId}{w:Bool}(g:h.get R=some (.cells X e w)):sY X:=by
 obtain⟨cs,g1,g2,g3⟩:=s.ex
 obtain⟨f1,f2,_⟩:=jQ.RG g2 g3
 rw[g1]at g
 simp only[au,O.cells.injEq]at g
 rw[<-g.1];exact f2.app Ni
def jQ.at{R j:Nat}{l:List Rat}{q:Rat}(s:jQ h N R l 0)(hj:l[j]?=some q){X:List V}{e:TypeId}{w:Bool}(g:h.get R=some (.cells X e w)):∃c,aK X (j*4) 4=some c/\fz h N c q:=by
 obtain⟨cs,g1,g2,g3⟩:=s.ex
 obtain⟨f1,f2,_⟩:=jQ.RG g2 g3
 rw[g1]at g
 simp only[au,O.cells.injEq]at g
 obtain⟨c,a,b⟩:=g3 j q hj
 have hz:dr zF 0=[]:=by simp[dr]
 rw[<-g.1,hz,AP]
 exact⟨c,NJ f1 a,b⟩
def fz.up{c:List V}{q:Rat}(s:fz h N c q):Fc h N (.agg c) q:=by
 obtain⟨a,b,c,d,rfl,e,f⟩:=s
 exact⟨a,b,c,d,rfl,e,f⟩
def Zoj{d k:Nat}{x:V}{g l p:Rat}{gs:bj}(hg:Fc h N x g)(bg:Qb k g)(bl:Qb k l)(bp:Qb k p)(hk:k<=50000)(hd:d<=6):Fn A.C 106 [.agg [.str gs,.str (Zao l),.str (Zao p),.int .i64 d],x] h N (fun v h' n'=>Al h' n' v (aJ g l p d)):=by
 intro w
 obtain⟨na,ua,nb,ub,rfl,sa,sb⟩:=hg
 have oa:=Zaj sa
 have ob:=Zaj sb
 unfold V.one at oa ob
 have fg:fz h N [.int .i64 na,ua,.int .i64 nb,ub] g:=⟨na,ua,nb,ub,rfl,sa,sb⟩
 have c1:(64:Int)*((d:Int)+2+1)<=140737488355328:=by omega
 have c2:(d:Int)+2+1<4611686018427387904:=by omega
 have c3:(0:Int)<=(d:Int)+2+1:=by omega
 have ct:((d:Int)+2+1).toNat=d+3:=by omega
 rw[aZ,A.k106 (by simp)]
 simp(disch:=first|(simp;done)|omega|rfl) [-getElem?_pos,A.b106,oa,ob,c1,c2,c3,ct]
 have kB:ah h N (((h.set N (.cells [.str gs,.str (Zao l),.str (Zao p),.int .i64 d] 48 true)).set (N+1) (.cells [.int .i64 na,ua,.int .i64 nb,ub] 102 true)).set (N+1+1) (.cells (dr [V.int .i64 0,V.ziA,V.int .i64 0,V.ziA] (d+3)) 102 true)) (N+3):=((ah.refl.new _).new _).new _
 have b0:(((h.set N (.cells [.str gs,.str (Zao l),.str (Zao p),.int .i64 d] 48 true)).set (N+1) (.cells [.int .i64 na,ua,.int .i64 nb,ub] 102 true)).set (N+1+1) (.cells (dr [V.int .i64 0,V.ziA,V.int .i64 0,V.ziA] (d+3)) 102 true)).get N=some (.cells [.str gs,.str (Zao l),.str (Zao p),.int .i64 d] 48 true):=by simp
 have b1:(((h.set N (.cells [.str gs,.str (Zao l),.str (Zao p),.int .i64 d] 48 true)).set (N+1) (.cells [.int .i64 na,ua,.int .i64 nb,ub] 102 true)).set (N+1+1) (.cells (dr [V.int .i64 0,V.ziA,V.int .i64 0,V.ziA] (d+3)) 102 true)).get (N+1)=some (.cells [.int .i64 na,ua,.int .i64 nb,ub] 102 true):=by simp
 have b2:(((h.set N (.cells [.str gs,.str (Zao l),.str (Zao p),.int .i64 d] 48 true)).set (N+1) (.cells [.int .i64 na,ua,.int .i64 nb,ub] 102 true)).set (N+1+1) (.cells (dr [V.int .i64 0,V.ziA,V.int .i64 0,V.ziA] (d+3)) 102 true)).get (N+2)=some (.cells (dr zF (d+3)) 102 true):=by simp[zF]
 generalize (((h.set N (.cells [.str gs,.str (Zao l),.str (Zao p),.int .i64 d] 48 true)).set (N+1) (.cells [.int .i64 na,ua,.int .i64 nb,ub] 102 true)).set (N+1+1) (.cells (dr [V.int .i64 0,V.ziA,V.int .i64 0,V.ziA] (d+3)) 102 true))=hB at*
 refine Zal [(7,7),(17,24)] (fun e r st=>e=.exit 0/\aL N st.w=[]/\ah h N st.h st.n/\N+3<=st.n/\st.h.get N=hB.get N/\st.h.get (N+1)=hB.get (N+1)/\jQ st.h st.n (N+2) ((List.range (d+3)).map fun _=>0) 0) (fun i r st=>aL N st.w=[]/\ah h N st.h st.n/\N+3<=st.n/\st.h.get N=hB.get N/\st.h.get (N+1)=hB.get (N+1)/\∃t,t+i=d+3/\r.get 17=some (.int .i64 t)/\jQ st.h st.n (N+2) ((List.range t).map fun _=>0) i) (d+3) ?_ ?_ ?_
 ·exact⟨by simp,kB,Yv5 (N+3),rfl,rfl,0,by omega,by simp,by show N+2<N+3;omega,[],by rw[b2];simp,rfl,fun j q hq=>by simp at hq⟩
 ·rintro i r ⟨H,n1,W⟩ hr hf ⟨hW,hK,hn,m0,m1,t,ht,h9,hQ⟩
  simp only at hW hK hQ hn m0 m1
  rw[cn]
  cases i with
  |zero=>
   obtain rfl:t=d+3:=by omega
   simp(disch:=first|(simp;done)|omega|rfl) [-getElem?_pos,A.zjr,hr,hf,h9,hW,hK,hn,m0,m1]
   exact hQ
  |succ i=>
   have aW:t<d+3:=by omega
   have zij:(t:Int)<(d:Int)+3:=by omega
   simp(disch:=first|(simp;done)|omega|rfl) [-getElem?_pos,A.zjr,hr,hf,h9,aW,zij]
   refine av (BI (z:=0) (by decide) (by decide)) ?_
   rintro _ H2 n2 k2 hz
   obtain⟨c,rfl,hc⟩:=hz.c
   obtain⟨e1,e2⟩:=hc.len
   have oH:=k2.le
   have lO:(V.agg c).cells=c:=rfl
   obtain⟨X,x1,x2,x3⟩:=(hQ.ai k2).next hc
   have lN:N+2<n2:=iL hQ.lt oH
   have hl:((List.range t).map fun _=>(0:Rat)).length=t:=by simp
   rw[hl]at x2 x3
   have m0':=(k2.get N (by omega)).trans m0
   have m1':=(k2.get (N+1) (by omega)).trans m1
   simp(disch:=first|(simp;done)|omega|rfl) [-getElem?_pos, -V.cells, -V.one,hr,hf,h9,aW,zij,bM,lO,e1,e2,x1,x2,lN]
   exact⟨i,by omega,by simpa[aL]using hW,(hK.trans k2).set (by omega),by omega,m0',m1',t+1,by omega,by simp,by rw[List.range_succ,List.map_append];exact x3⟩
 ·rintro _ r ⟨H,n1,W⟩ hr ⟨rfl,hW,hK,hn,m0,m1,hQ⟩
  simp only at hW hK hQ hn m0 m1
  rw[b0]at m0
  rw[b1]at m1
  have g0:N<n1:=by omega
  simp(disch:=first|(simp;done)|omega|rfl) [-getElem?_pos,hr,m0,g0]
  refine av (AB bp (by omega)) ?_
  rintro vp h2 n2 k2 hp
  obtain⟨pa,pu,pb,pv,rfl,ta,tb⟩:=hp
  have oc:=Zaj ta
  have od:=Zaj tb
  unfold V.one at oc od
  have oH:=k2.le
  have k3:ah h2 n2 ((h2.set n2 (.cells [.int .i64 0,.ziA,.int .i64 0,.ziA] 102 true)).set n2 (.cells [.int .i64 pa,pu,.int .i64 pb,pv] 102 true)) (n2+1):=(ah.refl.new _).set (Yv5 _)
  have b8:((h2.set n2 (.cells [.int .i64 0,.ziA,.int .i64 0,.ziA] 102 true)).set n2 (.cells [.int .i64 pa,pu,.int .i64 pb,pv] 102 true)).get n2=some (.cells [.int .i64 pa,pu,.int .i64 pb,pv] 102 true):=by simp
  have fp:fz h2 n2 [.int .i64 pa,pu,.int .i64 pb,pv] p:=⟨pa,pu,pb,pv,rfl,ta,tb⟩
  simp(disch:=first|(simp;done)|omega|rfl) [-getElem?_pos,hr,oc,od,bM,aj]
  generalize (h2.set n2 (.cells [.int .i64 0,.ziA,.int .i64 0,.ziA] 102 true)).set n2 (.cells [.int .i64 pa,pu,.int .i64 pb,pv] 102 true)=H3 at*
  refine av (BI (z:=1) (by decide) (by decide)) ?_
  rintro _ h4 n4 k4 h1
  replace h1:Fc h4 n4 _ 1:=h1
  obtain⟨c4,rfl,hc4⟩:=h1.c
  obtain⟨e41,e42⟩:=hc4.len
  have zeU:(V.agg c4).cells=c4:=rfl
  have lL:((List.range (d+3)).map fun _=>(0:Rat)).length=d+3:=by simp
  obtain⟨X,x1,x2,x3⟩:=(((hQ.ai k2).ai k3).ai k4).put hc4 (j:=d+2) (by rw[lL];omega)
  have d1:(d:Int)+2<(d:Int)+3:=by omega
  have d2:((d:Int)+2).toNat=d+2:=by omega
  have d3:(0:Int)<=(d:Int)+2:=by omega
  have KU:=k3.le
  have le4:=k4.le
  have lR:N+2<n4:=by omega
  have lN4:N<n4:=by omega
  have K4:=(k2.trans k3).trans k4
  have m4:=(K4.get N (by omega)).trans m0
  have m4':=(K4.get (N+1) (by omega)).trans m1
  have p4:=(k4.get n2 (by omega)).trans b8
  simp(disch:=first|(simp;done)|omega|rfl) [-getElem?_pos, -V.cells, -V.one,hr,bM,zeU,e41,e42,x1,x2,lR,d1,d2,d3,m4,lN4]
  have nu4:=jQ.nou (((hQ.ai k2).ai k3).ai k4) x1
  have sl4:(aj X ((d+2)*4) c4).length=X.length:=Jx (by omega)
  have fg5:=((fg.ai hK).ai K4).ay (c1:=aj X ((d+2)*4) c4) (e1:=102) (w1:=true) x1 nu4 sl4
  have fp5:=((fp.ai k3).ai k4).ay (c1:=aj X ((d+2)*4) c4) (e1:=102) (w1:=true) x1 nu4 sl4
  have M5:(h4.set (N+2) (.cells (aj X ((d+2)*4) c4) 102 true)).get N=some (.cells [.str gs,.str (Zao l),.str (Zao p),.int .i64 d] 48 true):=by rw[T.al,aA (by omega)];exact m4
  have M5':(h4.set (N+2) (.cells (aj X ((d+2)*4) c4) 102 true)).get (N+1)=some (.cells [.int .i64 na,ua,.int .i64 nb,ub] 102 true):=by rw[T.al,aA (by omega)];exact m4'
  have P5:(h4.set (N+2) (.cells (aj X ((d+2)*4) c4) 102 true)).get n2=some (.cells [.int .i64 pa,pu,.int .i64 pb,pv] 102 true):=by rw[T.al,aA (by omega)];exact p4
  have K5:ah h N (h4.set (N+2) (.cells (aj X ((d+2)*4) c4) 102 true)) n4:=(hK.trans K4).set (by omega)
  generalize h4.set (N+2) (.cells (aj X ((d+2)*4) c4) 102 true)=H5 at*
  refine av (AB bl (by omega)) ?_
  rintro v6 h6 n6 k6 hl6
  have wbl:=bl.eX
  simp(disch:=first|(simp;done)|omega|rfl) [-getElem?_pos,]
  refine av (UP hl6 (by omega)) ?_
  rintro _ h7 n7 k7 hm7
  obtain⟨c7,rfl,Vr⟩:=hm7.c
  obtain⟨e71,e72⟩:=Vr.len
  have zeV:(V.agg c7).cells=c7:=rfl
  have K7:=k6.trans k7
  have lL5:(((List.range (d+3)).map fun _=>(0:Rat)).set (d+2) 1).length=d+3:=by simp
  obtain⟨Y,y1,y2,y3⟩:=(x3.ai K7).put Vr (j:=d+1) (by rw[lL5];omega)
  have d4:(d:Int)+2-1<(d:Int)+3:=by omega
  have d5:((d:Int)+2-1).toNat=d+1:=by omega
  have d6:(0:Int)<=(d:Int)+2-1:=by omega
  have le7:=K7.le
  have lR7:N+2<n7:=by omega
  have lN7:N<n7:=by omega
  simp(disch:=first|(simp;done)|omega|rfl) [-getElem?_pos, -V.cells, -V.one,hr,bM,zeV,e71,e72,y1,y2,lR7,d4,d5,d6]
  have nu7:=jQ.nou (x3.ai K7) y1
  have sl7:(aj Y ((d+1)*4) c7).length=Y.length:=Jx (by omega)
  have fg8:=(fg5.ai K7).ay (c1:=aj Y ((d+1)*4) c7) (e1:=102) (w1:=true) y1 nu7 sl7
  have fp8:=(fp5.ai K7).ay (c1:=aj Y ((d+1)*4) c7) (e1:=102) (w1:=true) y1 nu7 sl7
  have M8':(h7.set (N+2) (.cells (aj Y ((d+1)*4) c7) 102 true)).get (N+1)=some (.cells [.int .i64 na,ua,.int .i64 nb,ub] 102 true):=by rw[T.al,aA (by omega)];exact(K7.get (N+1) (by omega)).trans M5'
  have P8:(h7.set (N+2) (.cells (aj Y ((d+1)*4) c7) 102 true)).get n2=some (.cells [.int .i64 pa,pu,.int .i64 pb,pv] 102 true):=by rw[T.al,aA (by omega)];exact(K7.get n2 (by omega)).trans P5
  have Y8:(h7.set (N+2) (.cells (aj Y ((d+1)*4) c7) 102 true)).get (N+2)=some (.cells (aj Y ((d+1)*4) c7) 102 true):=by rw[T.al,aR rfl]
  have K8:ah h N (h7.set (N+2) (.cells (aj Y ((d+1)*4) c7) 102 true)) n7:=(K5.trans K7).set (by omega)
  generalize h7.set (N+2) (.cells (aj Y ((d+1)*4) c7) 102 true)=H8 at*
  generalize aj Y ((d+1)*4) c7=Z at*
  have g1q:((((List.range (d+3)).map fun _=>(0:Rat)).set (d+2) 1).set (d+1) (-l))[1]?=some (if d=0 then -l else 0):=by
   by_cases lK:d=0
   ·subst lK;simp
   ·rw[eJ (by omega),eJ (by omega)];simp[lK]
  obtain⟨c1v,s1,fc1⟩:=y3.at g1q Y8
  obtain⟨z1,z2⟩:=fc1.len
  have le8:=K8.le
  have lR8:N+2<n7:=by omega
  have lG8:N+1<n7:=by omega
  have lP8:n2<n7:=by omega
  have q1:(0:Int)<=(d:Int)+3:=by omega
  have q2:(1:Int)<(d:Int)+3:=by omega
  rw[show 1*4=4 from rfl]at s1
  have sg:aK [V.int .i64 na,ua,.int .i64 nb,ub] 0 4=some [.int .i64 na,ua,.int .i64 nb,ub]:=rfl
  have sp:aK [V.int .i64 pa,pu,.int .i64 pb,pv] 0 4=some [.int .i64 pa,pu,.int .i64 pb,pv]:=rfl
  simp(disch:=first|(simp;done)|omega|rfl) [-getElem?_pos, -V.cells, -V.one,hr,aI,Y8,M8',P8,lR8,lG8,lP8,q2,s1,sg,sp]
  have hk1:1<=k:=by
   have h1:=bg.2
   have h2:=g.den_pos
   rcases k with _|k
   ·simp at h1;omega
   ·omega
  have bz:Qb k (if d=0 then -l else 0):=by
   split
   ·exact bl.neg
   ·exact(Qb.int (z:=0) (k:=1) (by decide) (by decide)).mono hk1
  have wz:=bz.eX
  have wg:=bg.eX
  have wp:=bp.eX
  have ws:=(bz.add bg).eX
  refine av (Nn fc1.up fg8.up (by omega) (by omega) (by omega) (by omega)) ?_
  rintro v11 jR n11 k11 ha
  have zf8:=k11.le
  have P11:=(k11.get n2 (by omega)).trans P8
  have zeW:n2<n11:=by omega
  simp(disch:=first|(simp;done)|omega|rfl) [-getElem?_pos, -V.cells, -V.one,hr,aI,P11,zeW,sp]
  refine av (Nn ha (fp8.ai k11).up (by omega) (by omega) (by omega) (by omega)) ?_
  rintro _ yU n12 k12 hb
  obtain⟨c12,rfl,zjs⟩:=hb.c
  obtain⟨zeX,zeY⟩:=zjs.len
  have RJ:(V.agg c12).cells=c12:=rfl
  have K12:=k11.trans k12
  have zf9:=K12.le
  obtain⟨U,u1,u2,u3⟩:=(y3.ai K12).put zjs (j:=1) (by simp)
  have zeZ:N+2<n12:=by omega
  rw[show 1*4=4 from rfl]at u2 u3
  have cv:¬n2=N+1+1:=by omega
  have P12:=(K12.get n2 (by omega)).trans P8
  have ze0:n2<n12:=by omega
  simp(disch:=first|(simp;done)|omega|rfl) [-getElem?_pos, -V.cells, -V.one,hr,aI,bM,RJ,zeX,zeY,u1,u2,zeZ,q2,b_.chk,P12,ze0,cv,sp]
  have ze1:=jQ.nou (y3.ai K12) u1
  have ze2:(aj U 4 c12).length=U.length:=Jx (by omega)
  have ze3:=(fp8.ai K12).ay (c1:=aj U 4 c12) (e1:=102) (w1:=true) u1 ze1 ze2
  have P13:(yU.set (N+2) (.cells (aj U 4 c12) 102 true)).get n2=some (.cells [.int .i64 pa,pu,.int .i64 pb,pv] 102 true):=by rw[T.al,aA (by omega)];exact(K12.get n2 (by omega)).trans P8
  have K13:ah h N (yU.set (N+2) (.cells (aj U 4 c12) 102 true)) n12:=(K8.trans K12).set (by omega)
  generalize yU.set (N+2) (.cells (aj U 4 c12) 102 true)=H13 at*
  refine av (UP ze3.up (by omega)) ?_
  rintro _ wA n14 k14 ze4
  obtain⟨c14,rfl,RK⟩:=ze4.c
  obtain⟨ze5,ze6⟩:=RK.len
  have RL:(V.agg c14).cells=c14:=rfl
  have zf_:=k14.le
  obtain⟨S,t1,t2,t3⟩:=(u3.ai k14).put RK (j:=0) (by simp)
  rw[show 0*4=0 from rfl]at t2 t3
  have ze7:N+2<n14:=by omega
  have q3:(0:Int)<(d:Int)+3:=by omega
  simp(disch:=first|(simp;done)|omega|rfl) [-getElem?_pos, -V.cells, -V.one,hr,aI,bM,RL,ze5,ze6,t1,t2,ze7,q3,Ret]
  have ec:(aJ g l p d).length=d+3:=by simp[aJ]
  have fin:Al (wA.set (N+2) (.cells (aj S 0 c14) 102 true)) n14 (.slice (N+2) 0 (aJ g l p d).length (some (aJ g l p d).length) 4) (aJ g l p d):=t3.frt
  rw[ec]at fin
  exact⟨by rw[aA (by omega)];exact hW,(K13.trans k14).set (by omega),fin⟩
def Yqg{d k:Nat}{g l p:Rat}(bg:Qb k g)(bl:Qb k l)(bp:Qb k p)(hk:k<=50000)(hd:d<=6):Fn A.C 114 [.agg [.str (Zao g),.str (Zao l),.str (Zao p),.int .i64 d]] h N (fun v h' n'=>Al h' n' v (aJ g l p d)):=by
 intro w
 rw[aZ,A.k114 (by simp)]
 have kB:=aO (ah.refl (h:=h) (n:=N)) (.cells [.str (Zao g),.str (Zao l),.str (Zao p),.int .i64 d] 48 true)
 simp(disch:=first|(simp;done)|omega|rfl) [-getElem?_pos,A.b114,aI,aK]
 generalize h.set N (.cells [.str (Zao g),.str (Zao l),.str (Zao p),.int .i64 d] 48 true)=hB at*
 refine av (AB bg (by omega)) ?_
 rintro v1 h1 n1 k1 h1g
 simp(disch:=first|(simp;done)|omega|rfl) [-getElem?_pos,]
 refine av (Zoj h1g bg bl bp hk hd) ?_
 rintro v2 h2 n2 k2 h2g
 simp(disch:=first|(simp;done)|omega|rfl) [-getElem?_pos,b_.chk,Ret]
 exact⟨(kB.trans k1).trans k2,h2g⟩
def A.b82:=A.q Tryz.f82
def A.k82:=@A.kk 82 9 [.cell 2 (some 4)] A.b82 (by kernel_rfl) rfl
def A.b78:=A.q Tryz.f78
def A.k78:=@A.kk 78 6 [.tmp 2] A.b78 (by kernel_rfl) rfl
def zgb(q:Rat):Rat:=if q<0 then -q else q
def Nr{h:T O}{N:Nat}{x:V}{q:Rat}(hx:Fc h N x q)(l1:wl q.num<1000000000):Fn A.C 82 [x] h N (fun v h' n'=>Fc h' n' v (zgb q)):=by
 intro w
 rw[aZ,A.k82 (by simp)]
 obtain⟨n1,u1,n2,u2,rfl,s1,s2⟩:=hx
 have o1:=Zaj s1
 have o2:=Zaj s2
 unfold V.one at o1 o2
 have kB:ah h N ((h.set N (.cells [.int .i64 n1,u1,.int .i64 n2,u2] 102 true)).set (N+1) (.cells [.int .i64 0,.ziA,.int .i64 0,.ziA] 102 true)) (N+2):=aO (aO ah.refl _) _
 have b0:((h.set N (.cells [.int .i64 n1,u1,.int .i64 n2,u2] 102 true)).set (N+1) (.cells [.int .i64 0,.ziA,.int .i64 0,.ziA] 102 true)).get N=some (.cells [.int .i64 n1,u1,.int .i64 n2,u2] 102 true):=by simp
 have b1:((h.set N (.cells [.int .i64 n1,u1,.int .i64 n2,u2] 102 true)).set (N+1) (.cells [.int .i64 0,.ziA,.int .i64 0,.ziA] 102 true)).get (N+1)=some (.cells [.int .i64 0,.ziA,.int .i64 0,.ziA] 102 true):=by simp
 simp(disch:=first|(simp;done)|omega|rfl) [-getElem?_pos,A.b82,aI,aK,aj,o1,o2]
 generalize gb:(h.set N (.cells [.int .i64 n1,u1,.int .i64 n2,u2] 102 true)).set (N+1) (.cells [.int .i64 0,.ziA,.int .i64 0,.ziA] 102 true)=hB at*
 clear gb
 have hx:Fc hB (N+2) (.agg [.int .i64 n1,u1,.int .i64 n2,u2]) q:=⟨n1,u1,n2,u2,rfl,s1.ai kB,s2.ai kB⟩
 refine av (Nm hx) ?_
 rintro _ h1 m1 k1 rfl
 have xF:=k1.le
 have f0:=(k1.get N (by omega)).trans b0
 have f1:=(k1.get (N+1) (by omega)).trans b1
 have e0:N<m1:=by omega
 have e1:N+1<m1:=by omega
 by_cases hz:q<0
 ·have hs:=wL.2 hz
  simp(disch:=first|(simp;done)|omega|rfl) [-getElem?_pos,f0,e0,hs,aI,aK]
  refine av (UP (hx.ai k1) l1) ?_
  rintro _ h2 m2 k2 ⟨n3,u3,n4,u4,rfl,t1,t2⟩
  have o3:=Zaj t1
  have o4:=Zaj t2
  unfold V.one at o3 o4
  have oH:=k2.le
  have f2:=(k2.get (N+1) (by omega)).trans f1
  have e2:N+1<m2:=by omega
  simp(disch:=first|(simp;done)|omega|rfl) [-getElem?_pos,f2,e2,aI,aK,aj,bM,o3,o4,Ret]
  have ea:zgb q= -q:=aR hz
  rw[ea]
  exact⟨((kB.trans k1).trans k2).set (by omega),n3,u3,n4,u4,rfl,t1.ay (i:=N+1) f2 nu0 rfl,t2.ay (i:=N+1) f2 nu0 rfl⟩
 ·have hs:¬sg3 q.num<0:=fun hc=>hz (wL.1 hc)
  have s1':=(s1.ai kB).ai k1
  have s2':=(s2.ai kB).ai k1
  simp(disch:=first|(simp;done)|omega|rfl) [-getElem?_pos,f0,f1,e0,e1,hs,aI,aK,aj,bM,o1,o2,Ret]
  have ea:zgb q=q:=aA hz
  rw[ea]
  exact⟨(kB.trans k1).set (by omega),n1,u1,n2,u2,rfl,s1'.ay (i:=N+1) f1 nu0 rfl,s2'.ay (i:=N+1) f1 nu0 rfl⟩
def Yfo{h:T O}{N:Nat}{w:List Nat}{v:V}{l:List Rat}(hs:mV h N v l)(hb:l.length<100000):A.C.call (.func 78 [] []) [v] ⟨h,N,w⟩=some (.int .i64 ((l.length:Int)-1),⟨h,N,w⟩):=by
 have hl:=hs.len
 apply Call.eq
 rw[aZ,A.k78 (by simp)]
 simp(disch:=first|(simp;done)|omega|rfl) [-getElem?_pos,A.b78,hl]
variable {N:Nat} {h h':T O} {v:V}
abbrev NW(y:V):Prop:=∀m,y≠.int .u64 m
def In.fv{n n':Nat}{x:V}{z:Int}{e:TypeId}(s:In h n x z)(k:wS (fun i=>i∈jU v) h n h' n')(hd:Lm e NW h v):In h' n' x z:=by
 rcases s with s|⟨i,o,l,c,s1,s2,s3⟩
 ·exact .inl s
 ·refine .inr ⟨i,o,l,c,s1,Sl.fv s2 k fun j hj hjv=>?_,s3⟩
  simp[jU]at hj
  subst hj
  obtain⟨z2,g1,_,g3⟩:=hd j hjv
  unfold Wn at s2
  have cv:aQ z.natAbs≠[]:=fun h0=>by
   have:=mj z.natAbs
   rw[h0]at this
   simp[val]at this
   omega
  obtain⟨d,ds,hds⟩:=List.exists_cons_of_ne_nil cv
  have hat:(dg (aQ z.natAbs))[0]?=some (.int .u64 d):=by rw[hds];simp[dg]
  obtain⟨i2,o2,c2,e2,rw2,q1,q2,q3,q4⟩:=Sl.at s2 hat
  simp[wQ]at q1
  obtain⟨rfl,rfl⟩:=q1
  rw[g1]at q3
  simp only[au,O.cells.injEq]at q3
  obtain⟨rfl,_⟩:=q3
  exact g3 _ (eI q4) _ rfl
def fz.fv{n n':Nat}{c:List V}{q:Rat}{e:TypeId}(s:fz h n c q)(k:wS (fun i=>i∈jU v) h n h' n')(hd:Lm e NW h v):fz h' n' c q:=by
 obtain⟨n1,u1,n2,u2,rfl,s1,s2⟩:=s
 exact⟨n1,u1,n2,u2,rfl,s1.fv k hd,s2.fv k hd⟩
def Sn.KK{z:Nat}{l:List (List V)}(s:Sn z h N v l):∀i∈jU v,i<N:=fun i hi=>by
 rcases s with⟨_,rfl|rfl⟩|⟨j,o,cp,c,e,rw,rfl,hj,_⟩
 ·simp[jU]at hi
 ·simp[jU]at hi
 ·simp[jU]at hi;omega
def Al.ai{N':Nat}{u:V}{l:List Rat}(s:Al h N u l)(k:ah h N h' N'):Al h' N' u l:=⟨s.1.ai k,fun i hi=>by
 obtain⟨cs,h1,_⟩:=s.1
 rw[k.get i (h1.KK i hi)]
 exact s.2 i hi⟩
def Yqf{N0:Nat}{out:List (List V)}{l:List Rat}(s:Own 4 102 N0 h N v out)(hl:out.length=l.length)(hc:∀(j:Nat),j<l.length->∃c,out[j]?=some c/\∀q,l[j]?=some q->fz h N c q):Al h N v l:=by
 refine⟨⟨out,s.sn,hl,fun j q hq=>?_⟩,fun i hi=>?_⟩
 ·obtain⟨c,g1,g2⟩:=hc j (yz hq)
  exact⟨c,g1,g2 q hq⟩
 ·obtain⟨_,⟨_,rfl⟩|⟨j,rfl,_,_,hg⟩⟩:=s
  ·simp[jU]at hi
  ·simp[jU]at hi;subst hi;exact⟨_,_,hg⟩
variable {k:Nat}
set_option maxHeartbeats 4000000
def A.w63:=A.q Tryz.f63
def A.vf:=A.ql A.w63 1 []
def A.vg:=(fun x0=>A.ql A.w63 0 [x0]) A.vf
def A.b63:=(fun x0=>A.qb A.w63 [x0]) A.vg
def A.k63:=@A.kk 63 51 [.tmp 2] A.b63 (by kernel_rfl) rfl
def pg(p:List Rat)(i:Nat):Rat:=(p[i]?).getD 0
def iy{p:List Rat}{i:Nat}(h:i<p.length):p[i]?=some (pg p i):=by
 unfold pg;rw[Yv8 h];rfl
def ratio(p:List Rat):Rat:=pg p 0/pg p (p.length-1)
def gh(p:List Rat):List Rat:=(List.range (p.length-1)).map fun k=>pg p (k+1)-ratio p*pg p (p.length-1-1-k)
def mW:Nat->List Rat->Bool
 |0,_=>true
 |n+1,p=>if p.length<=1 then true else if 1<=zgb (ratio p) then false else mW n (gh p)
def BK{p:List Rat}:(gh p).length=p.length-1:=by simp[gh]
def La{p:List Rat}(h:k<p.length-1):pg (gh p) k=pg p (k+1)-ratio p*pg p (p.length-1-1-k):=by
 show ((gh p)[k]?).getD 0=_
 unfold gh;simp[h]
def Yo4{q:Rat}(h:zgb q<1):q*q≠1:=by
 intro hc
 have h2:(q-1)*(q+1)=0:=by grind
 rcases Rat.mul_eq_zero.1 h2 with h3|h3
 ·obtain rfl:q=1:=by grind
  exact absurd h (by decide)
 ·obtain rfl:q= -1:=by grind
  exact absurd h (by decide)
def Zsd{p:List Rat}(h1:1<p.length)(h0:pg p (p.length-1)≠0)(hr:zgb (ratio p)<1):pg (gh p) ((gh p).length-1)≠0:=by
 rw[BK,La (by omega),show p.length-1-1+1=p.length-1 from by omega,show p.length-1-1-(p.length-1-1)=0 from by omega]
 have e:ratio p*pg p 0=ratio p*ratio p*pg p (p.length-1):=by
  have:pg p 0=ratio p*pg p (p.length-1):=by unfold ratio;exact(Rat.div_mul_cancel h0).symm
  rw[Rat.mul_assoc,<-this]
 rw[e]
 have:=Yo4 hr
 intro hc
 apply this
 have h2:(1-ratio p*ratio p)*pg p (p.length-1)=0:=by grind
 rcases Rat.mul_eq_zero.1 h2 with h|h
 ·grind
 ·exact absurd h h0
def Ypz{p:List Rat}{n:Nat}(h:p.length<=1):mW n p=true:=by
 cases n with
 |zero=>rfl
 |succ n=>unfold mW;rw[aR h]
def Zw1{p:List Rat}(h1:1<=p.length)(h0:pg p (p.length-1)≠0)(hq:∀q∈p,Qb k q):Qb (k+k) (ratio p):=by
 have a:=hq _ (eI (iy (p:=p) (i:=0) (by omega)))
 have b:=hq _ (eI (iy (p:=p) (i:=p.length-1) (by omega)))
 unfold ratio;rw[Rat.div_def]
 exact a.mul (b.inv h0)
def Ymz{p:List Rat}(h1:1<=p.length)(hk:1<=k)(h0:pg p (p.length-1)≠0)(hq:∀q∈p,Qb k q):∀q∈gh p,Qb (5*k) q:=by
 intro q hm
 unfold gh at hm
 obtain⟨j,hj,rfl⟩:=vo.1 hm
 rw[Dh]at hj
 have a:=hq _ (eI (iy (p:=p) (i:=j+1) (by omega)))
 have b:=hq _ (eI (iy (p:=p) (i:=p.length-1-1-j) (by omega)))
 exact(a.sub ((Zw1 h1 h0 hq).mul b)).mono (by omega)
structure Yvt (h:T O) (N:Nat) (l:List Rat) (k m:Nat) (r:T V) (st:St):Prop where
 w:aL N st.w=[]
 ai:ah h N st.h st.n
 ex:∃(v:V) (p:List Rat),r.get 0=some v/\r.get 3=some (.bool true)/\Al st.h st.n v p/\p.length=m+1/\m+1<=l.length/\pg p m≠0/\(∀q∈p,Qb (k*5^(l.length-1-m)) q)/\mW (m+1) p=mW l.length l
def Zrw{h:T O}{N:Nat}{v:V}{l:List Rat}(hs:Al h N v l)(h1:1<=l.length)(hl:l.length<=13)(h0:pg l (l.length-1)≠0)(hq:∀q∈l,Qb k q)(hk:1<=k)(jZ:k*5^(l.length-1)<=400000000):Fn A.C 63 [v] h N (fun x _ _=>x=.bool (mW l.length l)):=by
 intro w
 rw[aZ,A.k63 (by simp)]
 simp(disch:=first|(simp;done)|omega|rfl) [-getElem?_pos,A.b63]
 refine Zal [(0,0),(3,49)] (fun e r st=>e=.exit 0/\aL N st.w=[]/\ah h N st.h st.n/\r.get 3=some (.bool (mW l.length l))) (Yvt h N l k) (l.length-1) ?_ ?_ ?_
 ·refine⟨by simp,ah.refl,v,l,by simp,by simp,hs,by omega,by omega,h0,fun q hm=>?_,by rw[show l.length-1+1=l.length from by omega]⟩
  rw[Nat.sub_self,AF,wP];exact hq q hm
 ·rintro m r ⟨H,n1,W⟩ hr hf ⟨hW,hK,v,p,r0,r3,hp,pl,pll,pz,pq,ps⟩
  simp only at hW hK hp
  have dg:=fun w=>Yfo (w:=w) hp.1 (by omega)
  rw[pl]at dg
  rw[cn]
  cases m with
  |zero=>
   rw[Ypz (by omega)]at ps
   simp(disch:=first|(simp;done)|omega|rfl) [-getElem?_pos,A.vg,hr,hf,r0,dg,r3,hW,hK,<-ps]
  |succ m=>
   obtain⟨i0,o0,x0,e0,w0,c0,a1,a2,a3,a4,a5⟩:=hp.1.at (iy (p:=p) (i:=0) (by omega))
   obtain⟨i1,o1,x1,e1,w1,c1,b1,b2,b3,b4,b5⟩:=hp.1.at (iy (p:=p) (i:=m+1) (by omega))
   rw[a1]at b1
   obtain⟨rfl,rfl⟩:i0=i1/\o0=o1:=by simpa using b1
   have lv:=hp.1.len
   rw[pl]at lv
   rw[a3]at b3
   obtain⟨rfl,rfl,rfl⟩:x0=x1/\e0=e1/\w0=w1:=by simpa using b3
   rw[Nat.zero_mul,mY]at a4
   have g1:(0:Int)<((m+1+1:Nat):Int)-1:=by omega
   have g2:((m+1+1:Nat):Int)-1<((m+1+1:Nat):Int):=by omega
   have g3:(((m+1+1:Nat):Int)-1).toNat=m+1:=by omega
   have g4:(0:Int)<((m+1+1:Nat):Int):=by omega
   have g5:(0:Int)<=((m+1+1:Nat):Int)-1:=by omega
   simp(disch:=first|(simp;done)|omega|rfl) [-getElem?_pos,A.vg,hr,hf,r0,r3,dg,lv,a1,a2,a3,a4,b4,g1,g2,g3,g4,g5,aI]
   have ud:k*5^(l.length-1-(m+1))*5=k*5^(l.length-1-m):=by
    rw[AG,<-fV];congr 2;omega
   have hB1:k*5^(l.length-1-m)<=400000000:=p9 (jh k (Ywo (by omega) (by omega))) jZ
   have Sz:1<=k*5^(l.length-1-(m+1)):=xM hk (vu (by omega))
   generalize hB:k*5^(l.length-1-(m+1))=B at*
   have pz':pg p (p.length-1)≠0:=by rw[pl];exact pz
   have ql:=Ymz (by omega) Sz pz' pq
   have qr:=Zw1 (by omega) pz' pq
   have qa:=pq _ (eI (iy (p:=p) (i:=0) (by omega)))
   have qb:=pq _ (eI (iy (p:=p) (i:=m+1) (by omega)))
   have wa:=qa.eX
   have wb:=qb.eX
   have wc:=(qb.inv pz).eX
   have wr:=qr.eX
   have er:pg p 0/pg p (m+1)=ratio p:=by unfold ratio;rw[pl];rfl
   refine av (Zvr a5.fc b5.fc pz (by omega) (by omega) (by omega) (by omega) (by omega) (by omega)) ?_
   rintro _ h2 n2 k2 dw
   rw[er]at dw
   obtain⟨c2,rfl,yX⟩:=dw.c
   obtain⟨f1,f2⟩:=yX.len
   have lO:(V.agg c2).cells=c2:=rfl
   have e4:aj zF 0 c2=c2:=by unfold aj;rw[f1];simp[f1,zF]
   have s0:aK c2 0 4=some c2:=by unfold aK;rw[f1];simp;exact jP (by omega)
   unfold zF at e4
   have oH:=k2.le
   have kA:ah h2 n2 ((h2.set n2 (.cells [.int .i64 0,.ziA,.int .i64 0,.ziA] 102 true)).set n2 (.cells c2 102 true)) (n2+1):=(ah.refl.new _).set (Yv5 _)
   have g2:((h2.set n2 (.cells [.int .i64 0,.ziA,.int .i64 0,.ziA] 102 true)).set n2 (.cells c2 102 true)).get n2=some (.cells c2 102 true):=by simp
   simp(disch:=first|(simp;done)|omega|rfl) [-getElem?_pos, -V.cells, -V.one,hr,hf,r0,r3,lO,f1,f2,e4,bM,b_.chk,aI,s0]
   generalize (h2.set n2 (.cells [.int .i64 0,.ziA,.int .i64 0,.ziA] 102 true)).set n2 (.cells c2 102 true)=H3 at*
   refine av (Nr (dw.ai kA) (by omega)) ?_
   rintro v4 h4 n4 k4 Bq
   have ze8:Qb (B+B) (zgb (ratio p)):=by
    unfold zgb;split
    ·exact qr.neg
    ·exact qr
   have zga:=ze8.eX
   have w1:=(Qb.int (z:=1) (k:=1) (by decide) (by decide)).eX
   simp(disch:=first|(simp;done)|omega|rfl) [-getElem?_pos,]
   refine av (BI (z:=1) (by decide) (by decide)) ?_
   rintro v5 h5 n5 k5 Qo
   simp(disch:=first|(simp;done)|omega|rfl) [-getElem?_pos,]
   refine av (KW (Bq.ai k5) Qo (by omega) (by omega) (by omega) (by omega)) ?_
   rintro _ h6 n6 k6 rfl
   have ec:(0<=sg3 ((zgb (ratio p)).num*(((1:Int):Rat).den:Nat)-((1:Int):Rat).num*((zgb (ratio p)).den:Nat)))↔1<=zgb (ratio p):=by
    have h1:zgb (ratio p)<1↔(zgb (ratio p)).num*(((1:Int):Rat).den:Nat)<((1:Int):Rat).num*((zgb (ratio p)).den:Nat):=by
     rw[Rat.lt_iff];rfl
    rw[<-Rat.not_lt,h1];unfold sg3;split
    ·constructor<;>intro<;>omega
    ·split<;>constructor<;>intro<;>omega
   generalize sg3 ((zgb (ratio p)).num*(((1:Int):Rat).den:Nat)-((1:Int):Rat).num*((zgb (ratio p)).den:Nat))=cz at*
   have kD:=((kA.trans k4).trans k5).trans k6
   have K6:=(hK.trans k2).trans kD
   have ps2:mW (m+1+1) p=if 1<=zgb (ratio p) then false else mW (m+1) (gh p):=by
    conv=>lhs;unfold mW
    rw[aA (by omega)]
   rw[ps2]at ps
   by_cases cc:1<=zgb (ratio p)
   ·have Am:=ec.2 cc
    rw[aR cc]at ps
    have Nx:=hK.le
    simp(disch:=first|(simp;done)|omega|rfl) [-getElem?_pos,hr,hf,r0,r3,Am,hW,K6,<-ps]
    omega
   ·have Am:¬0<=cz:=fun h=>cc (ec.1 h)
    rw[aA cc]at ps
    have lt1:zgb (ratio p)<1:=Rat.not_le.1 cc
    simp(disch:=first|(simp;done)|omega|rfl) [-getElem?_pos,hr,hf,r0,r3,Am]
    have Nx:=hK.le
    have leD:=kD.le
    have leE:=((k4.trans k5).trans k6).le
    have g6:=(((k4.trans k5).trans k6).get n2 (by omega)).trans g2
    have hc6:=yX.ai kD
    have hp6:=(hp.ai k2).ai kD
    have W6:aL N (n2::W)=[]:=by simp[aL,hW];omega
    have lv6:=hp6.1.len
    rw[pl]at lv6
    have bzr:=fun j (hj:j<(gh p).length)=>ql _ (eI (iy hj))
    have nl:(gh p).length=m+1:=by rw[BK,pl];rfl
    refine Zal [(6,7),(27,48)] (fun e r st=>e=.exit 2/\aL N st.w=[]/\ah h6 n6 st.h st.n/\∃u,r.get 6=some u/\Al st.h st.n u (gh p)) (fun i r st=>aL N st.w=[]/\ah h6 n6 st.h st.n/\∃(t:Nat) (u:V) (out:List (List V)),t+i=m+1/\r.get 27=some (.int .i64 t)/\r.get 6=some u/\Own 4 102 n6 st.h st.n u out/\out.length=t/\(out=[]->u=.ziA)/\(∀c∈out,∀y∈c,NW y)/\∀j,j<t->∃c,out[j]?=some c/\fz st.h st.n c (pg (gh p) j)) (m+1) ?_ ?_ ?_
    ·exact⟨W6,ah.refl,0,.ziA,[],by omega,by simp,by simp,Own.nil,rfl,fun _=>rfl,by simp,fun j hj=>by omega⟩
    ·rintro i r' ⟨H7,n7,W7⟩ lV rF ⟨MS,Bs,t,u,out,ht,r27,r6,ho,uQ,ze9,hY,uJ⟩
     simp only at MS Bs ho uJ
     rw[cn]
     cases i with
     |zero=>
      obtain rfl:t=m+1:=by omega
      simp(disch:=first|(simp;done)|omega|rfl) [-getElem?_pos,A.vf,lV,rF,r27,MS,Bs]
      exact⟨u,r6,Yqf ho (by rw[uQ,nl]) fun j hj=>by
       obtain⟨c,x1,x2⟩:=uJ j (by omega)
       refine⟨c,x1,fun q hq=>?_⟩
       rw[iy (by rw[nl];omega)]at hq
       simp only[au]at hq
       rw[<-hq];exact x2⟩
     |succ i=>
      have aW:t<m+1:=by omega
      have zij:(t:Int)<(m:Int)+1:=by omega
      have hp7:=hp6.ai Bs
      have lv7:=hp7.1.len
      rw[pl]at lv7
      have le7:=Bs.le
      have g7:=(Bs.get n2 (by omega)).trans g6
      have Vr:=hc6.ai Bs
      obtain⟨j0,u0,y0,z0,q0,d0,b1,b2,b3,b4,b5⟩:=hp7.1.at (iy (p:=p) (i:=t+1) (by omega))
      obtain⟨j1,u1,y1,z1,q1,d1,x1,x2,x3,x4,x5⟩:=hp7.1.at (iy (p:=p) (i:=m-t) (by omega))
      rw[b1]at x1
      obtain⟨rfl,rfl⟩:j0=j1/\u0=u1:=by simpa using x1
      rw[b3]at x3
      obtain⟨rfl,rfl,rfl⟩:y0=y1/\z0=z1/\q0=q1:=by simpa using x3
      have i1:(0:Int)<=(t:Int)+1:=by omega
      have i2:(t:Int)+1<((m+1+1:Nat):Int):=by omega
      have i3:((t:Int)+1).toNat=t+1:=by omega
      have i4:(0:Int)<=(m:Int)-t:=by omega
      have i5:(m:Int)-t<((m+1+1:Nat):Int):=by omega
      have i6:((m:Int)-t).toNat=m-t:=by omega
      have i7:n2<n7:=by omega
      have bx:=pq _ (eI (iy (p:=p) (i:=t+1) (by omega)))
      have by_:=pq _ (eI (iy (p:=p) (i:=m-t) (by omega)))
      have wx:=bx.eX
      have wy:=by_.eX
      have bm:=qr.mul by_
      have wm:=bm.eX
      simp(disch:=first|(simp;done)|omega|rfl) [-getElem?_pos,A.vf,lV,rF,hr,hf,r0,r3,r27,r6,zij,lv7,b1,b2,b3,b4,x4,g7,s0,i1,i2,i3,i4,i5,i6,i7,aI]
      refine av (KZ Vr.fc x5.fc (by omega) (by omega) (by omega) (by omega)) ?_
      rintro v8 h8 n8 k8 hm8
      simp(disch:=first|(simp;done)|omega|rfl) [-getElem?_pos,]
      refine av (Zvo (b5.ai k8).fc hm8 (by omega) (by omega) (by omega) (by omega)) ?_
      rintro _ h9 n9 k9 SJ
      have en:pg p (t+1)-ratio p*pg p (m-t)=pg (gh p) t:=by
       rw[La (by omega),pl,show m+1+1-1-1-t=m-t from by omega]
      rw[en]at SJ
      obtain⟨c9,rfl,Ik⟩:=SJ.c
      obtain⟨f91,f92⟩:=Ik.len
      have ze_:(V.agg c9).cells=c9:=rfl
      have e9:aj zF 0 c9=c9:=by unfold aj;rw[f91];simp[f91,zF]
      unfold zF at e9
      have K9:=k8.trans k9
      have le9:=K9.le
      have ho9:Own 4 102 n6 (h9.set n9 (.cells c9 102 true)) (n9+1) u out:=(ho.ai K9).ai (ah.refl.new _)
      have nw9:∀y∈c9,NW y:=Ik.Sk
      obtain⟨u',h',w',j1',j2',SE,SG,jD,j5'⟩:=Zou (Y:=NW) (x:=c9) (u:=.slice n9 0 1 (some 1) 4) (bytes:=64) (w:=[]) ho9 ze9 hY (by omega) (by decide) f91 (by simp only[oL,St.row,T.al,if_true];unfold aK;simp[f91];exact jP (by omega)) (by omega)
      have ow:aL N w'=[]:=Zqo j2' (by omega) rfl
      simp(disch:=first|(simp;done)|omega|rfl) [-getElem?_pos, -aL, -V.cells, -V.one,lV,rF,r27,r6,ze_,f91,f92,e9,j1']
      refine⟨i,by omega,Ydc ow MS,((Bs.trans K9).trans (ah.refl.new (.cells c9 102 true))).then SE,t+1,by omega,by simp,out++[c9],j5',by simp[uQ],by simp,fun c hc y hy=>?_,fun j hj=>?_⟩
      ·rcases tg.1 hc with hc|hc
       ·exact hY c hc y hy
       ·simp only[yW]at hc;subst hc;exact nw9 y hy
      ·by_cases hjt:j<t
       ·obtain⟨c,e1',e2'⟩:=uJ j hjt
        exact⟨c,by rw[xJ (by omega)];exact e1',((e2'.ai K9).ai (ah.refl.new _)).fv SG jD⟩
       ·obtain rfl:j=t:=by omega
        exact⟨c9,by rw[Ig (by omega),uQ];simp,(Ik.ai (ah.refl.new _)).fv SG jD⟩
    ·rintro _ r' ⟨H7,n7,W7⟩ lV ⟨rfl,MS,Bs,u,r6,hu⟩
     simp only at MS Bs hu
     have EI:=Zsd (by omega) pz' lt1
     rw[nl,show m+1-1=m from rfl]at EI
     rw[iz B 5]at ud
     simp(disch:=first|(simp;done)|omega|rfl) [-getElem?_pos,lV,r6,hr,hf,r3]
     have Dm:=hf.inner (D':=[(6,7),(27,48)]) rfl (fun hh=>by simpa using hh) lV
     exact⟨by simpa using Dm,m,by omega,MS,K6.trans Bs,u,gh p,by simp,by simp[lV,r3],hu,nl,by omega,EI,by rw[<-ud];exact ql,ps⟩
 ·rintro _ r ⟨H,n1,W⟩ hr ⟨rfl,hW,hK,h3⟩
  simp only at hW hK
  simp(disch:=first|(simp;done)|omega|rfl) [-getElem?_pos,hr,h3,Ret,hW,hK]
end
end Go.Mx
