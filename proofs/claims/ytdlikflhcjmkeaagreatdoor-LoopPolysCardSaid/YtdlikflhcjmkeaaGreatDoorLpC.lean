/-loop-/
import Derived.Test.YtdlikflhcjmkeaaGreatDoorVaE
set_option linter.all false
namespace Go.Mx
noncomputable section
open Go Go.Proofs
variable {N:Nat} {h:T O}
set_option maxRecDepth 1000000
def A.w120:=A.q Tryz.f120
def A.lb120_0:=A.ql A.w120 0 []
def A.b120:=(fun x0=>A.qb A.w120 [x0]) A.lb120_0
def A.k120:=@A.kk 120 54 [.tmp 4] A.b120 (by kernel_rfl) rfl
def A.b103:=A.q Tryz.f103
def A.k103:=@A.kk 103 8 [.tmp 2] A.b103 (by kernel_rfl) rfl
def Za6(g l p:Rat)(d:Nat):List Rat:=
 (((((List.range (d+3)).map fun _=>(0:Rat)).set (d+2) 1).set (d+1) (-l)).set 1 ((if d=0 then -l else 0)+g+p)).set 0 (-p)
def RwQ.nou{R m:Nat}{l:List Rat}(s:RwQ h N R l m){X:List V}{e:TypeId}{w:Bool}(g:h.get R=some (.cells X e w)):NoU X:=by
 obtain⟨cs,g1,g2,g3⟩:=s.ex
 obtain⟨f1,f2,_⟩:=RwQ.fcs g2 g3
 rw[g1]at g
 simp only[Yqc,O.cells.injEq]at g
 rw[←g.1];exact f2.app Zlb
def RwQ.at{R j:Nat}{l:List Rat}{q:Rat}(s:RwQ h N R l 0)(hj:l[j]?=some q){X:List V}{e:TypeId}{w:Bool}(g:h.get R=some (.cells X e w)):∃c,slc X (j*4) 4=some c∧FcC h N c q:=by
 obtain⟨cs,g1,g2,g3⟩:=s.ex
 obtain⟨f1,f2,_⟩:=RwQ.fcs g2 g3
 rw[g1]at g
 simp only[Yqc,O.cells.injEq]at g
 obtain⟨c,a,b⟩:=g3 j q hj
 have hz:Zeh zF 0=[]:=by simp[Zeh]
 rw[←g.1,hz,Ysm]
 exact⟨c,Zf9 f1 a,b⟩
def FcC.up{c:List V}{q:Rat}(s:FcC h N c q):Fc h N (.agg c) q:=by
 obtain⟨a,b,c,d,rfl,e,f⟩:=s
 exact⟨a,b,c,d,rfl,e,f⟩
def Yce{d k:Nat}{x:V}{g l p:Rat}{gs:Str}(hg:Fc h N x g)(bg:Qb k g)(bl:Qb k l)(bp:Qb k p)(hk:k≤50000)(hd:d≤6):Fn A.C 120 [.agg [.str gs,.str (Zaq l),.str (Zaq p),.int .i64 d],x] h N (fun v h' n'=>FrT h' n' v (Za6 g l p d)):=by
 intro w
 obtain⟨na,ua,nb,ub,rfl,sa,sb⟩:=hg
 have oa:=Zat sa
 have ob:=Zat sb
 unfold V.one at oa ob
 have fg:FcC h N [.int .i64 na,ua,.int .i64 nb,ub] g:=⟨na,ua,nb,ub,rfl,sa,sb⟩
 have c1:(64:Int)*((d:Int)+2+1)≤140737488355328:=by omega
 have c2:(d:Int)+2+1<4611686018427387904:=by omega
 have c3:(0:Int)≤(d:Int)+2+1:=by omega
 have ct:((d:Int)+2+1).toNat=d+3:=by omega
 rw[Zab,A.k120 (by simp)]
 simp(disch:=first|(simp;done)|omega|rfl) [-getElem?_pos,A.b120,oa,ob,c1,c2,c3,ct]
 have kB:Keeps h N (((h.set N (.cells [.str gs,.str (Zaq l),.str (Zaq p),.int .i64 d] 48 true)).set (N+1) (.cells [.int .i64 na,ua,.int .i64 nb,ub] 102 true)).set (N+1+1) (.cells (Zeh [V.int .i64 0,V.nilslice,V.int .i64 0,V.nilslice] (d+3)) 102 true)) (N+3):=((Keeps.refl.new _).new _).new _
 have b0:(((h.set N (.cells [.str gs,.str (Zaq l),.str (Zaq p),.int .i64 d] 48 true)).set (N+1) (.cells [.int .i64 na,ua,.int .i64 nb,ub] 102 true)).set (N+1+1) (.cells (Zeh [V.int .i64 0,V.nilslice,V.int .i64 0,V.nilslice] (d+3)) 102 true)).get N=some (.cells [.str gs,.str (Zaq l),.str (Zaq p),.int .i64 d] 48 true):=by simp
 have b1:(((h.set N (.cells [.str gs,.str (Zaq l),.str (Zaq p),.int .i64 d] 48 true)).set (N+1) (.cells [.int .i64 na,ua,.int .i64 nb,ub] 102 true)).set (N+1+1) (.cells (Zeh [V.int .i64 0,V.nilslice,V.int .i64 0,V.nilslice] (d+3)) 102 true)).get (N+1)=some (.cells [.int .i64 na,ua,.int .i64 nb,ub] 102 true):=by simp
 have b2:(((h.set N (.cells [.str gs,.str (Zaq l),.str (Zaq p),.int .i64 d] 48 true)).set (N+1) (.cells [.int .i64 na,ua,.int .i64 nb,ub] 102 true)).set (N+1+1) (.cells (Zeh [V.int .i64 0,V.nilslice,V.int .i64 0,V.nilslice] (d+3)) 102 true)).get (N+2)=some (.cells (Zeh zF (d+3)) 102 true):=by simp[zF]
 generalize (((h.set N (.cells [.str gs,.str (Zaq l),.str (Zaq p),.int .i64 d] 48 true)).set (N+1) (.cells [.int .i64 na,ua,.int .i64 nb,ub] 102 true)).set (N+1+1) (.cells (Zeh [V.int .i64 0,V.nilslice,V.int .i64 0,V.nilslice] (d+3)) 102 true))=hB at*
 refine Zaj [(7,7),(17,24)] (fun e r st=>e=.exit 0∧Zac N st.w=[]∧Keeps h N st.h st.n∧N+3≤st.n∧st.h.get N=hB.get N∧st.h.get (N+1)=hB.get (N+1)∧RwQ st.h st.n (N+2) ((List.range (d+3)).map fun _=>0) 0) (fun i r st=>Zac N st.w=[]∧Keeps h N st.h st.n∧N+3≤st.n∧st.h.get N=hB.get N∧st.h.get (N+1)=hB.get (N+1)∧∃t,t+i=d+3∧r.get 17=some (.int .i64 t)∧RwQ st.h st.n (N+2) ((List.range t).map fun _=>0) i) (d+3) ?_ ?_ ?_
 ·exact⟨by simp,kB,Yqg (N+3),rfl,rfl,0,by omega,by simp,by show N+2<N+3;omega,[],by rw[b2];simp,rfl,fun j q hq=>by simp at hq⟩
 ·rintro i r ⟨H,n1,W⟩ hr hf ⟨hW,hK,hn,m0,m1,t,ht,h9,hQ⟩
  simp only at hW hK hQ hn m0 m1
  rw[Zai]
  cases i with
  |zero=>
   obtain rfl:t=d+3:=by omega
   simp(disch:=first|(simp;done)|omega|rfl) [-getElem?_pos,A.lb120_0,hr,hf,h9,hW,hK,hn,m0,m1]
   exact hQ
  |succ i=>
   have hlt:t<d+3:=by omega
   have hlt':(t:Int)<(d:Int)+3:=by omega
   simp(disch:=first|(simp;done)|omega|rfl) [-getElem?_pos,A.lb120_0,hr,hf,h9,hlt,hlt']
   refine Zaa (Ybl (z:=0) (by decide) (by decide)) ?_
   rintro _ H2 n2 k2 hz
   obtain⟨c,rfl,hc⟩:=hz.c
   obtain⟨e1,e2⟩:=hc.len
   have le2:=k2.le
   have hcc:(V.agg c).cells=c:=rfl
   obtain⟨X,x1,x2,x3⟩:=(hQ.keep k2).next hc
   have lN:N+2<n2:=Yqq hQ.lt le2
   have hl:((List.range t).map fun _=>(0:Rat)).length=t:=by simp
   rw[hl]at x2 x3
   have m0':=(k2.get N (by omega)).trans m0
   have m1':=(k2.get (N+1) (by omega)).trans m1
   simp(disch:=first|(simp;done)|omega|rfl) [-getElem?_pos, -V.cells, -V.one,hr,hf,h9,hlt,hlt',Zal,hcc,e1,e2,x1,x2,lN]
   exact⟨i,by omega,by simpa[Zac]using hW,(hK.trans k2).set (by omega),by omega,m0',m1',t+1,by omega,by simp,by rw[List.range_succ,List.map_append];exact x3⟩
 ·rintro _ r ⟨H,n1,W⟩ hr ⟨rfl,hW,hK,hn,m0,m1,hQ⟩
  simp only at hW hK hQ hn m0 m1
  rw[b0]at m0
  rw[b1]at m1
  have g0:N<n1:=by omega
  simp(disch:=first|(simp;done)|omega|rfl) [-getElem?_pos,hr,m0,g0]
  refine Zaa (Zim bp (by omega)) ?_
  rintro vp h2 n2 k2 hp
  obtain⟨pa,pu,pb,pv,rfl,ta,tb⟩:=hp
  have oc:=Zat ta
  have od:=Zat tb
  unfold V.one at oc od
  have le2:=k2.le
  have k3:Keeps h2 n2 ((h2.set n2 (.cells [.int .i64 0,.nilslice,.int .i64 0,.nilslice] 102 true)).set n2 (.cells [.int .i64 pa,pu,.int .i64 pb,pv] 102 true)) (n2+1):=(Keeps.refl.new _).set (Yqg _)
  have b8:((h2.set n2 (.cells [.int .i64 0,.nilslice,.int .i64 0,.nilslice] 102 true)).set n2 (.cells [.int .i64 pa,pu,.int .i64 pb,pv] 102 true)).get n2=some (.cells [.int .i64 pa,pu,.int .i64 pb,pv] 102 true):=by simp
  have fp:FcC h2 n2 [.int .i64 pa,pu,.int .i64 pb,pv] p:=⟨pa,pu,pb,pv,rfl,ta,tb⟩
  simp(disch:=first|(simp;done)|omega|rfl) [-getElem?_pos,hr,oc,od,Zal,splice]
  generalize (h2.set n2 (.cells [.int .i64 0,.nilslice,.int .i64 0,.nilslice] 102 true)).set n2 (.cells [.int .i64 pa,pu,.int .i64 pb,pv] 102 true)=H3 at*
  refine Zaa (Ybl (z:=1) (by decide) (by decide)) ?_
  rintro _ h4 n4 k4 h1
  replace h1:Fc h4 n4 _ 1:=h1
  obtain⟨c4,rfl,hc4⟩:=h1.c
  obtain⟨e41,e42⟩:=hc4.len
  have hcc4:(V.agg c4).cells=c4:=rfl
  have lL:((List.range (d+3)).map fun _=>(0:Rat)).length=d+3:=by simp
  obtain⟨X,x1,x2,x3⟩:=(((hQ.keep k2).keep k3).keep k4).put hc4 (j:=d+2) (by rw[lL];omega)
  have d1:(d:Int)+2<(d:Int)+3:=by omega
  have d2:((d:Int)+2).toNat=d+2:=by omega
  have d3:(0:Int)≤(d:Int)+2:=by omega
  have le3:=k3.le
  have le4:=k4.le
  have lR:N+2<n4:=by omega
  have lN4:N<n4:=by omega
  have K4:=(k2.trans k3).trans k4
  have m4:=(K4.get N (by omega)).trans m0
  have m4':=(K4.get (N+1) (by omega)).trans m1
  have p4:=(k4.get n2 (by omega)).trans b8
  simp(disch:=first|(simp;done)|omega|rfl) [-getElem?_pos, -V.cells, -V.one,hr,Zal,hcc4,e41,e42,x1,x2,lR,d1,d2,d3,m4,lN4]
  have nu4:=RwQ.nou (((hQ.keep k2).keep k3).keep k4) x1
  have sl4:(splice X ((d+2)*4) c4).length=X.length:=Zb3 (by omega)
  have fg5:=((fg.keep hK).keep K4).setNU (c1:=splice X ((d+2)*4) c4) (e1:=102) (w1:=true) x1 nu4 sl4
  have fp5:=((fp.keep k3).keep k4).setNU (c1:=splice X ((d+2)*4) c4) (e1:=102) (w1:=true) x1 nu4 sl4
  have M5:(h4.set (N+2) (.cells (splice X ((d+2)*4) c4) 102 true)).get N=some (.cells [.str gs,.str (Zaq l),.str (Zaq p),.int .i64 d] 48 true):=by rw[T.get_set,Yqe (by omega)];exact m4
  have M5':(h4.set (N+2) (.cells (splice X ((d+2)*4) c4) 102 true)).get (N+1)=some (.cells [.int .i64 na,ua,.int .i64 nb,ub] 102 true):=by rw[T.get_set,Yqe (by omega)];exact m4'
  have P5:(h4.set (N+2) (.cells (splice X ((d+2)*4) c4) 102 true)).get n2=some (.cells [.int .i64 pa,pu,.int .i64 pb,pv] 102 true):=by rw[T.get_set,Yqe (by omega)];exact p4
  have K5:Keeps h N (h4.set (N+2) (.cells (splice X ((d+2)*4) c4) 102 true)) n4:=(hK.trans K4).set (by omega)
  generalize h4.set (N+2) (.cells (splice X ((d+2)*4) c4) 102 true)=H5 at*
  refine Zaa (Zim bl (by omega)) ?_
  rintro v6 h6 n6 k6 hl6
  have wbl:=bl.wls
  simp(disch:=first|(simp;done)|omega|rfl) [-getElem?_pos,]
  refine Zaa (Zpd hl6 (by omega)) ?_
  rintro _ h7 n7 k7 hm7
  obtain⟨c7,rfl,hc7⟩:=hm7.c
  obtain⟨e71,e72⟩:=hc7.len
  have hcc7:(V.agg c7).cells=c7:=rfl
  have K7:=k6.trans k7
  have lL5:(((List.range (d+3)).map fun _=>(0:Rat)).set (d+2) 1).length=d+3:=by simp
  obtain⟨Y,y1,y2,y3⟩:=(x3.keep K7).put hc7 (j:=d+1) (by rw[lL5];omega)
  have d4:(d:Int)+2-1<(d:Int)+3:=by omega
  have d5:((d:Int)+2-1).toNat=d+1:=by omega
  have d6:(0:Int)≤(d:Int)+2-1:=by omega
  have le7:=K7.le
  have lR7:N+2<n7:=by omega
  have lN7:N<n7:=by omega
  simp(disch:=first|(simp;done)|omega|rfl) [-getElem?_pos, -V.cells, -V.one,hr,Zal,hcc7,e71,e72,y1,y2,lR7,d4,d5,d6]
  have nu7:=RwQ.nou (x3.keep K7) y1
  have sl7:(splice Y ((d+1)*4) c7).length=Y.length:=Zb3 (by omega)
  have fg8:=(fg5.keep K7).setNU (c1:=splice Y ((d+1)*4) c7) (e1:=102) (w1:=true) y1 nu7 sl7
  have fp8:=(fp5.keep K7).setNU (c1:=splice Y ((d+1)*4) c7) (e1:=102) (w1:=true) y1 nu7 sl7
  have M8':(h7.set (N+2) (.cells (splice Y ((d+1)*4) c7) 102 true)).get (N+1)=some (.cells [.int .i64 na,ua,.int .i64 nb,ub] 102 true):=by rw[T.get_set,Yqe (by omega)];exact(K7.get (N+1) (by omega)).trans M5'
  have P8:(h7.set (N+2) (.cells (splice Y ((d+1)*4) c7) 102 true)).get n2=some (.cells [.int .i64 pa,pu,.int .i64 pb,pv] 102 true):=by rw[T.get_set,Yqe (by omega)];exact(K7.get n2 (by omega)).trans P5
  have Y8:(h7.set (N+2) (.cells (splice Y ((d+1)*4) c7) 102 true)).get (N+2)=some (.cells (splice Y ((d+1)*4) c7) 102 true):=by rw[T.get_set,Yqi rfl]
  have K8:Keeps h N (h7.set (N+2) (.cells (splice Y ((d+1)*4) c7) 102 true)) n7:=(K5.trans K7).set (by omega)
  generalize h7.set (N+2) (.cells (splice Y ((d+1)*4) c7) 102 true)=H8 at*
  generalize splice Y ((d+1)*4) c7=Z at*
  have g1q:((((List.range (d+3)).map fun _=>(0:Rat)).set (d+2) 1).set (d+1) (-l))[1]?=some (if d=0 then -l else 0):=by
   by_cases hd0:d=0
   ·subst hd0;simp
   ·rw[Yqj (by omega),Yqj (by omega)];simp[hd0]
  obtain⟨c1v,s1,fc1⟩:=y3.at g1q Y8
  obtain⟨z1,z2⟩:=fc1.len
  have le8:=K8.le
  have lR8:N+2<n7:=by omega
  have lG8:N+1<n7:=by omega
  have lP8:n2<n7:=by omega
  have q1:(0:Int)≤(d:Int)+3:=by omega
  have q2:(1:Int)<(d:Int)+3:=by omega
  rw[show 1*4=4 from rfl]at s1
  have sg:slc [V.int .i64 na,ua,.int .i64 nb,ub] 0 4=some [.int .i64 na,ua,.int .i64 nb,ub]:=rfl
  have sp:slc [V.int .i64 pa,pu,.int .i64 pb,pv] 0 4=some [.int .i64 pa,pu,.int .i64 pb,pv]:=rfl
  simp(disch:=first|(simp;done)|omega|rfl) [-getElem?_pos, -V.cells, -V.one,hr,Zah,Y8,M8',P8,lR8,lG8,lP8,q2,s1,sg,sp]
  have hk1:1≤k:=by
   have h1:=bg.2
   have h2:=g.den_pos
   rcases k with _|k
   ·simp at h1;omega
   ·omega
  have bz:Qb k (if d=0 then -l else 0):=by
   split
   ·exact bl.neg
   ·exact(Qb.int (z:=0) (k:=1) (by decide) (by decide)).mono hk1
  have wz:=bz.wls
  have wg:=bg.wls
  have wp:=bp.wls
  have ws:=(bz.add bg).wls
  refine Zaa (Zpf fc1.up fg8.up (by omega) (by omega) (by omega) (by omega)) ?_
  rintro v11 h11 n11 k11 ha
  have le11:=k11.le
  have P11:=(k11.get n2 (by omega)).trans P8
  have lP11:n2<n11:=by omega
  simp(disch:=first|(simp;done)|omega|rfl) [-getElem?_pos, -V.cells, -V.one,hr,Zah,P11,lP11,sp]
  refine Zaa (Zpf ha (fp8.keep k11).up (by omega) (by omega) (by omega) (by omega)) ?_
  rintro _ h12 n12 k12 hb
  obtain⟨c12,rfl,hc12⟩:=hb.c
  obtain⟨e121,e122⟩:=hc12.len
  have hcc12:(V.agg c12).cells=c12:=rfl
  have K12:=k11.trans k12
  have le12:=K12.le
  obtain⟨U,u1,u2,u3⟩:=(y3.keep K12).put hc12 (j:=1) (by simp)
  have lR12:N+2<n12:=by omega
  rw[show 1*4=4 from rfl]at u2 u3
  have hne:¬n2=N+1+1:=by omega
  have P12:=(K12.get n2 (by omega)).trans P8
  have lP13:n2<n12:=by omega
  simp(disch:=first|(simp;done)|omega|rfl) [-getElem?_pos, -V.cells, -V.one,hr,Zah,Zal,hcc12,e121,e122,u1,u2,lR12,q2,Zam.chk,P12,lP13,hne,sp]
  have nu12:=RwQ.nou (y3.keep K12) u1
  have sl12:(splice U 4 c12).length=U.length:=Zb3 (by omega)
  have fp13:=(fp8.keep K12).setNU (c1:=splice U 4 c12) (e1:=102) (w1:=true) u1 nu12 sl12
  have P13:(h12.set (N+2) (.cells (splice U 4 c12) 102 true)).get n2=some (.cells [.int .i64 pa,pu,.int .i64 pb,pv] 102 true):=by rw[T.get_set,Yqe (by omega)];exact(K12.get n2 (by omega)).trans P8
  have K13:Keeps h N (h12.set (N+2) (.cells (splice U 4 c12) 102 true)) n12:=(K8.trans K12).set (by omega)
  generalize h12.set (N+2) (.cells (splice U 4 c12) 102 true)=H13 at*
  refine Zaa (Zpd fp13.up (by omega)) ?_
  rintro _ h14 n14 k14 hm14
  obtain⟨c14,rfl,hc14⟩:=hm14.c
  obtain⟨e141,e142⟩:=hc14.len
  have hcc14:(V.agg c14).cells=c14:=rfl
  have le14:=k14.le
  obtain⟨S,t1,t2,t3⟩:=(u3.keep k14).put hc14 (j:=0) (by simp)
  rw[show 0*4=0 from rfl]at t2 t3
  have lR14:N+2<n14:=by omega
  have q3:(0:Int)<(d:Int)+3:=by omega
  simp(disch:=first|(simp;done)|omega|rfl) [-getElem?_pos, -V.cells, -V.one,hr,Zah,Zal,hcc14,e141,e142,t1,t2,lR14,q3,Ret]
  have ec:(Za6 g l p d).length=d+3:=by simp[Za6]
  have fin:FrT (h14.set (N+2) (.cells (splice S 0 c14) 102 true)) n14 (.slice (N+2) 0 (Za6 g l p d).length (some (Za6 g l p d).length) 4) (Za6 g l p d):=t3.frt
  rw[ec]at fin
  exact⟨by rw[Yqe (by omega)];exact hW,(K13.trans k14).set (by omega),fin⟩
def Ygc{d k:Nat}{g l p:Rat}(bg:Qb k g)(bl:Qb k l)(bp:Qb k p)(hk:k≤50000)(hd:d≤6):Fn A.C 103 [.agg [.str (Zaq g),.str (Zaq l),.str (Zaq p),.int .i64 d]] h N (fun v h' n'=>FrT h' n' v (Za6 g l p d)):=by
 intro w
 rw[Zab,A.k103 (by simp)]
 have kB:=kset (Keeps.refl (h:=h) (n:=N)) (.cells [.str (Zaq g),.str (Zaq l),.str (Zaq p),.int .i64 d] 48 true)
 simp(disch:=first|(simp;done)|omega|rfl) [-getElem?_pos,A.b103,Zah,slc]
 generalize h.set N (.cells [.str (Zaq g),.str (Zaq l),.str (Zaq p),.int .i64 d] 48 true)=hB at*
 refine Zaa (Zim bg (by omega)) ?_
 rintro v1 h1 n1 k1 h1g
 simp(disch:=first|(simp;done)|omega|rfl) [-getElem?_pos,]
 refine Zaa (Yce h1g bg bl bp hk hd) ?_
 rintro v2 h2 n2 k2 h2g
 simp(disch:=first|(simp;done)|omega|rfl) [-getElem?_pos,Zam.chk,Ret]
 exact⟨(kB.trans k1).trans k2,h2g⟩
def A.b81:=A.q Tryz.f81
def A.k81:=@A.kk 81 9 [.cell 2 (some 4)] A.b81 (by kernel_rfl) rfl
def A.b77:=A.q Tryz.f77
def A.k77:=@A.kk 77 6 [.tmp 2] A.b77 (by kernel_rfl) rfl
def Zhd(q:Rat):Rat:=if q<0 then -q else q
def Yho{h:T O}{N:Nat}{x:V}{q:Rat}(hx:Fc h N x q)(l1:wl q.num<1000000000):Fn A.C 81 [x] h N (fun v h' n'=>Fc h' n' v (Zhd q)):=by
 intro w
 rw[Zab,A.k81 (by simp)]
 obtain⟨n1,u1,n2,u2,rfl,s1,s2⟩:=hx
 have o1:=Zat s1
 have o2:=Zat s2
 unfold V.one at o1 o2
 have kB:Keeps h N ((h.set N (.cells [.int .i64 n1,u1,.int .i64 n2,u2] 102 true)).set (N+1) (.cells [.int .i64 0,.nilslice,.int .i64 0,.nilslice] 102 true)) (N+2):=kset (kset Keeps.refl _) _
 have b0:((h.set N (.cells [.int .i64 n1,u1,.int .i64 n2,u2] 102 true)).set (N+1) (.cells [.int .i64 0,.nilslice,.int .i64 0,.nilslice] 102 true)).get N=some (.cells [.int .i64 n1,u1,.int .i64 n2,u2] 102 true):=by simp
 have b1:((h.set N (.cells [.int .i64 n1,u1,.int .i64 n2,u2] 102 true)).set (N+1) (.cells [.int .i64 0,.nilslice,.int .i64 0,.nilslice] 102 true)).get (N+1)=some (.cells [.int .i64 0,.nilslice,.int .i64 0,.nilslice] 102 true):=by simp
 simp(disch:=first|(simp;done)|omega|rfl) [-getElem?_pos,A.b81,Zah,slc,splice,o1,o2]
 generalize hhB:(h.set N (.cells [.int .i64 n1,u1,.int .i64 n2,u2] 102 true)).set (N+1) (.cells [.int .i64 0,.nilslice,.int .i64 0,.nilslice] 102 true)=hB at*
 clear hhB
 have hx:Fc hB (N+2) (.agg [.int .i64 n1,u1,.int .i64 n2,u2]) q:=⟨n1,u1,n2,u2,rfl,s1.keep kB,s2.keep kB⟩
 refine Zaa (Zu8 hx) ?_
 rintro _ h1 m1 k1 rfl
 have le1:=k1.le
 have f0:=(k1.get N (by omega)).trans b0
 have f1:=(k1.get (N+1) (by omega)).trans b1
 have e0:N<m1:=by omega
 have e1:N+1<m1:=by omega
 by_cases hz:q<0
 ·have hs:=Zfw.2 hz
  simp(disch:=first|(simp;done)|omega|rfl) [-getElem?_pos,f0,e0,hs,Zah,slc]
  refine Zaa (Zpd (hx.keep k1) l1) ?_
  rintro _ h2 m2 k2 ⟨n3,u3,n4,u4,rfl,t1,t2⟩
  have o3:=Zat t1
  have o4:=Zat t2
  unfold V.one at o3 o4
  have le2:=k2.le
  have f2:=(k2.get (N+1) (by omega)).trans f1
  have e2:N+1<m2:=by omega
  simp(disch:=first|(simp;done)|omega|rfl) [-getElem?_pos,f2,e2,Zah,slc,splice,Zal,o3,o4,Ret]
  have ea:Zhd q= -q:=Yqi hz
  rw[ea]
  exact⟨((kB.trans k1).trans k2).set (by omega),n3,u3,n4,u4,rfl,t1.setNU (i:=N+1) f2 nu0 rfl,t2.setNU (i:=N+1) f2 nu0 rfl⟩
 ·have hs:¬sg3 q.num<0:=fun hc=>hz (Zfw.1 hc)
  have s1':=(s1.keep kB).keep k1
  have s2':=(s2.keep kB).keep k1
  simp(disch:=first|(simp;done)|omega|rfl) [-getElem?_pos,f0,f1,e0,e1,hs,Zah,slc,splice,Zal,o1,o2,Ret]
  have ea:Zhd q=q:=Yqe hz
  rw[ea]
  exact⟨(kB.trans k1).set (by omega),n1,u1,n2,u2,rfl,s1'.setNU (i:=N+1) f1 nu0 rfl,s2'.setNU (i:=N+1) f1 nu0 rfl⟩
def Yby{h:T O}{N:Nat}{w:List Nat}{v:V}{l:List Rat}(hs:FrS h N v l)(hb:l.length<100000):A.C.call (.func 77 [] []) [v] ⟨h,N,w⟩=some (.int .i64 ((l.length:Int)-1),⟨h,N,w⟩):=by
 have hl:=hs.len
 apply Call.eq
 rw[Zab,A.k77 (by simp)]
 simp(disch:=first|(simp;done)|omega|rfl) [-getElem?_pos,A.b77,hl]
variable {N:Nat} {h h':T O} {v:V}
abbrev NW(y:V):Prop:=∀m,y≠.int .u64 m
def In.moved{n n':Nat}{x:V}{z:Int}{e:TypeId}(s:In h n x z)(k:Upd (fun i=>i∈Zhk v) h n h' n')(hd:Ymm e NW h v):In h' n' x z:=by
 rcases s with s|⟨i,o,l,c,s1,s2,s3⟩
 ·exact .inl s
 ·refine .inr ⟨i,o,l,c,s1,Sl.moved s2 k fun j hj hjv=>?_,s3⟩
  simp[Zhk]at hj
  subst hj
  obtain⟨z2,g1,_,g3⟩:=hd j hjv
  unfold Wn at s2
  have hne:wds z.natAbs≠[]:=fun h0=>by
   have:=Zbm z.natAbs
   rw[h0]at this
   simp[val]at this
   omega
  obtain⟨d,ds,hds⟩:=List.exists_cons_of_ne_nil hne
  have hat:(dg (wds z.natAbs))[0]?=some (.int .u64 d):=by rw[hds];simp[dg]
  obtain⟨i2,o2,c2,e2,rw2,q1,q2,q3,q4⟩:=Sl.at s2 hat
  simp[Zno]at q1
  obtain⟨rfl,rfl⟩:=q1
  rw[g1]at q3
  simp only[Yqc,O.cells.injEq]at q3
  obtain⟨rfl,_⟩:=q3
  exact g3 _ (Yqn q4) _ rfl
def FcC.moved{n n':Nat}{c:List V}{q:Rat}{e:TypeId}(s:FcC h n c q)(k:Upd (fun i=>i∈Zhk v) h n h' n')(hd:Ymm e NW h v):FcC h' n' c q:=by
 obtain⟨n1,u1,n2,u2,rfl,s1,s2⟩:=s
 exact⟨n1,u1,n2,u2,rfl,s1.moved k hd,s2.moved k hd⟩
def Sn.row_lt{z:Nat}{l:List (List V)}(s:Sn z h N v l):∀i∈Zhk v,i<N:=fun i hi=>by
 rcases s with⟨_,rfl|rfl⟩|⟨j,o,cp,c,e,rw,rfl,hj,_⟩
 ·simp[Zhk]at hi
 ·simp[Zhk]at hi
 ·simp[Zhk]at hi;omega
def FrT.keep{N':Nat}{u:V}{l:List Rat}(s:FrT h N u l)(k:Keeps h N h' N'):FrT h' N' u l:=⟨s.1.keep k,fun i hi=>by
 obtain⟨cs,h1,_⟩:=s.1
 rw[k.get i (h1.row_lt i hi)]
 exact s.2 i hi⟩
def Ylg{N0:Nat}{out:List (List V)}{l:List Rat}(s:Own 4 102 N0 h N v out)(hl:out.length=l.length)(hc:∀(j:Nat),j<l.length→∃c,out[j]?=some c∧∀q,l[j]?=some q→FcC h N c q):FrT h N v l:=by
 refine⟨⟨out,s.sn,hl,fun j q hq=>?_⟩,fun i hi=>?_⟩
 ·obtain⟨c,g1,g2⟩:=hc j (Zct hq)
  exact⟨c,g1,g2 q hq⟩
 ·obtain⟨_,⟨_,rfl⟩|⟨j,rfl,_,_,hg⟩⟩:=s
  ·simp[Zhk]at hi
  ·simp[Zhk]at hi;subst hi;exact⟨_,_,hg⟩
variable {k:Nat}
set_option maxHeartbeats 4000000
def A.w62:=A.q Tryz.f62
def A.lb62_0:=A.ql A.w62 1 []
def A.lb62_1:=(fun x0=>A.ql A.w62 0 [x0]) A.lb62_0
def A.b62:=(fun x0=>A.qb A.w62 [x0]) A.lb62_1
def A.k62:=@A.kk 62 51 [.tmp 2] A.b62 (by kernel_rfl) rfl
def pg(p:List Rat)(i:Nat):Rat:=(p[i]?).getD 0
def Zce{p:List Rat}{i:Nat}(h:i<p.length):p[i]?=some (pg p i):=by
 unfold pg;rw[Yqh h];rfl
def Zbq(p:List Rat):Rat:=pg p 0/pg p (p.length-1)
def Zcs(p:List Rat):List Rat:=(List.range (p.length-1)).map fun k=>pg p (k+1)-Zbq p*pg p (p.length-1-1-k)
def stabQ:Nat→List Rat→Bool
 |0,_=>true
 |n+1,p=>if p.length≤1 then true else if 1≤Zhd (Zbq p) then false else stabQ n (Zcs p)
def Zlk{p:List Rat}:(Zcs p).length=p.length-1:=by simp[Zcs]
def Zll{p:List Rat}(h:k<p.length-1):pg (Zcs p) k=pg p (k+1)-Zbq p*pg p (p.length-1-1-k):=by
 show ((Zcs p)[k]?).getD 0=_
 unfold Zcs;simp[h]
def Yke{q:Rat}(h:Zhd q<1):q*q≠1:=by
 intro hc
 have h2:(q-1)*(q+1)=0:=by grind
 rcases Rat.mul_eq_zero.1 h2 with h3|h3
 ·obtain rfl:q=1:=by grind
  exact absurd h (by decide)
 ·obtain rfl:q= -1:=by grind
  exact absurd h (by decide)
def Zmm{p:List Rat}(h1:1<p.length)(h0:pg p (p.length-1)≠0)(hr:Zhd (Zbq p)<1):pg (Zcs p) ((Zcs p).length-1)≠0:=by
 rw[Zlk,Zll (by omega),show p.length-1-1+1=p.length-1 from by omega,show p.length-1-1-(p.length-1-1)=0 from by omega]
 have e:Zbq p*pg p 0=Zbq p*Zbq p*pg p (p.length-1):=by
  have:pg p 0=Zbq p*pg p (p.length-1):=by unfold Zbq;exact(Rat.div_mul_cancel h0).symm
  rw[Rat.mul_assoc,←this]
 rw[e]
 have:=Yke hr
 intro hc
 apply this
 have h2:(1-Zbq p*Zbq p)*pg p (p.length-1)=0:=by grind
 rcases Rat.mul_eq_zero.1 h2 with h|h
 ·grind
 ·exact absurd h h0
def Yk5{p:List Rat}{n:Nat}(h:p.length≤1):stabQ n p=true:=by
 cases n with
 |zero=>rfl
 |succ n=>unfold stabQ;rw[Yqi h]
def Zo1{p:List Rat}(h1:1≤p.length)(h0:pg p (p.length-1)≠0)(hq:∀q∈p,Qb k q):Qb (k+k) (Zbq p):=by
 have a:=hq _ (Yqn (Zce (p:=p) (i:=0) (by omega)))
 have b:=hq _ (Yqn (Zce (p:=p) (i:=p.length-1) (by omega)))
 unfold Zbq;rw[Rat.div_def]
 exact a.mul (b.inv h0)
def Zz4{p:List Rat}(h1:1≤p.length)(hk:1≤k)(h0:pg p (p.length-1)≠0)(hq:∀q∈p,Qb k q):∀q∈Zcs p,Qb (5*k) q:=by
 intro q hm
 unfold Zcs at hm
 obtain⟨j,hj,rfl⟩:=Yts.1 hm
 rw[List.mem_range]at hj
 have a:=hq _ (Yqn (Zce (p:=p) (i:=j+1) (by omega)))
 have b:=hq _ (Yqn (Zce (p:=p) (i:=p.length-1-1-j) (by omega)))
 exact(a.sub ((Zo1 h1 h0 hq).mul b)).mono (by omega)
structure Yp5 (h:T O) (N:Nat) (l:List Rat) (k m:Nat) (r:T V) (st:St):Prop where
 w:Zac N st.w=[]
 keep:Keeps h N st.h st.n
 ex:∃(v:V) (p:List Rat),r.get 0=some v∧r.get 3=some (.bool true)∧FrT st.h st.n v p∧p.length=m+1∧m+1≤l.length∧pg p m≠0∧(∀q∈p,Qb (k*5^(l.length-1-m)) q)∧stabQ (m+1) p=stabQ l.length l
def Zyy{h:T O}{N:Nat}{v:V}{l:List Rat}(hs:FrT h N v l)(h1:1≤l.length)(hl:l.length≤13)(h0:pg l (l.length-1)≠0)(hq:∀q∈l,Qb k q)(hk:1≤k)(hk2:k*5^(l.length-1)≤400000000):Fn A.C 62 [v] h N (fun x _ _=>x=.bool (stabQ l.length l)):=by
 intro w
 rw[Zab,A.k62 (by simp)]
 simp(disch:=first|(simp;done)|omega|rfl) [-getElem?_pos,A.b62]
 refine Zaj [(0,0),(3,49)] (fun e r st=>e=.exit 0∧Zac N st.w=[]∧Keeps h N st.h st.n∧r.get 3=some (.bool (stabQ l.length l))) (Yp5 h N l k) (l.length-1) ?_ ?_ ?_
 ·refine⟨by simp,Keeps.refl,v,l,by simp,by simp,hs,by omega,by omega,h0,fun q hm=>?_,by rw[show l.length-1+1=l.length from by omega]⟩
  rw[Nat.sub_self,Ytj,Ys0];exact hq q hm
 ·rintro m r ⟨H,n1,W⟩ hr hf ⟨hW,hK,v,p,r0,r3,hp,pl,pll,pz,pq,ps⟩
  simp only at hW hK hp
  have dg:=fun w=>Yby (w:=w) hp.1 (by omega)
  rw[pl]at dg
  rw[Zai]
  cases m with
  |zero=>
   rw[Yk5 (by omega)]at ps
   simp(disch:=first|(simp;done)|omega|rfl) [-getElem?_pos,A.lb62_1,hr,hf,r0,dg,r3,hW,hK,←ps]
  |succ m=>
   obtain⟨i0,o0,x0,e0,w0,c0,a1,a2,a3,a4,a5⟩:=hp.1.at (Zce (p:=p) (i:=0) (by omega))
   obtain⟨i1,o1,x1,e1,w1,c1,b1,b2,b3,b4,b5⟩:=hp.1.at (Zce (p:=p) (i:=m+1) (by omega))
   rw[a1]at b1
   obtain⟨rfl,rfl⟩:i0=i1∧o0=o1:=by simpa using b1
   have lv:=hp.1.len
   rw[pl]at lv
   rw[a3]at b3
   obtain⟨rfl,rfl,rfl⟩:x0=x1∧e0=e1∧w0=w1:=by simpa using b3
   rw[Nat.zero_mul,Ysh]at a4
   have g1:(0:Int)<((m+1+1:Nat):Int)-1:=by omega
   have g2:((m+1+1:Nat):Int)-1<((m+1+1:Nat):Int):=by omega
   have g3:(((m+1+1:Nat):Int)-1).toNat=m+1:=by omega
   have g4:(0:Int)<((m+1+1:Nat):Int):=by omega
   have g5:(0:Int)≤((m+1+1:Nat):Int)-1:=by omega
   simp(disch:=first|(simp;done)|omega|rfl) [-getElem?_pos,A.lb62_1,hr,hf,r0,r3,dg,lv,a1,a2,a3,a4,b4,g1,g2,g3,g4,g5,Zah]
   have hB0:k*5^(l.length-1-(m+1))*5=k*5^(l.length-1-m):=by
    rw[Ytf,←Yqx];congr 2;omega
   have hB1:k*5^(l.length-1-m)≤400000000:=Yr4 (Yqs k (Yq3 (by omega) (by omega))) hk2
   have hBk:1≤k*5^(l.length-1-(m+1)):=Ytc hk (Ys1 (by omega))
   generalize hB:k*5^(l.length-1-(m+1))=B at*
   have pz':pg p (p.length-1)≠0:=by rw[pl];exact pz
   have ql:=Zz4 (by omega) hBk pz' pq
   have qr:=Zo1 (by omega) pz' pq
   have qa:=pq _ (Yqn (Zce (p:=p) (i:=0) (by omega)))
   have qb:=pq _ (Yqn (Zce (p:=p) (i:=m+1) (by omega)))
   have wa:=qa.wls
   have wb:=qb.wls
   have wc:=(qb.inv pz).wls
   have wr:=qr.wls
   have er:pg p 0/pg p (m+1)=Zbq p:=by unfold Zbq;rw[pl];rfl
   refine Zaa (Ybn a5.fc b5.fc pz (by omega) (by omega) (by omega) (by omega) (by omega) (by omega)) ?_
   rintro _ h2 n2 k2 hr2
   rw[er]at hr2
   obtain⟨c2,rfl,hc2⟩:=hr2.c
   obtain⟨f1,f2⟩:=hc2.len
   have hcc:(V.agg c2).cells=c2:=rfl
   have e4:splice zF 0 c2=c2:=by unfold splice;rw[f1];simp[f1,zF]
   have s0:slc c2 0 4=some c2:=by unfold slc;rw[f1];simp;exact Yqp (by omega)
   unfold zF at e4
   have le2:=k2.le
   have kA:Keeps h2 n2 ((h2.set n2 (.cells [.int .i64 0,.nilslice,.int .i64 0,.nilslice] 102 true)).set n2 (.cells c2 102 true)) (n2+1):=(Keeps.refl.new _).set (Yqg _)
   have g2:((h2.set n2 (.cells [.int .i64 0,.nilslice,.int .i64 0,.nilslice] 102 true)).set n2 (.cells c2 102 true)).get n2=some (.cells c2 102 true):=by simp
   simp(disch:=first|(simp;done)|omega|rfl) [-getElem?_pos, -V.cells, -V.one,hr,hf,r0,r3,hcc,f1,f2,e4,Zal,Zam.chk,Zah,s0]
   generalize (h2.set n2 (.cells [.int .i64 0,.nilslice,.int .i64 0,.nilslice] 102 true)).set n2 (.cells c2 102 true)=H3 at*
   refine Zaa (Yho (hr2.keep kA) (by omega)) ?_
   rintro v4 h4 n4 k4 hr4
   have qabs:Qb (B+B) (Zhd (Zbq p)):=by
    unfold Zhd;split
    ·exact qr.neg
    ·exact qr
   have wabs:=qabs.wls
   have w1:=(Qb.int (z:=1) (k:=1) (by decide) (by decide)).wls
   simp(disch:=first|(simp;done)|omega|rfl) [-getElem?_pos,]
   refine Zaa (Ybl (z:=1) (by decide) (by decide)) ?_
   rintro v5 h5 n5 k5 hr5
   simp(disch:=first|(simp;done)|omega|rfl) [-getElem?_pos,]
   refine Zaa (Ybo (hr4.keep k5) hr5 (by omega) (by omega) (by omega) (by omega)) ?_
   rintro _ h6 n6 k6 rfl
   have ec:(0≤sg3 ((Zhd (Zbq p)).num*(((1:Int):Rat).den:Nat)-((1:Int):Rat).num*((Zhd (Zbq p)).den:Nat)))↔1≤Zhd (Zbq p):=by
    have h1:Zhd (Zbq p)<1↔(Zhd (Zbq p)).num*(((1:Int):Rat).den:Nat)<((1:Int):Rat).num*((Zhd (Zbq p)).den:Nat):=by
     rw[Rat.lt_iff];rfl
    rw[←Rat.not_lt,h1];unfold sg3;split
    ·constructor<;>intro<;>omega
    ·split<;>constructor<;>intro<;>omega
   generalize sg3 ((Zhd (Zbq p)).num*(((1:Int):Rat).den:Nat)-((1:Int):Rat).num*((Zhd (Zbq p)).den:Nat))=cz at*
   have kD:=((kA.trans k4).trans k5).trans k6
   have K6:=(hK.trans k2).trans kD
   have ps2:stabQ (m+1+1) p=if 1≤Zhd (Zbq p) then false else stabQ (m+1) (Zcs p):=by
    conv=>lhs;unfold stabQ
    rw[Yqe (by omega)]
   rw[ps2]at ps
   by_cases cc:1≤Zhd (Zbq p)
   ·have cz1:=ec.2 cc
    rw[Yqi cc]at ps
    have leK:=hK.le
    simp(disch:=first|(simp;done)|omega|rfl) [-getElem?_pos,hr,hf,r0,r3,cz1,hW,K6,←ps]
    omega
   ·have cz1:¬0≤cz:=fun h=>cc (ec.1 h)
    rw[Yqe cc]at ps
    have lt1:Zhd (Zbq p)<1:=Rat.not_le.1 cc
    simp(disch:=first|(simp;done)|omega|rfl) [-getElem?_pos,hr,hf,r0,r3,cz1]
    have leK:=hK.le
    have leD:=kD.le
    have leE:=((k4.trans k5).trans k6).le
    have g6:=(((k4.trans k5).trans k6).get n2 (by omega)).trans g2
    have hc6:=hc2.keep kD
    have hp6:=(hp.keep k2).keep kD
    have W6:Zac N (n2::W)=[]:=by simp[Zac,hW];omega
    have lv6:=hp6.1.len
    rw[pl]at lv6
    have bzr:=fun j (hj:j<(Zcs p).length)=>ql _ (Yqn (Zce hj))
    have nl:(Zcs p).length=m+1:=by rw[Zlk,pl];rfl
    refine Zaj [(6,7),(27,48)] (fun e r st=>e=.exit 2∧Zac N st.w=[]∧Keeps h6 n6 st.h st.n∧∃u,r.get 6=some u∧FrT st.h st.n u (Zcs p)) (fun i r st=>Zac N st.w=[]∧Keeps h6 n6 st.h st.n∧∃(t:Nat) (u:V) (out:List (List V)),t+i=m+1∧r.get 27=some (.int .i64 t)∧r.get 6=some u∧Own 4 102 n6 st.h st.n u out∧out.length=t∧(out=[]→u=.nilslice)∧(∀c∈out,∀y∈c,NW y)∧∀j,j<t→∃c,out[j]?=some c∧FcC st.h st.n c (pg (Zcs p) j)) (m+1) ?_ ?_ ?_
    ·exact⟨W6,Keeps.refl,0,.nilslice,[],by omega,by simp,by simp,Own.nil,rfl,fun _=>rfl,by simp,fun j hj=>by omega⟩
    ·rintro i r' ⟨H7,n7,W7⟩ hr' hf' ⟨hW7,hK7,t,u,out,ht,r27,r6,ho,hol,hnil,hY,hout⟩
     simp only at hW7 hK7 ho hout
     rw[Zai]
     cases i with
     |zero=>
      obtain rfl:t=m+1:=by omega
      simp(disch:=first|(simp;done)|omega|rfl) [-getElem?_pos,A.lb62_0,hr',hf',r27,hW7,hK7]
      exact⟨u,r6,Ylg ho (by rw[hol,nl]) fun j hj=>by
       obtain⟨c,x1,x2⟩:=hout j (by omega)
       refine⟨c,x1,fun q hq=>?_⟩
       rw[Zce (by rw[nl];omega)]at hq
       simp only[Yqc]at hq
       rw[←hq];exact x2⟩
     |succ i=>
      have hlt:t<m+1:=by omega
      have hlt':(t:Int)<(m:Int)+1:=by omega
      have hp7:=hp6.keep hK7
      have lv7:=hp7.1.len
      rw[pl]at lv7
      have le7:=hK7.le
      have g7:=(hK7.get n2 (by omega)).trans g6
      have hc7:=hc6.keep hK7
      obtain⟨j0,u0,y0,z0,q0,d0,b1,b2,b3,b4,b5⟩:=hp7.1.at (Zce (p:=p) (i:=t+1) (by omega))
      obtain⟨j1,u1,y1,z1,q1,d1,x1,x2,x3,x4,x5⟩:=hp7.1.at (Zce (p:=p) (i:=m-t) (by omega))
      rw[b1]at x1
      obtain⟨rfl,rfl⟩:j0=j1∧u0=u1:=by simpa using x1
      rw[b3]at x3
      obtain⟨rfl,rfl,rfl⟩:y0=y1∧z0=z1∧q0=q1:=by simpa using x3
      have i1:(0:Int)≤(t:Int)+1:=by omega
      have i2:(t:Int)+1<((m+1+1:Nat):Int):=by omega
      have i3:((t:Int)+1).toNat=t+1:=by omega
      have i4:(0:Int)≤(m:Int)-t:=by omega
      have i5:(m:Int)-t<((m+1+1:Nat):Int):=by omega
      have i6:((m:Int)-t).toNat=m-t:=by omega
      have i7:n2<n7:=by omega
      have bx:=pq _ (Yqn (Zce (p:=p) (i:=t+1) (by omega)))
      have by_:=pq _ (Yqn (Zce (p:=p) (i:=m-t) (by omega)))
      have wx:=bx.wls
      have wy:=by_.wls
      have bm:=qr.mul by_
      have wm:=bm.wls
      simp(disch:=first|(simp;done)|omega|rfl) [-getElem?_pos,A.lb62_0,hr',hf',hr,hf,r0,r3,r27,r6,hlt',lv7,b1,b2,b3,b4,x4,g7,s0,i1,i2,i3,i4,i5,i6,i7,Zah]
      refine Zaa (Ybh hc7.fc x5.fc (by omega) (by omega) (by omega) (by omega)) ?_
      rintro v8 h8 n8 k8 hm8
      simp(disch:=first|(simp;done)|omega|rfl) [-getElem?_pos,]
      refine Zaa (Ybg (b5.keep k8).fc hm8 (by omega) (by omega) (by omega) (by omega)) ?_
      rintro _ h9 n9 k9 hs9
      have en:pg p (t+1)-Zbq p*pg p (m-t)=pg (Zcs p) t:=by
       rw[Zll (by omega),pl,show m+1+1-1-1-t=m-t from by omega]
      rw[en]at hs9
      obtain⟨c9,rfl,hc9⟩:=hs9.c
      obtain⟨f91,f92⟩:=hc9.len
      have hcc9:(V.agg c9).cells=c9:=rfl
      have e9:splice zF 0 c9=c9:=by unfold splice;rw[f91];simp[f91,zF]
      unfold zF at e9
      have K9:=k8.trans k9
      have le9:=K9.le
      have ho9:Own 4 102 n6 (h9.set n9 (.cells c9 102 true)) (n9+1) u out:=(ho.keep K9).keep (Keeps.refl.new _)
      have nw9:∀y∈c9,NW y:=hc9.noU
      obtain⟨u',h',w',j1',j2',j3',j4',jD,j5'⟩:=Zts (Y:=NW) (x:=c9) (u:=.slice n9 0 1 (some 1) 4) (bytes:=64) (w:=[]) ho9 hnil hY (by omega) (by decide) f91 (by simp only[Zbc,St.row,T.get_set,if_true];unfold slc;simp[f91];exact Yqp (by omega)) (by omega)
      have ow:Zac N w'=[]:=Zum j2' (by omega) rfl
      simp(disch:=first|(simp;done)|omega|rfl) [-getElem?_pos, -Zac, -V.cells, -V.one,hr',hf',r27,r6,hcc9,f91,f92,e9,j1']
      refine⟨i,by omega,Zzw ow hW7,((hK7.trans K9).trans (Keeps.refl.new (.cells c9 102 true))).then j3',t+1,by omega,by simp,out++[c9],j5',by simp[hol],by simp,fun c hc y hy=>?_,fun j hj=>?_⟩
      ·rcases Yry.1 hc with hc|hc
       ·exact hY c hc y hy
       ·simp only[Ysf]at hc;subst hc;exact nw9 y hy
      ·by_cases hjt:j<t
       ·obtain⟨c,e1',e2'⟩:=hout j hjt
        exact⟨c,by rw[Yrp (by omega)];exact e1',((e2'.keep K9).keep (Keeps.refl.new _)).moved j4' jD⟩
       ·obtain rfl:j=t:=by omega
        exact⟨c9,by rw[Ytd (by omega),hol];simp,(hc9.keep (Keeps.refl.new _)).moved j4' jD⟩
    ·rintro _ r' ⟨H7,n7,W7⟩ hr' ⟨rfl,hW7,hK7,u,r6,hu⟩
     simp only at hW7 hK7 hu
     have hlast:=Zmm (by omega) pz' lt1
     rw[nl,show m+1-1=m from rfl]at hlast
     rw[Yq5 B 5]at hB0
     simp(disch:=first|(simp;done)|omega|rfl) [-getElem?_pos,hr',r6,hr,hf,r3]
     have hfi:=hf.inner (D':=[(6,7),(27,48)]) rfl (fun hh=>by simpa using hh) hr'
     exact⟨by simpa using hfi,m,by omega,hW7,K6.trans hK7,u,Zcs p,by simp,by simp[hr',r3],hu,nl,by omega,hlast,by rw[←hB0];exact ql,ps⟩
 ·rintro _ r ⟨H,n1,W⟩ hr ⟨rfl,hW,hK,h3⟩
  simp only at hW hK
  simp(disch:=first|(simp;done)|omega|rfl) [-getElem?_pos,hr,h3,Ret,hW,hK]
end
end Go.Mx
