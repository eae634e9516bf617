/-loop-/
import Derived.Test.YtgnadghjglamaaaGreatDoorVaC
set_option linter.all false
namespace Go.Mx
noncomputable section
open Go Go.Proofs
variable {N:Nat} {h:T O}
set_option maxRecDepth 1000000
def A.w94:=A.q Tryz.f94
def A.uv:=A.ql A.w94 0 []
def A.b94:=(fun x0=>A.qb A.w94 [x0]) A.uv
def A.k94:=@A.kk 94 54 [.tmp 4] A.b94 (by kernel_rfl) rfl
def A.b76:=A.q Tryz.f76
def A.k76:=@A.kk 76 8 [.tmp 2] A.b76 (by kernel_rfl) rfl
def zgn(g l p:Rat)(d:Nat):List Rat:=
 (((((List.range (d+3)).map fun _=>(0:Rat)).set (d+2) 1).set (d+1) (-l)).set 1 ((if d=0 then -l else 0)+g+p)).set 0 (-p)
def lD.nou{R m:Nat}{l:List Rat}(s:lD h N R l m){X:List V}{e:TypeId}{w:Bool}(g:h.get R=some (.cells X e w)):sD X:=by obtain⟨cs,g1,g2,g3⟩:=s.ex;obtain⟨f1,f2,_⟩:=lD.M9 g2 g3;rw[g1]at g;simp only[au,O.cells.injEq]at g;rw[<-g.1];exact f2.app Na
def lD.at{R j:Nat}{l:List Rat}{q:Rat}(s:lD h N R l 0)(hj:l[j]?=some q){X:List V}{e:TypeId}{w:Bool}(g:h.get R=some (.cells X e w)):∃c,aE X (j*4) 4=some c/\dB h N c q:=by
 obtain⟨cs,g1,g2,g3⟩:=s.ex;obtain⟨f1,f2,_⟩:=lD.M9 g2 g3;rw[g1]at g;simp only[au,O.cells.injEq]at g;obtain⟨c,a,b⟩:=g3 j q hj;have hz:dw zF 0=[]:=by simp[dw]
 rw[<-g.1,hz,AD];exact⟨c,KV f1 a,b⟩
def dB.up{c:List V}{q:Rat}(s:dB h N c q):Fc h N (.agg c) q:=by obtain⟨a,b,c,d,rfl,e,f⟩:=s;exact⟨a,b,c,d,rfl,e,f⟩
def Ydf{d k:Nat}{x:V}{g l p:Rat}{gs:aU}(hg:Fc h N x g)(bg:Qb k g)(bl:Qb k l)(bp:Qb k p)(hk:k<=50000)(hd:d<=6):Fn A.C 94 [.agg [.str gs,.str (ax l),.str (ax p),.int .i64 d],x] h N (fun v h' n'=>nK h' n' v (zgn g l p d)):=by
 intro w;obtain⟨na,ua,nb,ub,rfl,sa,sb⟩:=hg;have oa:=de sa;have ob:=de sb;unfold V.one at oa ob;have fg:dB h N [.int .i64 na,ua,.int .i64 nb,ub] g:=⟨na,ua,nb,ub,rfl,sa,sb⟩;have c1:(64:Int)*((d:Int)+2+1)<=140737488355328:=by omega
 have c2:(d:Int)+2+1<4611686018427387904:=by omega
 have c3:(0:Int)<=(d:Int)+2+1:=by omega
 have ct:((d:Int)+2+1).toNat=d+3:=by omega
 rw[aV,A.k94 (by simp)];simp(disch:=first|(simp;done)|omega|rfl) [-getElem?_pos,A.b94,oa,ob,c1,c2,c3,ct];have kB:ae h N (((h.set N (.cells [.str gs,.str (ax l),.str (ax p),.int .i64 d] 24 true)).set (N+1) (.cells [.int .i64 na,ua,.int .i64 nb,ub] 110 true)).set (N+1+1) (.cells (dw [V.int .i64 0,V.aa,V.int .i64 0,V.aa] (d+3)) 110 true)) (N+3):=((ae.refl.new _).new _).new _;have b0:(((h.set N (.cells [.str gs,.str (ax l),.str (ax p),.int .i64 d] 24 true)).set (N+1) (.cells [.int .i64 na,ua,.int .i64 nb,ub] 110 true)).set (N+1+1) (.cells (dw [V.int .i64 0,V.aa,V.int .i64 0,V.aa] (d+3)) 110 true)).get N=some (.cells [.str gs,.str (ax l),.str (ax p),.int .i64 d] 24 true):=by simp
 have b1:(((h.set N (.cells [.str gs,.str (ax l),.str (ax p),.int .i64 d] 24 true)).set (N+1) (.cells [.int .i64 na,ua,.int .i64 nb,ub] 110 true)).set (N+1+1) (.cells (dw [V.int .i64 0,V.aa,V.int .i64 0,V.aa] (d+3)) 110 true)).get (N+1)=some (.cells [.int .i64 na,ua,.int .i64 nb,ub] 110 true):=by simp
 have b2:(((h.set N (.cells [.str gs,.str (ax l),.str (ax p),.int .i64 d] 24 true)).set (N+1) (.cells [.int .i64 na,ua,.int .i64 nb,ub] 110 true)).set (N+1+1) (.cells (dw [V.int .i64 0,V.aa,V.int .i64 0,V.aa] (d+3)) 110 true)).get (N+2)=some (.cells (dw zF (d+3)) 110 true):=by simp[zF]
 generalize (((h.set N (.cells [.str gs,.str (ax l),.str (ax p),.int .i64 d] 24 true)).set (N+1) (.cells [.int .i64 na,ua,.int .i64 nb,ub] 110 true)).set (N+1+1) (.cells (dw [V.int .i64 0,V.aa,V.int .i64 0,V.aa] (d+3)) 110 true))=hB at*;refine c_ [(7,7),(17,24)] (fun e r st=>e=.exit 0/\aD N st.w=[]/\ae h N st.h st.n/\N+3<=st.n/\st.h.get N=hB.get N/\st.h.get (N+1)=hB.get (N+1)/\lD st.h st.n (N+2) ((List.range (d+3)).map fun _=>0) 0) (fun i r st=>aD N st.w=[]/\ae h N st.h st.n/\N+3<=st.n/\st.h.get N=hB.get N/\st.h.get (N+1)=hB.get (N+1)/\∃t,t+i=d+3/\r.get 17=some (.int .i64 t)/\lD st.h st.n (N+2) ((List.range t).map fun _=>0) i) (d+3) ?_ ?_ ?_
 ·exact⟨by simp,kB,aZ (N+3),rfl,rfl,0,by omega,by simp,by show N+2<N+3;omega,[],by rw[b2];simp,rfl,fun j q hq=>by simp at hq⟩
 ·rintro i r ⟨H,n1,W⟩ hr hf ⟨hW,hK,hn,m0,m1,t,ht,h9,hQ⟩;simp only at hW hK hQ hn m0 m1;rw[dk];cases i with
  |zero=>
   obtain rfl:t=d+3:=by omega
   simp(disch:=first|(simp;done)|omega|rfl) [-getElem?_pos,A.uv,hr,hf,h9,hW,hK,hn,m0,m1];exact hQ
  |succ i=>
   have aP:t<d+3:=by omega
   have dE:(t:Int)<(d:Int)+3:=by omega
   simp(disch:=first|(simp;done)|omega|rfl) [-getElem?_pos,A.uv,hr,hf,h9,aP,dE];refine az (xj (z:=0) (by decide) (by decide)) ?_;rintro _ H2 n2 k2 hz;obtain⟨c,rfl,hc⟩:=hz.c;obtain⟨e1,e2⟩:=hc.len;have oP:=k2.le;have lY:(V.agg c).cells=c:=rfl;obtain⟨X,x1,x2,x3⟩:=(hQ.ah k2).next hc;have lN:N+2<n2:=h_ hQ.lt oP;have hl:((List.range t).map fun _=>(0:Rat)).length=t:=by simp
   rw[hl]at x2 x3;have m0':=(k2.get N (by omega)).trans m0;have m1':=(k2.get (N+1) (by omega)).trans m1;simp(disch:=first|(simp;done)|omega|rfl) [-getElem?_pos, -V.cells, -V.one,hr,hf,h9,aP,dE,bE,lY,e1,e2,x1,x2,lN];exact⟨i,by omega,by simpa[aD]using hW,(hK.trans k2).set (by omega),by omega,m0',m1',t+1,by omega,by simp,by rw[List.range_succ,List.map_append];exact x3⟩
 rintro _ r ⟨H,n1,W⟩ hr ⟨rfl,hW,hK,hn,m0,m1,hQ⟩;simp only at hW hK hQ hn m0 m1;rw[b0]at m0;rw[b1]at m1;have g0:N<n1:=by omega
 simp(disch:=first|(simp;done)|omega|rfl) [-getElem?_pos,hr,m0,g0];refine az (Df bp (by omega)) ?_;rintro vp h2 n2 k2 hp;obtain⟨pa,pu,pb,pv,rfl,ta,tb⟩:=hp;have oc:=de ta;have od:=de tb;unfold V.one at oc od;have oP:=k2.le;have k3:ae h2 n2 ((h2.set n2 (.cells [.int .i64 0,.aa,.int .i64 0,.aa] 110 true)).set n2 (.cells [.int .i64 pa,pu,.int .i64 pb,pv] 110 true)) (n2+1):=(ae.refl.new _).set (aZ _);have b8:((h2.set n2 (.cells [.int .i64 0,.aa,.int .i64 0,.aa] 110 true)).set n2 (.cells [.int .i64 pa,pu,.int .i64 pb,pv] 110 true)).get n2=some (.cells [.int .i64 pa,pu,.int .i64 pb,pv] 110 true):=by simp
 have fp:dB h2 n2 [.int .i64 pa,pu,.int .i64 pb,pv] p:=⟨pa,pu,pb,pv,rfl,ta,tb⟩;simp(disch:=first|(simp;done)|omega|rfl) [-getElem?_pos,hr,oc,od,bE,ag];generalize (h2.set n2 (.cells [.int .i64 0,.aa,.int .i64 0,.aa] 110 true)).set n2 (.cells [.int .i64 pa,pu,.int .i64 pb,pv] 110 true)=H3 at*;refine az (xj (z:=1) (by decide) (by decide)) ?_;rintro _ h4 n4 k4 h1;replace h1:Fc h4 n4 _ 1:=h1;obtain⟨c4,rfl,hc4⟩:=h1.c;obtain⟨e41,e42⟩:=hc4.len;have zdg:(V.agg c4).cells=c4:=rfl;have lL:((List.range (d+3)).map fun _=>(0:Rat)).length=d+3:=by simp
 obtain⟨X,x1,x2,x3⟩:=(((hQ.ah k2).ah k3).ah k4).put hc4 (j:=d+2) (by rw[lL];omega);have d1:(d:Int)+2<(d:Int)+3:=by omega
 have d2:((d:Int)+2).toNat=d+2:=by omega
 have d3:(0:Int)<=(d:Int)+2:=by omega
 have xX:=k3.le;have Nb:=k4.le;have lR:N+2<n4:=by omega
 have lN4:N<n4:=by omega
 have K4:=(k2.trans k3).trans k4;have m4:=(K4.get N (by omega)).trans m0;have m4':=(K4.get (N+1) (by omega)).trans m1;have p4:=(k4.get n2 (by omega)).trans b8;simp(disch:=first|(simp;done)|omega|rfl) [-getElem?_pos, -V.cells, -V.one,hr,bE,zdg,e41,e42,x1,x2,lR,d1,d2,d3,m4,lN4];have nu4:=lD.nou (((hQ.ah k2).ah k3).ah k4) x1;have sl4:(ag X ((d+2)*4) c4).length=X.length:=Ia (by omega);have fg5:=((fg.ah hK).ah K4).aG (c1:=ag X ((d+2)*4) c4) (e1:=110) (w1:=true) x1 nu4 sl4;have fp5:=((fp.ah k3).ah k4).aG (c1:=ag X ((d+2)*4) c4) (e1:=110) (w1:=true) x1 nu4 sl4;have M5:(h4.set (N+2) (.cells (ag X ((d+2)*4) c4) 110 true)).get N=some (.cells [.str gs,.str (ax l),.str (ax p),.int .i64 d] 24 true):=by rw[T.aj,aA (by omega)];exact m4
 have M5':(h4.set (N+2) (.cells (ag X ((d+2)*4) c4) 110 true)).get (N+1)=some (.cells [.int .i64 na,ua,.int .i64 nb,ub] 110 true):=by rw[T.aj,aA (by omega)];exact m4'
 have P5:(h4.set (N+2) (.cells (ag X ((d+2)*4) c4) 110 true)).get n2=some (.cells [.int .i64 pa,pu,.int .i64 pb,pv] 110 true):=by rw[T.aj,aA (by omega)];exact p4
 have K5:ae h N (h4.set (N+2) (.cells (ag X ((d+2)*4) c4) 110 true)) n4:=(hK.trans K4).set (by omega);generalize h4.set (N+2) (.cells (ag X ((d+2)*4) c4) 110 true)=H5 at*;refine az (Df bl (by omega)) ?_;rintro v6 h6 n6 k6 hl6;have wbl:=bl.iC;simp(disch:=first|(simp;done)|omega|rfl) [-getElem?_pos,];refine az (RU hl6 (by omega)) ?_;rintro _ h7 n7 k7 hm7;obtain⟨c7,rfl,RV⟩:=hm7.c;obtain⟨e71,e72⟩:=RV.len;have zdh:(V.agg c7).cells=c7:=rfl;have K7:=k6.trans k7;have lL5:(((List.range (d+3)).map fun _=>(0:Rat)).set (d+2) 1).length=d+3:=by simp
 obtain⟨Y,y1,y2,y3⟩:=(x3.ah K7).put RV (j:=d+1) (by rw[lL5];omega);have d4:(d:Int)+2-1<(d:Int)+3:=by omega
 have d5:((d:Int)+2-1).toNat=d+1:=by omega
 have d6:(0:Int)<=(d:Int)+2-1:=by omega
 have le7:=K7.le;have lR7:N+2<n7:=by omega
 have lN7:N<n7:=by omega
 simp(disch:=first|(simp;done)|omega|rfl) [-getElem?_pos, -V.cells, -V.one,hr,bE,zdh,e71,e72,y1,y2,lR7,d4,d5,d6];have nu7:=lD.nou (x3.ah K7) y1;have sl7:(ag Y ((d+1)*4) c7).length=Y.length:=Ia (by omega);have fg8:=(fg5.ah K7).aG (c1:=ag Y ((d+1)*4) c7) (e1:=110) (w1:=true) y1 nu7 sl7;have fp8:=(fp5.ah K7).aG (c1:=ag Y ((d+1)*4) c7) (e1:=110) (w1:=true) y1 nu7 sl7;have M8':(h7.set (N+2) (.cells (ag Y ((d+1)*4) c7) 110 true)).get (N+1)=some (.cells [.int .i64 na,ua,.int .i64 nb,ub] 110 true):=by rw[T.aj,aA (by omega)];exact(K7.get (N+1) (by omega)).trans M5'
 have P8:(h7.set (N+2) (.cells (ag Y ((d+1)*4) c7) 110 true)).get n2=some (.cells [.int .i64 pa,pu,.int .i64 pb,pv] 110 true):=by rw[T.aj,aA (by omega)];exact(K7.get n2 (by omega)).trans P5
 have Y8:(h7.set (N+2) (.cells (ag Y ((d+1)*4) c7) 110 true)).get (N+2)=some (.cells (ag Y ((d+1)*4) c7) 110 true):=by rw[T.aj,aQ rfl]
 have K8:ae h N (h7.set (N+2) (.cells (ag Y ((d+1)*4) c7) 110 true)) n7:=(K5.trans K7).set (by omega);generalize h7.set (N+2) (.cells (ag Y ((d+1)*4) c7) 110 true)=H8 at*;generalize ag Y ((d+1)*4) c7=Z at*;have g1q:((((List.range (d+3)).map fun _=>(0:Rat)).set (d+2) 1).set (d+1) (-l))[1]?=some (if d=0 then -l else 0):=by
  by_cases kv:d=0
  ·subst kv;simp
  rw[eR (by omega),eR (by omega)];simp[kv]
 obtain⟨c1v,s1,fc1⟩:=y3.at g1q Y8;obtain⟨z1,z2⟩:=fc1.len;have RW:=K8.le;have lR8:N+2<n7:=by omega
 have lG8:N+1<n7:=by omega
 have lP8:n2<n7:=by omega
 have q1:(0:Int)<=(d:Int)+3:=by omega
 have q2:(1:Int)<(d:Int)+3:=by omega
 rw[show 1*4=4 from rfl]at s1;have sg:aE [V.int .i64 na,ua,.int .i64 nb,ub] 0 4=some [.int .i64 na,ua,.int .i64 nb,ub]:=rfl;have sp:aE [V.int .i64 pa,pu,.int .i64 pb,pv] 0 4=some [.int .i64 pa,pu,.int .i64 pb,pv]:=rfl;simp(disch:=first|(simp;done)|omega|rfl) [-getElem?_pos, -V.cells, -V.one,hr,aJ,Y8,M8',P8,lR8,lG8,lP8,q2,s1,sg,sp];have ew:1<=k:=by
  have h1:=bg.2;have h2:=g.den_pos;rcases k with _|k
  ·simp at h1;omega
  omega
 have bz:Qb k (if d=0 then -l else 0):=by
  split
  ·exact bl.neg
  exact(Qb.int (z:=0) (k:=1) (by decide) (by decide)).mono ew
 have wz:=bz.iC;have wg:=bg.iC;have wp:=bp.iC;have ws:=(bz.add bg).iC;refine az (KW fc1.up fg8.up (by omega) (by omega) (by omega) (by omega)) ?_;rintro v11 fA xY k11 ha;have zdi:=k11.le;have P11:=(k11.get n2 (by omega)).trans P8;have zdj:n2<xY:=by omega
 simp(disch:=first|(simp;done)|omega|rfl) [-getElem?_pos, -V.cells, -V.one,hr,aJ,P11,zdj,sp];refine az (KW ha (fp8.ah k11).up (by omega) (by omega) (by omega) (by omega)) ?_;rintro _ eK eN k12 hb;obtain⟨c12,rfl,Nc⟩:=hb.c;obtain⟨zdk,zdl⟩:=Nc.len;have Nd:(V.agg c12).cells=c12:=rfl;have Ib:=k11.trans k12;have zdm:=Ib.le;obtain⟨U,u1,u2,u3⟩:=(y3.ah Ib).put Nc (j:=1) (by simp);have zdn:N+2<eN:=by omega
 rw[show 1*4=4 from rfl]at u2 u3;have bF:¬n2=N+1+1:=by omega
 have P12:=(Ib.get n2 (by omega)).trans P8;have zdo:n2<eN:=by omega
 simp(disch:=first|(simp;done)|omega|rfl) [-getElem?_pos, -V.cells, -V.one,hr,aJ,bE,Nd,zdk,zdl,u1,u2,zdn,q2,bU.bZ,P12,zdo,bF,sp];have zdp:=lD.nou (y3.ah Ib) u1;have zdq:(ag U 4 c12).length=U.length:=Ia (by omega);have zdr:=(fp8.ah Ib).aG (c1:=ag U 4 c12) (e1:=110) (w1:=true) u1 zdp zdq;have P13:(eK.set (N+2) (.cells (ag U 4 c12) 110 true)).get n2=some (.cells [.int .i64 pa,pu,.int .i64 pb,pv] 110 true):=by rw[T.aj,aA (by omega)];exact(Ib.get n2 (by omega)).trans P8
 have K13:ae h N (eK.set (N+2) (.cells (ag U 4 c12) 110 true)) eN:=(K8.trans Ib).set (by omega);generalize eK.set (N+2) (.cells (ag U 4 c12) 110 true)=H13 at*;refine az (RU zdr.up (by omega)) ?_;rintro _ rP KX k14 zds;obtain⟨c14,rfl,Nf⟩:=zds.c;obtain⟨zdt,zdu⟩:=Nf.len;have Ng:(V.agg c14).cells=c14:=rfl;have zeU:=k14.le;obtain⟨S,t1,t2,t3⟩:=(u3.ah k14).put Nf (j:=0) (by simp);rw[show 0*4=0 from rfl]at t2 t3;have zdv:N+2<KX:=by omega
 have q3:(0:Int)<(d:Int)+3:=by omega
 simp(disch:=first|(simp;done)|omega|rfl) [-getElem?_pos, -V.cells, -V.one,hr,aJ,bE,Ng,zdt,zdu,t1,t2,zdv,q3,aF];have ec:(zgn g l p d).length=d+3:=by simp[zgn]
 have fin:nK (rP.set (N+2) (.cells (ag S 0 c14) 110 true)) KX (.slice (N+2) 0 (zgn g l p d).length (some (zgn g l p d).length) 4) (zgn g l p d):=t3.frt;rw[ec]at fin;exact⟨by rw[aA (by omega)];exact hW,(K13.trans k14).set (by omega),fin⟩
def Ymh{d k:Nat}{g l p:Rat}(bg:Qb k g)(bl:Qb k l)(bp:Qb k p)(hk:k<=50000)(hd:d<=6):Fn A.C 76 [.agg [.str (ax g),.str (ax l),.str (ax p),.int .i64 d]] h N (fun v h' n'=>nK h' n' v (zgn g l p d)):=by intro w;rw[aV,A.k76 (by simp)];have kB:=aI (ae.refl (h:=h) (n:=N)) (.cells [.str (ax g),.str (ax l),.str (ax p),.int .i64 d] 24 true);simp(disch:=first|(simp;done)|omega|rfl) [-getElem?_pos,A.b76,aJ,aE];generalize h.set N (.cells [.str (ax g),.str (ax l),.str (ax p),.int .i64 d] 24 true)=hB at*;refine az (Df bg (by omega)) ?_;rintro v1 h1 n1 k1 h1g;simp(disch:=first|(simp;done)|omega|rfl) [-getElem?_pos,];refine az (Ydf h1g bg bl bp hk hd) ?_;rintro v2 h2 n2 k2 h2g;simp(disch:=first|(simp;done)|omega|rfl) [-getElem?_pos,bU.bZ,aF];exact⟨(kB.trans k1).trans k2,h2g⟩
def A.b133:=A.q Tryz.f133
def A.k133:=@A.kk 133 9 [.cell 2 (some 4)] A.b133 (by kernel_rfl) rfl
def A.b129:=A.q Tryz.f129
def A.k129:=@A.kk 129 6 [.tmp 2] A.b129 (by kernel_rfl) rfl
def iE(q:Rat):Rat:=if q<0 then -q else q
def Lf{h:T O}{N:Nat}{x:V}{q:Rat}(hx:Fc h N x q)(l1:wl q.num<1000000000):Fn A.C 133 [x] h N (fun v h' n'=>Fc h' n' v (iE q)):=by
 intro w;rw[aV,A.k133 (by simp)];obtain⟨n1,u1,n2,u2,rfl,s1,s2⟩:=hx;have o1:=de s1;have o2:=de s2;unfold V.one at o1 o2;have kB:ae h N ((h.set N (.cells [.int .i64 n1,u1,.int .i64 n2,u2] 110 true)).set (N+1) (.cells [.int .i64 0,.aa,.int .i64 0,.aa] 110 true)) (N+2):=aI (aI ae.refl _) _;have b0:((h.set N (.cells [.int .i64 n1,u1,.int .i64 n2,u2] 110 true)).set (N+1) (.cells [.int .i64 0,.aa,.int .i64 0,.aa] 110 true)).get N=some (.cells [.int .i64 n1,u1,.int .i64 n2,u2] 110 true):=by simp
 have b1:((h.set N (.cells [.int .i64 n1,u1,.int .i64 n2,u2] 110 true)).set (N+1) (.cells [.int .i64 0,.aa,.int .i64 0,.aa] 110 true)).get (N+1)=some (.cells [.int .i64 0,.aa,.int .i64 0,.aa] 110 true):=by simp
 simp(disch:=first|(simp;done)|omega|rfl) [-getElem?_pos,A.b133,aJ,aE,ag,o1,o2];generalize gT:(h.set N (.cells [.int .i64 n1,u1,.int .i64 n2,u2] 110 true)).set (N+1) (.cells [.int .i64 0,.aa,.int .i64 0,.aa] 110 true)=hB at*;clear gT;have hx:Fc hB (N+2) (.agg [.int .i64 n1,u1,.int .i64 n2,u2]) q:=⟨n1,u1,n2,u2,rfl,s1.ah kB,s2.ah kB⟩;refine az (Ld hx) ?_;rintro _ h1 m1 k1 rfl;have uw:=k1.le;have f0:=(k1.get N (by omega)).trans b0;have f1:=(k1.get (N+1) (by omega)).trans b1;have e0:N<m1:=by omega
 have e1:N+1<m1:=by omega
 by_cases hz:q<0
 ·have hs:=AE.2 hz;simp(disch:=first|(simp;done)|omega|rfl) [-getElem?_pos,f0,e0,hs,aJ,aE];refine az (RU (hx.ah k1) l1) ?_;rintro _ h2 m2 k2 ⟨n3,u3,n4,u4,rfl,t1,t2⟩;have o3:=de t1;have o4:=de t2;unfold V.one at o3 o4;have oP:=k2.le;have f2:=(k2.get (N+1) (by omega)).trans f1;have e2:N+1<m2:=by omega
  simp(disch:=first|(simp;done)|omega|rfl) [-getElem?_pos,f2,e2,aJ,aE,ag,bE,o3,o4,aF];have ea:iE q= -q:=aQ hz;rw[ea];exact⟨((kB.trans k1).trans k2).set (by omega),n3,u3,n4,u4,rfl,t1.aG (i:=N+1) f2 lZ rfl,t2.aG (i:=N+1) f2 lZ rfl⟩
 have hs:¬df q.num<0:=fun hc=>hz (AE.1 hc);have s1':=(s1.ah kB).ah k1;have s2':=(s2.ah kB).ah k1;simp(disch:=first|(simp;done)|omega|rfl) [-getElem?_pos,f0,f1,e0,e1,hs,aJ,aE,ag,bE,o1,o2,aF];have ea:iE q=q:=aA hz;rw[ea];exact⟨(kB.trans k1).set (by omega),n1,u1,n2,u2,rfl,s1'.aG (i:=N+1) f1 lZ rfl,s2'.aG (i:=N+1) f1 lZ rfl⟩
def Ywk{h:T O}{N:Nat}{w:List Nat}{v:V}{l:List Rat}(hs:yR h N v l)(hb:l.length<100000):A.C.call (.func 129 [] []) [v] ⟨h,N,w⟩=some (.int .i64 ((l.length:Int)-1),⟨h,N,w⟩):=by have hl:=hs.len;apply Call.eq;rw[aV,A.k129 (by simp)];simp(disch:=first|(simp;done)|omega|rfl) [-getElem?_pos,A.b129,hl]
variable {N:Nat} {h h':T O} {v:V}
abbrev NW(y:V):Prop:=∀m,y≠.int .u64 m
def In.eY{n n':Nat}{x:V}{z:Int}{e:TypeId}(s:In h n x z)(k:sE (fun i=>i∈dR v) h n h' n')(hd:Nh e NW h v):In h' n' x z:=by
 rcases s with s|⟨i,o,l,c,s1,s2,s3⟩
 ·exact .inl s
 refine .inr ⟨i,o,l,c,s1,Sl.eY s2 k fun j hj hjv=>?_,s3⟩;simp[dR]at hj;subst hj;obtain⟨z2,g1,_,g3⟩:=hd j hjv;unfold Wn at s2;have bF:aN z.natAbs≠[]:=fun h0=>by have:=mB z.natAbs;rw[h0]at this;simp[val]at this;omega
 obtain⟨d,ds,pB⟩:=List.exists_cons_of_ne_nil bF;have hat:(dg (aN z.natAbs))[0]?=some (.int .u64 d):=by rw[pB];simp[dg]
 obtain⟨i2,o2,c2,e2,rw2,q1,q2,q3,q4⟩:=Sl.at s2 hat;simp[AF]at q1;obtain⟨rfl,rfl⟩:=q1;rw[g1]at q3;simp only[au,O.cells.injEq]at q3;obtain⟨rfl,_⟩:=q3;exact g3 _ (eZ q4) _ rfl
def dB.eY{n n':Nat}{c:List V}{q:Rat}{e:TypeId}(s:dB h n c q)(k:sE (fun i=>i∈dR v) h n h' n')(hd:Nh e NW h v):dB h' n' c q:=by obtain⟨n1,u1,n2,u2,rfl,s1,s2⟩:=s;exact⟨n1,u1,n2,u2,rfl,s1.eY k hd,s2.eY k hd⟩
def Sn.Ic{z:Nat}{l:List (List V)}(s:Sn z h N v l):∀i∈dR v,i<N:=fun i hi=>by
 rcases s with⟨_,rfl|rfl⟩|⟨j,o,cp,c,e,rw,rfl,hj,_⟩
 ·simp[dR]at hi
 ·simp[dR]at hi
 ·simp[dR]at hi;omega
def Sn.eY{z:Nat}{D:Nat->Prop}{N':Nat}{l:List (List V)}(s:Sn z h N v l)(k:sE D h N h' N')(hd:∀i∈dR v,¬D i):Sn z h' N' v l:=by
 rcases s with s|⟨i,o,cp,c,e,rw,rfl,h2,h3,h4⟩
 ·exact .inl s
 exact .inr ⟨i,o,cp,c,e,rw,rfl,h_ h2 k.le,(k.get i h2 (hd i (by simp[dR]))).trans h3,h4⟩
def nK.ah{N':Nat}{u:V}{l:List Rat}(s:nK h N u l)(k:ae h N h' N'):nK h' N' u l:=⟨s.1.ah k,fun i hi=>by
 obtain⟨cs,h1,_⟩:=s.1
 rw[k.get i (h1.Ic i hi)]
 exact s.2 i hi⟩
def RX{N0:Nat}{out:List (List V)}{l:List Rat}(s:Own 4 110 N0 h N v out)(hl:out.length=l.length)(hc:∀(j:Nat),j<l.length->∃c,out[j]?=some c/\∀q,l[j]?=some q->dB h N c q):nK h N v l:=by
 refine⟨⟨out,s.sn,hl,fun j q hq=>?_⟩,fun i hi=>?_⟩
 ·obtain⟨c,g1,g2⟩:=hc j (yS hq);exact⟨c,g1,g2 q hq⟩
 obtain⟨_,⟨_,rfl⟩|⟨j,rfl,_,_,hg⟩⟩:=s
 ·simp[dR]at hi
 simp[dR]at hi;subst hi;exact⟨_,_,hg⟩
variable {k:Nat}
set_option maxHeartbeats 4000000
def A.w80:=A.q Tryz.f80
def A.ux:=A.ql A.w80 1 []
def A.uy:=(fun x0=>A.ql A.w80 0 [x0]) A.ux
def A.b80:=(fun x0=>A.qb A.w80 [x0]) A.uy
def A.k80:=@A.kk 80 51 [.tmp 2] A.b80 (by kernel_rfl) rfl
def pg(p:List Rat)(i:Nat):Rat:=(p[i]?).getD 0
def eL{p:List Rat}{i:Nat}(h:i<p.length):p[i]?=some (pg p i):=by unfold pg;rw[eA h];rfl
def ratio(p:List Rat):Rat:=pg p 0/pg p (p.length-1)
def jB(p:List Rat):List Rat:=(List.range (p.length-1)).map fun k=>pg p (k+1)-ratio p*pg p (p.length-1-1-k)
def zgo:Nat->List Rat->Bool
 |0,_=>true
 |n+1,p=>if p.length<=1 then true else if 1<=iE (ratio p) then false else zgo n (jB p)
def Iz{p:List Rat}:(jB p).length=p.length-1:=by simp[jB]
def Yv2{p:List Rat}(h:k<p.length-1):pg (jB p) k=pg p (k+1)-ratio p*pg p (p.length-1-1-k):=by show ((jB p)[k]?).getD 0=_;unfold jB;simp[h]
def Yw9{q:Rat}(h:iE q<1):q*q≠1:=by
 intro hc;have h2:(q-1)*(q+1)=0:=by grind
 rcases Rat.mul_eq_zero.1 h2 with h3|h3
 ·obtain rfl:q=1:=by grind
  exact absurd h (by decide)
 obtain rfl:q= -1:=by grind
 exact absurd h (by decide)
def Yv3{p:List Rat}(h1:1<p.length)(h0:pg p (p.length-1)≠0)(hr:iE (ratio p)<1):pg (jB p) ((jB p).length-1)≠0:=by
 rw[Iz,Yv2 (by omega),show p.length-1-1+1=p.length-1 from by omega,show p.length-1-1-(p.length-1-1)=0 from by omega];have e:ratio p*pg p 0=ratio p*ratio p*pg p (p.length-1):=by
  have:pg p 0=ratio p*pg p (p.length-1):=by unfold ratio;exact(Rat.div_mul_cancel h0).symm
  rw[Rat.mul_assoc,<-this]
 rw[e];have:=Yw9 hr;intro hc;apply this;have h2:(1-ratio p*ratio p)*pg p (p.length-1)=0:=by grind
 rcases Rat.mul_eq_zero.1 h2 with h|h
 ·grind
 exact absurd h h0
def Yxb{p:List Rat}{n:Nat}(h:p.length<=1):zgo n p=true:=by
 cases n with
 |zero=>rfl
 |succ n=>unfold zgo;rw[aQ h]
def Yv0{p:List Rat}(h1:1<=p.length)(h0:pg p (p.length-1)≠0)(hq:∀q∈p,Qb k q):Qb (k+k) (ratio p):=by have a:=hq _ (eZ (eL (p:=p) (i:=0) (by omega)));have b:=hq _ (eZ (eL (p:=p) (i:=p.length-1) (by omega)));unfold ratio;rw[Rat.div_def];exact a.mul (b.inv h0)
def Ywg{p:List Rat}(h1:1<=p.length)(hk:1<=k)(h0:pg p (p.length-1)≠0)(hq:∀q∈p,Qb k q):∀q∈jB p,Qb (5*k) q:=by intro q hm;unfold jB at hm;obtain⟨j,hj,rfl⟩:=AG.1 hm;rw[Sa]at hj;have a:=hq _ (eZ (eL (p:=p) (i:=j+1) (by omega)));have b:=hq _ (eZ (eL (p:=p) (i:=p.length-1-1-j) (by omega)));exact(a.sub ((Yv0 h1 h0 hq).mul b)).mono (by omega)
structure Yxr (h:T O) (N:Nat) (l:List Rat) (k m:Nat) (r:T V) (st:St):Prop where
 w:aD N st.w=[]
 ah:ae h N st.h st.n
 ex:∃(v:V) (p:List Rat),r.get 0=some v/\r.get 3=some (.bool true)/\nK st.h st.n v p/\p.length=m+1/\m+1<=l.length/\pg p m≠0/\(∀q∈p,Qb (k*5^(l.length-1-m)) q)/\zgo (m+1) p=zgo l.length l
def Ywb{h:T O}{N:Nat}{v:V}{l:List Rat}(hs:nK h N v l)(h1:1<=l.length)(hl:l.length<=13)(h0:pg l (l.length-1)≠0)(hq:∀q∈l,Qb k q)(hk:1<=k)(gO:k*5^(l.length-1)<=400000000):Fn A.C 80 [v] h N (fun x _ _=>x=.bool (zgo l.length l)):=by
 intro w;rw[aV,A.k80 (by simp)];simp(disch:=first|(simp;done)|omega|rfl) [-getElem?_pos,A.b80];refine c_ [(0,0),(3,49)] (fun e r st=>e=.exit 0/\aD N st.w=[]/\ae h N st.h st.n/\r.get 3=some (.bool (zgo l.length l))) (Yxr h N l k) (l.length-1) ?_ ?_ ?_
 ·refine⟨by simp,ae.refl,v,l,by simp,by simp,hs,by omega,by omega,h0,fun q hm=>?_,by rw[show l.length-1+1=l.length from by omega]⟩;rw[Nat.sub_self,AH,tE];exact hq q hm
 ·rintro m r ⟨H,n1,W⟩ hr hf ⟨hW,hK,v,p,r0,r3,hp,pl,Lg,pz,pq,ps⟩;simp only at hW hK hp;have dg:=fun w=>Ywk (w:=w) hp.1 (by omega);rw[pl]at dg;rw[dk];cases m with
  |zero=> rw[Yxb (by omega)]at ps;simp(disch:=first|(simp;done)|omega|rfl) [-getElem?_pos,A.uy,hr,hf,r0,dg,r3,hW,hK,<-ps]
  |succ m=>
   obtain⟨i0,o0,x0,e0,w0,c0,a1,a2,a3,a4,a5⟩:=hp.1.at (eL (p:=p) (i:=0) (by omega));obtain⟨i1,o1,x1,e1,w1,c1,b1,b2,b3,b4,b5⟩:=hp.1.at (eL (p:=p) (i:=m+1) (by omega));rw[a1]at b1;obtain⟨rfl,rfl⟩:i0=i1/\o0=o1:=by simpa using b1
   have lv:=hp.1.len;rw[pl]at lv;rw[a3]at b3;obtain⟨rfl,rfl,rfl⟩:x0=x1/\e0=e1/\w0=w1:=by simpa using b3
   rw[Nat.zero_mul,tF]at a4;have g1:(0:Int)<((m+1+1:Nat):Int)-1:=by omega
   have g2:((m+1+1:Nat):Int)-1<((m+1+1:Nat):Int):=by omega
   have g3:(((m+1+1:Nat):Int)-1).toNat=m+1:=by omega
   have g4:(0:Int)<((m+1+1:Nat):Int):=by omega
   have g5:(0:Int)<=((m+1+1:Nat):Int)-1:=by omega
   simp(disch:=first|(simp;done)|omega|rfl) [-getElem?_pos,A.uy,hr,hf,r0,r3,dg,lv,a1,a2,a3,a4,b4,g1,g2,g3,g4,g5,aJ];have uz:k*5^(l.length-1-(m+1))*5=k*5^(l.length-1-m):=by rw[uA,<-fO];congr 2;omega
   have Lh:k*5^(l.length-1-m)<=400000000:=sF (je k (pc (by omega) (by omega))) gO;have hBk:1<=k*5^(l.length-1-(m+1)):=tH hk (vU (by omega));generalize hB:k*5^(l.length-1-(m+1))=B at*;have Ie:pg p (p.length-1)≠0:=by rw[pl];exact pz
   have ql:=Ywg (by omega) hBk Ie pq;have qr:=Yv0 (by omega) Ie pq;have qa:=pq _ (eZ (eL (p:=p) (i:=0) (by omega)));have qb:=pq _ (eZ (eL (p:=p) (i:=m+1) (by omega)));have wa:=qa.iC;have wb:=qb.iC;have wc:=(qb.inv pz).iC;have wr:=qr.iC;have er:pg p 0/pg p (m+1)=ratio p:=by unfold ratio;rw[pl];rfl
   refine az (Yw7 a5.fc b5.fc pz (by omega) (by omega) (by omega) (by omega) (by omega) (by omega)) ?_;rintro _ h2 n2 k2 bK;rw[er]at bK;obtain⟨c2,rfl,BH⟩:=bK.c;obtain⟨f1,f2⟩:=BH.len;have lY:(V.agg c2).cells=c2:=rfl;have e4:ag zF 0 c2=c2:=by unfold ag;rw[f1];simp[f1,zF]
   have s0:aE c2 0 4=some c2:=by unfold aE;rw[f1];simp;exact iP (by omega)
   unfold zF at e4;have oP:=k2.le;have kA:ae h2 n2 ((h2.set n2 (.cells [.int .i64 0,.aa,.int .i64 0,.aa] 110 true)).set n2 (.cells c2 110 true)) (n2+1):=(ae.refl.new _).set (aZ _);have g2:((h2.set n2 (.cells [.int .i64 0,.aa,.int .i64 0,.aa] 110 true)).set n2 (.cells c2 110 true)).get n2=some (.cells c2 110 true):=by simp
   simp(disch:=first|(simp;done)|omega|rfl) [-getElem?_pos, -V.cells, -V.one,hr,hf,r0,r3,lY,f1,f2,e4,bE,bU.bZ,aJ,s0];generalize (h2.set n2 (.cells [.int .i64 0,.aa,.int .i64 0,.aa] 110 true)).set n2 (.cells c2 110 true)=H3 at*;refine az (Lf (bK.ah kA) (by omega)) ?_;rintro v4 h4 n4 k4 yU;have Ig:Qb (B+B) (iE (ratio p)):=by
    unfold iE;split
    ·exact qr.neg
    exact qr
   have zeV:=Ig.iC;have w1:=(Qb.int (z:=1) (k:=1) (by decide) (by decide)).iC;simp(disch:=first|(simp;done)|omega|rfl) [-getElem?_pos,];refine az (xj (z:=1) (by decide) (by decide)) ?_;rintro v5 h5 n5 k5 Ni;simp(disch:=first|(simp;done)|omega|rfl) [-getElem?_pos,];refine az (Iq (yU.ah k5) Ni (by omega) (by omega) (by omega) (by omega)) ?_;rintro _ h6 n6 k6 rfl;have ec:(0<=df ((iE (ratio p)).num*(((1:Int):Rat).den:Nat)-((1:Int):Rat).num*((iE (ratio p)).den:Nat)))↔1<=iE (ratio p):=by
    have h1:iE (ratio p)<1↔(iE (ratio p)).num*(((1:Int):Rat).den:Nat)<((1:Int):Rat).num*((iE (ratio p)).den:Nat):=by rw[Rat.lt_iff];rfl
    rw[<-Rat.not_lt,h1];unfold df;split
    ·constructor<;>intro<;>omega
    split<;>constructor<;>intro<;>omega
   generalize df ((iE (ratio p)).num*(((1:Int):Rat).den:Nat)-((1:Int):Rat).num*((iE (ratio p)).den:Nat))=cz at*;have kD:=((kA.trans k4).trans k5).trans k6;have K6:=(hK.trans k2).trans kD;have ps2:zgo (m+1+1) p=if 1<=iE (ratio p) then false else zgo (m+1) (jB p):=by
    conv=>lhs;unfold zgo
    rw[aA (by omega)]
   rw[ps2]at ps;by_cases cc:1<=iE (ratio p)
   ·have uB:=ec.2 cc;rw[aQ cc]at ps;have Nj:=hK.le;simp(disch:=first|(simp;done)|omega|rfl) [-getElem?_pos,hr,hf,r0,r3,uB,hW,K6,<-ps];omega
   have uB:¬0<=cz:=fun h=>cc (ec.1 h);rw[aA cc]at ps;have Nk:iE (ratio p)<1:=Rat.not_le.1 cc;simp(disch:=first|(simp;done)|omega|rfl) [-getElem?_pos,hr,hf,r0,r3,uB];have Nj:=hK.le;have leD:=kD.le;have leE:=((k4.trans k5).trans k6).le;have g6:=(((k4.trans k5).trans k6).get n2 (by omega)).trans g2;have hc6:=BH.ah kD;have hp6:=(hp.ah k2).ah kD;have W6:aD N (n2::W)=[]:=by simp[aD,hW];omega
   have lv6:=hp6.1.len;rw[pl]at lv6;have bzr:=fun j (hj:j<(jB p).length)=>ql _ (eZ (eL hj));have nl:(jB p).length=m+1:=by rw[Iz,pl];rfl
   refine c_ [(6,7),(27,48)] (fun e r st=>e=.exit 2/\aD N st.w=[]/\ae h6 n6 st.h st.n/\∃u,r.get 6=some u/\nK st.h st.n u (jB p)) (fun i r st=>aD N st.w=[]/\ae h6 n6 st.h st.n/\∃(t:Nat) (u:V) (out:List (List V)),t+i=m+1/\r.get 27=some (.int .i64 t)/\r.get 6=some u/\Own 4 110 n6 st.h st.n u out/\out.length=t/\(out=[]->u=.aa)/\(∀c∈out,∀y∈c,NW y)/\∀j,j<t->∃c,out[j]?=some c/\dB st.h st.n c (pg (jB p) j)) (m+1) ?_ ?_ ?_
   ·exact⟨W6,ae.refl,0,.aa,[],by omega,by simp,by simp,Own.nil,rfl,fun _=>rfl,by simp,fun j hj=>by omega⟩
   ·rintro i r' ⟨H7,n7,W7⟩ rQ yV ⟨xf,hK7,t,u,out,ht,r27,r6,ho,uC,zdw,hY,uD⟩;simp only at xf hK7 ho uD;rw[dk];cases i with
    |zero=>
     obtain rfl:t=m+1:=by omega
     simp(disch:=first|(simp;done)|omega|rfl) [-getElem?_pos,A.ux,rQ,yV,r27,xf,hK7];exact⟨u,r6,RX ho (by rw[uC,nl]) fun j hj=>by obtain⟨c,x1,x2⟩:=uD j (by omega);refine⟨c,x1,fun q hq=>?_⟩;rw[eL (by rw[nl];omega)]at hq;simp only[au]at hq;rw[<-hq];exact x2⟩
    |succ i=>
     have aP:t<m+1:=by omega
     have dE:(t:Int)<(m:Int)+1:=by omega
     have Ih:=hp6.ah hK7;have Nl:=Ih.1.len;rw[pl]at Nl;have le7:=hK7.le;have g7:=(hK7.get n2 (by omega)).trans g6;have RV:=hc6.ah hK7;obtain⟨j0,u0,y0,z0,q0,d0,b1,b2,b3,b4,b5⟩:=Ih.1.at (eL (p:=p) (i:=t+1) (by omega));obtain⟨j1,u1,y1,z1,q1,d1,x1,x2,x3,x4,x5⟩:=Ih.1.at (eL (p:=p) (i:=m-t) (by omega));rw[b1]at x1;obtain⟨rfl,rfl⟩:j0=j1/\u0=u1:=by simpa using x1
     rw[b3]at x3;obtain⟨rfl,rfl,rfl⟩:y0=y1/\z0=z1/\q0=q1:=by simpa using x3
     have i1:(0:Int)<=(t:Int)+1:=by omega
     have i2:(t:Int)+1<((m+1+1:Nat):Int):=by omega
     have i3:((t:Int)+1).toNat=t+1:=by omega
     have i4:(0:Int)<=(m:Int)-t:=by omega
     have i5:(m:Int)-t<((m+1+1:Nat):Int):=by omega
     have i6:((m:Int)-t).toNat=m-t:=by omega
     have i7:n2<n7:=by omega
     have bx:=pq _ (eZ (eL (p:=p) (i:=t+1) (by omega)));have Nm:=pq _ (eZ (eL (p:=p) (i:=m-t) (by omega)));have wx:=bx.iC;have wy:=Nm.iC;have bm:=qr.mul Nm;have wm:=bm.iC;simp(disch:=first|(simp;done)|omega|rfl) [-getElem?_pos,A.ux,rQ,yV,hr,hf,r0,r3,r27,r6,dE,Nl,b1,b2,b3,b4,x4,g7,s0,i1,i2,i3,i4,i5,i6,i7,aJ];refine az (KY RV.fc x5.fc (by omega) (by omega) (by omega) (by omega)) ?_;rintro v8 h8 n8 k8 hm8;simp(disch:=first|(simp;done)|omega|rfl) [-getElem?_pos,];refine az (Ycj (b5.ah k8).fc hm8 (by omega) (by omega) (by omega) (by omega)) ?_;rintro _ h9 n9 k9 zh;have en:pg p (t+1)-ratio p*pg p (m-t)=pg (jB p) t:=by rw[Yv2 (by omega),pl,show m+1+1-1-1-t=m-t from by omega]
     rw[en]at zh;obtain⟨c9,rfl,C9⟩:=zh.c;obtain⟨f91,f92⟩:=C9.len;have zdx:(V.agg c9).cells=c9:=rfl;have e9:ag zF 0 c9=c9:=by unfold ag;rw[f91];simp[f91,zF]
     unfold zF at e9;have K9:=k8.trans k9;have le9:=K9.le;have ho9:Own 4 110 n6 (h9.set n9 (.cells c9 110 true)) (n9+1) u out:=(ho.ah K9).ah (ae.refl.new _);have nw9:∀y∈c9,NW y:=C9.KZ;obtain⟨u',h',w',j1',j2',uL,j4',jD,RY⟩:=Zgo (Y:=NW) (x:=c9) (u:=.slice n9 0 1 (some 1) 4) (bytes:=64) (w:=[]) ho9 zdw hY (by omega) (by decide) f91 (by simp only[gp,St.row,T.aj,if_true];unfold aE;simp[f91];exact iP (by omega)) (by omega);have ow:aD N w'=[]:=Ir j2' (by omega) rfl;simp(disch:=first|(simp;done)|omega|rfl) [-getElem?_pos, -aD, -V.cells, -V.one,rQ,yV,r27,r6,zdx,f91,f92,e9,j1'];refine⟨i,by omega,Yjn ow xf,((hK7.trans K9).trans (ae.refl.new (.cells c9 110 true))).then uL,t+1,by omega,by simp,out++[c9],RY,by simp[uC],by simp,fun c hc y hy=>?_,fun j hj=>?_⟩
     ·rcases l7.1 hc with hc|hc
      ·exact hY c hc y hy
      simp only[xZ]at hc;subst hc;exact nw9 y hy
     by_cases hjt:j<t
     ·obtain⟨c,e1',e2'⟩:=uD j hjt;exact⟨c,by rw[rR (by omega)];exact e1',((e2'.ah K9).ah (ae.refl.new _)).eY j4' jD⟩
     obtain rfl:j=t:=by omega
     exact⟨c9,by rw[xg (by omega),uC];simp,(C9.ah (ae.refl.new _)).eY j4' jD⟩
   rintro _ r' ⟨H7,n7,W7⟩ rQ ⟨rfl,xf,hK7,u,r6,hu⟩;simp only at xf hK7 hu;have sH:=Yv3 (by omega) Ie Nk;rw[nl,show m+1-1=m from rfl]at sH;rw[gk B 5]at uz;simp(disch:=first|(simp;done)|omega|rfl) [-getElem?_pos,rQ,r6,hr,hf,r3];have BI:=hf.inner (D':=[(6,7),(27,48)]) rfl (fun hh=>by simpa using hh) rQ;exact⟨by simpa using BI,m,by omega,xf,K6.trans hK7,u,jB p,by simp,by simp[rQ,r3],hu,nl,by omega,sH,by rw[<-uz];exact ql,ps⟩
 rintro _ r ⟨H,n1,W⟩ hr ⟨rfl,hW,hK,h3⟩;simp only at hW hK;simp(disch:=first|(simp;done)|omega|rfl) [-getElem?_pos,hr,h3,aF,hW,hK]
def A.b83:=A.q Tryz.f83
def A.k83:=@A.kk 83 8 [.tmp 2,.tmp 3] A.b83 (by kernel_rfl) rfl
def Ywf{h:T O}{N k:Nat}{x:V}{q:Rat}(hx:Fc h N x q)(hP:mC h N)(hq:Qb k q)(hk:k<=400000000):Fn A.C 83 [x] h N (fun v _ _=>v=if BJ q=true then .aS [.str [],.int .i64 4] else .aS [.str (ax q),.int .i64 0]):=by
 intro w;rw[aV,A.k83 (by simp)];obtain⟨n1,u1,n2,u2,rfl,s1,s2⟩:=hx;have o1:=de s1;have o2:=de s2;unfold V.one at o1 o2;have kB:ae h N (h.set N (.cells [.int .i64 n1,u1,.int .i64 n2,u2] 110 true)) (N+1):=aI ae.refl _;have b0:(h.set N (.cells [.int .i64 n1,u1,.int .i64 n2,u2] 110 true)).get N=some (.cells [.int .i64 n1,u1,.int .i64 n2,u2] 110 true):=by simp
 simp(disch:=first|(simp;done)|omega|rfl) [-getElem?_pos,A.b83,aJ,aE,o1,o2];generalize gT:h.set N (.cells [.int .i64 n1,u1,.int .i64 n2,u2] 110 true)=hB at*;clear gT;have hx:Fc hB (N+1) (.agg [.int .i64 n1,u1,.int .i64 n2,u2]) q:=⟨n1,u1,n2,u2,rfl,s1.ah kB,s2.ah kB⟩;have RZ:=hP.ah kB;have lg:=Ycm hx RZ hq hk;refine az lg ?_;rintro _ h2 m2 k2 rfl;have oP:=k2.le;have f2:=(k2.get N (by omega)).trans b0;have e2:N<m2:=by omega
 cases hb:BJ q with
 |true=> simp(disch:=first|(simp;done)|omega|rfl) [-getElem?_pos,aF];exact kB.trans k2
 |false=> simp(disch:=first|(simp;done)|omega|rfl) [-getElem?_pos,f2,e2,aJ,aE];refine az (Yiq (hx.ah k2) (RZ.ah k2) (by have:=Nn hq.1;omega) (by have:=Nn hq.2;omega)) ?_;rintro _ h3 m3 k3 rfl;simp(disch:=first|(simp;done)|omega|rfl) [-getElem?_pos,aF];exact(kB.trans k2).trans k3
def Dv{g l p:Rat}{k d:Nat}(bg:Qb k g)(bl:Qb k l)(bp:Qb k p)(hk:1<=k):∀q∈zgn g l p d,Qb (3*k+2) q:=by
 intro q hm;have b0:Qb k 0:=(Qb.int (z:=0) (k:=1) (by decide) (by decide)).mono hk;have b1:Qb k 1:=(Qb.int (z:=1) (k:=1) (by decide) (by decide)).mono hk;unfold zgn at hm;rcases Dh hm with hm|rfl
 ·rcases Dh hm with hm|rfl
  ·rcases Dh hm with hm|rfl
   ·rcases Dh hm with hm|rfl
    ·obtain⟨_,_,rfl⟩:=AG.1 hm;exact b0.mono (by omega)
    exact b1.mono (by omega)
   exact bl.neg.mono (by omega)
  have bz:Qb k (if d=0 then -l else 0):=by
   split
   ·exact bl.neg
   exact b0
  exact((bz.add bg).add bp).mono (by omega)
 exact bp.neg.mono (by omega)
end
end Go.Mx
