/-reconstruct-/
import Derived.Test.YtgccnjdneojagaaGreatDoorSpA
set_option linter.all false
set_option maxHeartbeats 4000000
namespace Go.Mx
noncomputable section
open Go Go.Proofs
variable {N R:Nat} {h:T O} {l:List Rat}
set_option maxRecDepth 1000000
def A.w86:=A.q Tryz.f86
def A.yr:=A.ql A.w86 0 []
def A.b86:=(fun x0=>A.qb A.w86 [x0]) A.yr
def A.k86:=@A.kk 86 18 [.tmp 2] A.b86 (by kernel_rfl) rfl
def Zxe{cs:List (List V)}{c B:List V}{j:Nat}(h4:∀x∈cs,x.length=4)(hj:j<cs.length)(hc:c.length=4):ae (cs.flatten++B) (j*4) c=(cs.set j c).flatten++B:=by
 obtain⟨x,hx⟩:=bj hj;have e:cs=cs.take j++x::cs.drop (j+1):=by have:=Df j cs;rw[nf hx]at this;exact this.symm
 have hl:(cs.take j).flatten.length=j*4:=by rw[yN (z:=4) (fun y hy=>h4 y (wy hy)),ik,ry (by omega)]
 have hs:cs.set j c=cs.take j++c::cs.drop (j+1):=by rw[List.set_eq_take_append_cons_drop,av hj]
 rw[hs];conv=>lhs;rw[e]
 simp only[List.flatten_append,List.flatten_cons,uQ];rw[Q1 hl (h4 x (cy hx)) hc]
structure rf (h:T O) (N R:Nat) (l:List Rat) (m:Nat):Prop where
 lt:R<N
 ex:∃cs:List (List V),h.get R=some (.cells (cs.flatten++cW zF m) 96 true)/\cs.length=l.length/\∀(j:Nat) (q:Rat),l[j]?=some q->∃c,cs[j]?=some c/\fS h N c q
def rf.ad{h':T O}{N' m:Nat}(s:rf h N R l m)(k:ab h N h' N'):rf h' N' R l m:=by obtain⟨cs,g1,g2,g3⟩:=s.ex;refine⟨fg s.lt k.le,cs,(k.get R s.lt).trans g1,g2,fun j q hq=>?_⟩;obtain⟨c,a,b⟩:=g3 j q hq;exact⟨c,a,b.ad k⟩
def rf.fcs{cs:List (List V)}(g2:cs.length=l.length)(g3:∀(j:Nat) (q:Rat),l[j]?=some q->∃c,cs[j]?=some c/\fS h N c q):(∀c∈cs,c.length=4)/\uH cs.flatten/\cs.flatten.all V.one=true:=Q2 (l:=l) (by omega) fun j q _ hq=>g3 j q hq
def rf.next{m:Nat}{c:List V}{q:Rat}(s:rf h N R l (m+1))(hc:fS h N c q):∃X,h.get R=some (.cells X 96 true)/\l.length*4+4<=X.length/\rf (h.set R (.cells (ae X (l.length*4) c) 96 true)) N R (l++[q]) m:=by
 obtain⟨cs,g1,g2,g3⟩:=s.ex;obtain⟨f1,f2,_⟩:=rf.fcs g2 g3;have jr:=yN f1;obtain⟨e1,_⟩:=hc.len;have gZ:ae (cs.flatten++cW zF (m+1)) (l.length*4) c=(cs++[c]).flatten++cW zF m:=by rw[HC,Q1 (n:=4) (by rw[jr,g2]) rfl e1,MQ,uQ]
 have Ct:uH (cs.flatten++cW zF (m+1)):=f2.app Q3;have Cr:((cs++[c]).flatten++cW zF m).length=(cs.flatten++cW zF (m+1)).length:=by rw[HC,MQ];simp[e1,zF];omega
 refine⟨_,g1,by rw[iI,jr,g2,Yey];omega,s.lt,cs++[c],by rw[T.ag,av rfl,gZ],by simp[g2],fun j r hr=>?_⟩;rw[gZ];by_cases e:j<l.length
 ·rw[mH e]at hr;obtain⟨x,a,b⟩:=g3 j r hr;exact⟨x,by rw[mH (by omega)];exact a,b.aI g1 Ct Cr⟩
 have hj:j=l.length:=by have:=gI hr;simp at this;omega
 subst hj;rw[qI (aM _)]at hr;simp at hr;subst hr;exact⟨c,by rw[qI (by omega),g2];simp,hc.aI g1 Ct Cr⟩
def rf.put{j:Nat}{c:List V}{q:Rat}(s:rf h N R l 0)(hc:fS h N c q)(hj:j<l.length):∃X,h.get R=some (.cells X 96 true)/\j*4+4<=X.length/\rf (h.set R (.cells (ae X (j*4) c) 96 true)) N R (l.set j q) 0:=by
 obtain⟨cs,g1,g2,g3⟩:=s.ex;obtain⟨f1,f2,_⟩:=rf.fcs g2 g3;have jr:=yN f1;obtain⟨e1,_⟩:=hc.len;have gZ:ae (cs.flatten++cW zF 0) (j*4) c=(cs.set j c).flatten++cW zF 0:=Zxe f1 (by omega) e1;have Ct:uH (cs.flatten++cW zF 0):=f2.app Q3;have Cr:((cs.set j c).flatten++cW zF 0).length=(cs.flatten++cW zF 0).length:=by
  rw[iI,iI,jr,yN (z:=4) fun x hx=>?_,A3];rcases FU hx with hx|rfl
  ·exact f1 x hx
  exact e1
 refine⟨_,g1,by rw[iI,jr];omega,s.lt,cs.set j c,by rw[T.ag,av rfl,gZ],by simp[g2],fun i r hr=>?_⟩;rw[gZ];by_cases e:i=j
 ·subst e;rw[jW hj]at hr;simp only[au]at hr;subst hr;exact⟨c,by rw[jW (by omega)],hc.aI g1 Ct Cr⟩
 rw[eW (Ne.symm e)]at hr ⊢;obtain⟨x,a,b⟩:=g3 i r hr;exact⟨x,a,b.aI g1 Ct Cr⟩
def rf.ND(s:rf h N R l 0):d_ h N (.slice R 0 l.length (some l.length) 4) l:=by
 obtain⟨cs,g1,g2,g3⟩:=s.ex;obtain⟨f1,f2,_⟩:=rf.fcs g2 g3;have hz:cW zF 0=[]:=by simp[cW]
 rw[hz,zQ]at g1;refine⟨⟨cs,.inr ⟨R,0,some l.length,cs.flatten,_,true,by rw[g2],s.lt,g1,fun j x hj=>by rw[yR];exact PU f1 hj,by rw[yN f1];omega,fun k hk=>by simp at hk;omega⟩,g2,g3⟩,fun i hi=>?_⟩;simp[dm]at hi;subst hi;exact⟨_,_,g1⟩
def Zsq{n:Nat}(hn:n<1000):Fn A.C 86 [.int .i64 n] h N (fun x h' n'=>x=.slice N 0 n (some n) 4/\rf h' n' N ((List.range n).map fun _=>0) 0):=by
 intro w;have c1:(64:Int)*(n:Int)<=140737488355328:=by omega
 have c2:(n:Int)<4611686018427387904:=by omega
 have kB:ab h N (h.set N (.cells (cW zF n) 96 true)) (N+1):=ab.refl.new _;have gB:(h.set N (.cells (cW zF n) 96 true)).get N=some (.cells (cW zF n) 96 true):=by rw[T.ag,av rfl]
 rw[aQ,A.k86 (by simp)];simp[A.b86,c1,c2];refine b_ [(4,4),(9,16)] (fun e r st=>e=.exit 0/\ay N st.w=[]/\ab h N st.h st.n/\rf st.h st.n N ((List.range n).map fun _=>0) 0) (fun i r st=>ay N st.w=[]/\ab h N st.h st.n/\∃t,t+i=n/\r.get 9=some (.int .i64 t)/\rf st.h st.n N ((List.range t).map fun _=>0) i) n ?_ ?_ ?_
 ·exact⟨by simp,kB,0,by omega,by simp,by show N<N+1;omega,[],by simp;rfl,rfl,fun j q hq=>by simp at hq⟩
 ·rintro i r ⟨H,n1,W⟩ hr hf ⟨hW,hK,t,ht,h9,hQ⟩;simp only at hW hK hQ;rw[bu];cases i with
  |zero=>
   obtain rfl:t=n:=by omega
   simp[A.yr,hr,hf,h9,hW,hK];exact hQ
  |succ i=>
   have aE:t<n:=by omega
   have bG:(t:Int)<(n:Int):=by omega
   simp[A.yr,hr,h9,bG];refine ar (Yuk (by decide) (by decide)) ?_;rintro _ H2 n2 k2 hz;obtain⟨c,rfl,hc⟩:=hz.c;obtain⟨e1,e2⟩:=hc.len;have kR:=k2.le;have kJ:(V.agg c).cells=c:=rfl;obtain⟨X,x1,x2,x3⟩:=(hQ.ad k2).next hc;have lN:N<n2:=fg hQ.lt kR;have hl:((List.range t).map fun _=>(0:Rat)).length=t:=by simp
   rw[hl]at x2 x3;simp(disch:=first|(simp;done)|omega|rfl) [-V.cells, -V.one,hf,h9,bO,kJ,e1,e2,x1,x2];exact⟨i,by omega,hW,(hK.trans k2).set (aM _),t+1,by omega,by simp,by rw[List.range_succ,List.map_append];exact x3⟩
 rintro _ r ⟨H,n1,W⟩ hr ⟨rfl,hW,hK,hQ⟩;simp only at hW hK hQ;simp[hr,az,hW,hK];exact hQ
variable {N:Nat} {h:T O} {m:List (List Rat)}
def A.w53:=A.q Tryz.f53
def A.uy:=A.ql A.w53 1 []
def A.uz:=(fun x0=>A.ql A.w53 0 [x0]) A.uy
def A.b53:=(fun x0=>A.qb A.w53 [x0]) A.uz
def A.k53:=@A.kk 53 63 [.tmp 2] A.b53 (by kernel_rfl) rfl
def Yne{ps:List Nat}{n k:Nat}(hk:k<n):((List.range n).map fun _=>(0:Rat)).set k (((1:Int):Rat))=Ak m ps n k fun _=>false:=by
 apply nN;intro j;by_cases hj:j<n
 ·by_cases e:j=k
  ·subst e;rw[jW (by simp;exact hj)];unfold Ak;simp[hj]
  rw[eW (Ne.symm e)];unfold Ak;simp[hj,e]
 rw[fy (by simp;omega),fy (by rw[Sb];omega)]
def F5{v:V}(s:fN h N v m){i:Nat}{row:List Rat}(hr:m[i]?=some row):∃j o c e rw u,yJ v=some (j,o)/\j<N/\h.get j=some (.cells c e rw)/\c[o+i]?=some u/\d_ h N u row:=by obtain⟨us,h1,h2,h3⟩:=s;obtain⟨u,a,b⟩:=h3 i row hr;obtain⟨j,o,c,e,rw,q1,q2,q3,q4⟩:=h1.at a;exact⟨j,o,c,e,rw,u,q1,q2,q3,q4,b⟩
def Ynf{H:T O}{n R k c K:Nat}{W0:List Nat}{r0:T V}{rv pv:V}{ps:List Nat}(sm:fN H n rv m)(sp:Sl H n pv (dI (rT ps)))(hl:m.length=ps.length)(iH:m.length<1000)(hc:aU m c)(hk:k<c)(cM:c<1000)(hq:bH m K)(hK:K<=400000000)(hi:∀i,i<ps.length->∃p,ps[i]?=some p/\p<c/\ps.idxOf p=i)(Oe:k∉ps)(hRn:n<=R){H2:T O}{n2:Nat}(kk:ab H n H2 n2)(s:rf H2 n2 R (Ak m ps c k fun _=>false) 0)(Hw:ay n W0=[])(a3:r0.get 3=some rv)(a7:r0.get 7=some (.int .i64 k))(a8:r0.get 8=some (.slice R 0 c (some c) 4))(a33:r0.get 33=some pv)(a34:r0.get 34=some (.int .i64 ps.length))(a35:r0.get 35=some (.int .i64 0)):
  Code A.C none (.loop A.uy) ⟨r0,63,[]⟩ ⟨H2,n2,W0⟩ (fun e fr st=>e=.exit 2/\ay n st.w=[]/\dR (fun i=>i=R) H2 n2 st.h st.n/\rf st.h st.n R (At m ps c k) 0/\∃r,Fx [(9,10),(35,51)] r0 63 ⟨r,63,[]⟩/\fr=⟨r,63,[]⟩):=by
 have lp:=sp.len;rw[h_]at lp;have lpi:(rT ps).length=ps.length:=by simp[rT]
 rw[lpi]at lp;have lm:=sm.len;rw[bu];refine b_ [(9,10),(35,51)] (fun e r st=>e=.exit 2/\ay n st.w=[]/\dR (fun i=>i=R) H2 n2 st.h st.n/\rf st.h st.n R (At m ps c k) 0) (fun i r st=>ay n st.w=[]/\dR (fun i=>i=R) H2 n2 st.h st.n/\∃t,t<=ps.length/\i=ps.length-t/\r.get 35=some (.int .i64 t)/\rf st.h st.n R (Ak m ps c k fun j=>decide (j∈ps.take t)) 0) ps.length ?_ ?_ ?_
 ·exact⟨Hw,dR.refl,0,by omega,by omega,a35,by simpa using s⟩
 ·rintro i r ⟨H1,n1,W⟩ hr hf ⟨hW,U1,t,ht,rfl,h35,s1⟩;simp only at hW U1 s1;have k1:ab H n H1 n1:=kk.then (U1.keeps kk.le fun i hi=>by omega);rw[bu];by_cases aE:t<ps.length
  ·have bG:(t:Int)<(ps.length:Int):=by omega
   obtain⟨p,hp,hpc,hpx⟩:=hi t aE;have hpk:p≠k:=fun hc=>Oe (hc▸cy hp);have yI:t<m.length:=by omega
   have za5:(t:Int)<(m.length:Int):=by omega
   obtain⟨row,aA⟩:=bj yI;have vo:=hc row (cy aA);obtain⟨q,jS⟩:=bj (l:=row) (k:=k) (by omega);obtain⟨i1,o1,c1,e1,w1,p1,p2,p3,p4⟩:=(sp.ad k1).at (iB (l:=rT ps) (j:=t) (n:=(p:Int)) (by simp[rT,hp]));obtain⟨i2,o2,c2,e2,w2,u,q1,q2,q3,q4,q5⟩:=F5 (sm.ad k1) aA;obtain⟨i3,o3,c3,e3,w3,cs,x1,x2,x3,x4,x5⟩:=q5.1.at jS;have Hh:=q5.1.len;have cK:(k:Int)<(row.length:Int):=by omega
   have kh:k<row.length:=by omega
   have zcg:(p:Int)<(c:Int):=by omega
   have mG:=hq row (cy aA) q (cy jS);have rV:=mG.CK;have uT:(0:Int)<=(p:Int):=by omega
   simp[A.uy,hr,a3,a7,a8,a33,a34,h35,bG,lp,lm,za5,p1,p3,p4,q1,q3,q4,x1,x3,x4,Hh,cK];refine ar (Yiy x5.fc (by omega)) ?_;rintro _ H3 n3 k3 hz;obtain⟨cz,rfl,IL⟩:=hz.c;obtain⟨f1,f2⟩:=IL.len;have uZ:=k3.le;have kJ:(V.agg cz).cells=cz:=rfl;obtain⟨X,y1,y2,y3⟩:=(s1.ad k3).put IL (j:=p) (by rw[Sb];exact hpc);have lR:R<n3:=fg s1.lt uZ;simp(disch:=first|(simp;done)|omega|rfl) [-V.cells, -V.one,hf,h35,bO,kJ,f1,f2,y1,y2];refine⟨ps.length-(t+1),by omega,by rw[ak (by omega)];exact hW,(U1.trans k3.upd).set (.inl rfl),t+1,by omega,rfl,by simp,?_⟩;have vc:al m t k=q:=by unfold al;rw[aA];simp[jS]
   rw[Ytv (p:=fun j=>decide (j∈ps.take t)) hpc hpk fun j _=>Ztl hp,hpx,vc];exact y3
  obtain rfl:t=ps.length:=by omega
  rw[fU (aM _),Ytw]at s1;simp[A.uy,hr,hf,a34,h35,hW,U1];exact s1
 rintro _ r st hr ⟨rfl,hw,k1,s1⟩;simp[];exact⟨hw,k1,s1,hr,rfl,rfl⟩
def Zy0:Fn A.C 85 [.aa] h N (fun x _ _=>x=.aX [.aa,.aa]):=by intro w;rw[aQ,A.k85 (by simp)];have kB:∀o,ab h N (h.set N o) (N+1):=fun o=>ab.refl.new o;have cn:∀w,KG ⟨h.set N (.cells (cW [.aa] 0) 82 true),N+1,w⟩ 1 (some (.slice N 0 0 (some 0) 1)) (some .aa)=some (.int .i64 0,⟨h.set N (.cells (cW [.aa] 0) 82 true),N+1,w⟩):=fun w=>Yjz (xs:=[]) rfl;simp[A.b85,cn,az];exact kB _
def Yic{c:Nat}{u:V}(hu:fN h N u m)(hc:aU m c)(iH:m.length<=6)(iJ:0<m.length)(cM:c<=6)(hq:bH m 96):Fn A.C 53 [u] h N (fun x h' n'=>fN h' n' x (bS m c)):=by
 intro w;have lu:=hu.len;have Sa:(0:Int)<(m.length:Int):=by omega
 obtain⟨l0,cB⟩:=bj iJ;have I:=@mU m c hc c;have zf:(aD m c).2.1<=c:=YM;rw[aQ,A.k53 (by simp)];simp[A.b53];refine ar (NI (B:=kB 96) hu hc (by omega) iJ (by omega) (fun _=>HZ (by decide)) (fun _=>SQ hq (by decide)) fun n h1 h2=>YL (by omega)) ?_;rintro _ H1 n1 k1 ⟨rv,pv,rfl,xj,A4⟩;have xr:=k1.le;obtain⟨i2,o2,c2,e2,w2,y,q1,q2,q3,q4,q5⟩:=F5 (hu.ad k1) cB;rw[gE]at q4;have ly:=q5.1.len;rw[hc l0 (cy cB)]at ly;have pP:=A4.sl;have iD:=pP.len;rw[h_]at iD;have Ee:(rT (aD m c).2.2).length=(aD m c).2.1:=by simp[rT,I.len]
 have za6:∀i,i<(aD m c).2.2.length->∃p,(aD m c).2.2[i]?=some p/\p<c/\(aD m c).2.2.idxOf p=i:=fun i hi=>by obtain⟨row,aA⟩:=bj (l:=aK m c) (k:=i) (by rw[nO hc,<-I.len];exact hi);obtain⟨p,a,b,_,d⟩:=Ysd hc aA;exact⟨p,a,b,d⟩
 rw[Ee,<-I.len]at iD;have vo:(aK m c).length=(aD m c).2.2.length:=by rw[nO hc,I.len]
 have iS:=fun (k:Nat) (H:T O) (n:Nat) (w:List Nat) (kk:ab H1 n1 H n)=>Yu9 (w:=w) (z:=(k:Int)) (pP.ad kk) (by omega);simp[lu,iJ,q1,q3,q4,ly];refine b_ [(6,10),(21,56)] (fun e r st=>e=.exit 0/\ay n1 st.w=[]/\ab H1 n1 st.h st.n/\∃v,r.get 6=some v/\gg n1 st.h st.n v (eE m c)) (fun i r st=>ay n1 st.w=[]/\ab H1 n1 st.h st.n/\∃k v,k<=c/\i=c-k/\r.get 21=some (.int .i64 k)/\r.get 6=some v/\gg n1 st.h st.n v ((iw (aD m c).2.2 k).map (At (aK m c) (aD m c).2.2 c))) c ?_ ?_ ?_
 ·exact⟨by simp,ab.refl,0,_,by omega,by omega,by simp,by simp,gg.nil⟩
 ·rintro i r ⟨H,n,W⟩ hr hf ⟨hW,hK,k,v,hk,rfl,Wh,h6,hO⟩;simp only at hW hK hO;rw[bu];have ln:=hK.le;by_cases aE:k<c
  ·have bG:(k:Int)<(c:Int):=by omega
   have xU:=fun w=>iS k H n w hK;rw[Ysm]at xU;have sJ:=Yix (ps:=(aD m c).2.2) (k:=k);cases hb:(aD m c).2.2.contains k with
   |true=> rw[hb]at xU;rw[hb,av rfl,zQ]at sJ;simp(disch:=first|(simp;done)|omega|rfl) [A.uz,hr,hf,Wh,h6,bG,xU,hW,hK];exact⟨c-(k+1),by omega,k+1,by omega,rfl,by simp,by rw[sJ];exact hO⟩
   |false=>
    rw[hb]at xU;rw[hb,ak (by decide)]at sJ;have Oe:k∉(aD m c).2.2:=fun hm=>by simp[hm]at hb
    simp[A.uz,hr,Wh,bG,xU];refine ar (Zsq (by omega)) ?_;rintro _ H2 n2 k2 ⟨rfl,s2⟩;have kR:=k2.le;simp;refine ar (Yuk (by decide) (by decide)) ?_;rintro _ H3 n3 k3 hz;obtain⟨cz,rfl,IL⟩:=hz.c;obtain⟨f1,f2⟩:=IL.len;have uZ:=k3.le;have kJ:(V.agg cz).cells=cz:=rfl;obtain⟨X,y1,y2,y3⟩:=(s2.ad k3).put IL (j:=k) (by simp;exact aE);have lR:n<n3:=fg s2.lt uZ;simp[-V.cells, -V.one,hr,bG,bO,kJ,f1,f2,y1,y2,iD];rw[Yne (m:=aK m c) (ps:=(aD m c).2.2) aE]at y3;have k4:ab H n (H3.set n (.cells (ae X (k*4) cz) 96 true)) n3:=(k2.trans k3).set (aM _);generalize H3.set n (.cells (ae X (k*4) cz) 96 true)=G at*;refine mO (Ynf (R:=n) (K:=400000000) xj pP vo (by rw[vo,I.len];omega) (xg hc) aE (by omega) (Ysf iH hc hq) (aM _) za6 Oe ln (hK.trans k4) y3 (by simp[wz.2 ln,hW]) (by simp[hr]) (by simp) (by simp) (by simp) (by simp) (by simp)) ?_;rintro _ _ ⟨H4,n4,W4⟩ ⟨rfl,vu,U4,s4,r4,f4,rfl⟩;simp only at vu U4 s4;have uX:=f4.gw;have Wf:=hf.inner (D':=[(9,10),(35,51)]) (by decide) (fun hx=>by simpa[Fx.set]using hx) uX;have k5:ab H n H4 n4:=k4.then (U4.keeps k4.le fun i hi=>by omega);have zS:=k5.le;have fr:=s4.ND;have VK:(At (aK m c) (aD m c).2.2 c k).length=c:=by simp[At]
    rw[VK]at fr;have vf:ae [V.aa] 0 [.slice n 0 c (some c) 4]=[.slice n 0 c (some c) 4]:=rfl;have kD:ab H4 n4 (H4.set n4 (.cells [.slice n 0 c (some c) 4] 82 true)) (n4+1):=ab.refl.new _;have jr:(iw (aD m c).2.2 k).length<=k:=by unfold iw;exact iZ (List.length_filter_le _ _) (by simp)
    obtain⟨v',h',w',j1,j2,j3,j4⟩:=gg.push (N0:=n1) (x:=.slice n4 0 1 (some 1) 1) (w:=W4) ((hO.ad k5).ad kD) (fr.ad kD) (by omega) (by simp[fQ,St.row,aP]) (by rw[di];omega);have kF:ab H1 n1 h' (n4+1+1):=((hK.trans k5).trans kD).then j3;simp(disch:=first|(simp;done)|omega|rfl) [uX,Wf,Wh,h6,vf,F4,j1,j2,vu,kF];exact⟨c-(k+1),by omega,k+1,by omega,rfl,by simp,by rw[sJ,List.map_append];exact j4⟩
  obtain rfl:k=c:=by omega
  simp[A.uz,hr,hf,Wh,h6,hW,hK];exact hO
 rintro _ r ⟨H,n,W⟩ hr ⟨rfl,hW,hK,v,h6,hO⟩;simp only at hW hK hO;have le:=hK.le;have rP:=F0 hc;cases wC:eE m c with
 |nil=> rw[wC]at hO;obtain⟨us,_,o2,o3,_⟩:=hO;obtain rfl:v=.aa:=o2 (List.length_eq_zero_iff.1 o3);simp[h6];refine ar Zy0 ?_;rintro _ H5 n5 k5 rfl;simp[az];refine⟨SP hW xr,(k1.trans hK).trans k5,?_⟩;unfold bS;rw[wC,Yse];exact⟨[],.inl ⟨rfl,.inl rfl⟩,rfl,fun j l hl=>by simp at hl⟩
 |cons r0 rest=>
  have oh:0<(eE m c).length:=by rw[wC];simp
  have hO':=hO.Ax;simp[h6];refine ar (NI hO' zO (by omega) oh (by omega) (fun _=>HZ (HZ (by decide))) (fun _=>SQ (Yp4 hq (by decide)) (HZ (by decide))) (Yt2 hc cM)) ?_;rintro _ H5 n5 k5 ⟨a,b,rfl,ha,hb⟩;simp[az];exact⟨SP hW xr,(k1.trans hK).trans k5,ha⟩
def A.w48:=A.q Tryz.f48
def A.yt:=A.ql A.w48 0 []
def A.b48:=(fun x0=>A.qb A.w48 [x0]) A.yt
def A.k48:=@A.kk 48 29 [.tmp 2,.tmp 3] A.b48 (by kernel_rfl) rfl
def Yaa{h:T O}{N k:Nat}{u:V}{m:List (List Rat)}(hu:fN h N u m)(hP:iG h N)(hl:m.length<10000)(hr:∀r∈m,r.length<1000000000)(hq:bH m k)(hk:k<=400000000):Fn A.C 48 [u] h N (fun x h' n'=>(wu m=true/\x=.aX [.aa,.int .i64 4])\/(wu m=false/\∃v,x=.aX [v,.int .i64 0]/\oa h' n' v m)):=by
 intro w;have l1:=hu.len;rw[aQ,A.k48 (by simp)];simp[A.b48,l1];refine b_ [(2,4),(6,8),(11,27)] (fun e r st=>ay N st.w=[]/\ab h N st.h st.n/\((e=.exit 0/\wu m=false/\∃v,r.get 4=some v/\zz N st.h st.n v m)\/(e=.ret/\wu m=true/\r.get 2=some .aa/\r.get 3=some (.int .i64 4)))) (fun i r st=>ay N st.w=[]/\ab h N st.h st.n/\∃t v,t+i=m.length/\r.get 11=some (.int .i64 t)/\wu m=wu (m.drop t)/\r.get 4=some v/\zz N st.h st.n v (m.take t)) m.length ?_ ?_ ?_
 ·exact⟨by simp,ab.refl,0,_,by omega,by simp,by simp,by simp,zz.nil⟩
 ·rintro i r ⟨H,n,W⟩ ib hf ⟨hW,hK,t,v,ht,mR,hz,h4,hO⟩;simp only at hW hK hO;rw[bu];have le:=hK.le;cases i with
  |zero=>
   obtain rfl:t=m.length:=by omega
   rw[qZ]at hz;rw[fU (aM _)]at hO;have FK:wu m=false:=by rw[hz];rfl
   simp[A.yt,ib,hf,mR,h4,FK,hW,hK];exact hO
  |succ i=>
   have aE:t<m.length:=by omega
   have bG:(t:Int)<(m.length:Int):=by omega
   obtain⟨row,aA⟩:=bj aE;have hm:=cy aA;obtain⟨i1,o1,x1,e1,w1,c,p1,p2,p3,p4,p5⟩:=F5 (hu.ad hK) aA;rw[nf aA]at hz;simp[A.yt,ib,mR,bG,l1,p1,p3,p4];refine ar (Zzv p5.1 (hP.ad hK) (hr row hm) (hq row hm) hk) ?_;rintro _ H3 n3 k3 (⟨hb,rfl⟩|⟨hb,x,rfl,tx⟩)
   ·have FK:wu m=true:=by rw[hz];simp[wu,hb]
    simp[hf,hW,FK];exact hK.trans k3
   have FK:wu m=wu (m.drop (t+1)):=by rw[hz];simp[wu,hb]
   have ox:V.one x=true/\V.cells x=[x]:=⟨Sl.Nl tx.1,Sl.A5 tx.1⟩;have uZ:=k3.le;have kD:ab H3 n3 (H3.set n3 (.cells [x] 23 true)) (n3+1):=ab.refl.new _;have vf:ae [V.aa] 0 [x]=[x]:=rfl;obtain⟨v',h',w',j1,j2,j3,j4⟩:=zz.push (N0:=N) (x:=.slice n3 0 1 (some 1) 1) (w:=W) ((hO.ad k3).ad kD) (AX.ad tx kD) (by omega) (by simp[fQ,St.row,aP]) (by rw[ik];omega);have kF:ab h N h' (n3+1+1):=((hK.trans k3).trans kD).then j3;simp(disch:=first|(simp;done)|omega|rfl) [-V.cells, -V.one,hf,mR,h4,FK,ox.1,ox.2,vf,F4,j1];exact⟨i,by omega,by rw[j2];exact hW,kF,t+1,by omega,by simp,rfl,by rw[C1,aA];exact j4⟩
 rintro e r ⟨H,n,W⟩ ib ⟨hW,hK,⟨rfl,hz,v,h4,hO⟩|⟨rfl,hz,h2,h3⟩⟩
 ·simp only at hW hK hO;simp[h4,az,hW,hK,hz];exact hO.VD
 simp only at hW hK;simp[h2,h3,az,hW,hK,hz]
def A.b30:=A.q Tryz.f30
def A.k30:=@A.kk 30 31 [.tmp 4] A.b30 (by kernel_rfl) rfl
def A.w8:=A.q Tryz.f8
def A.CB:=A.ql A.w8 0 []
def A.b8:=(fun x0=>A.qb A.w8 [x0]) A.CB
def A.k8:=@A.kk 8 25 [.tmp 6] A.b8 (by kernel_rfl) rfl
def Sd(q:Rat)(d:Nat):Bool:=decide ((aq q.num.natAbs).length<=d)&&decide ((aq q.den).length<=d)
def yu(s:aG)(d:Nat):Bool:=decide (s.length<=2*d+2)&&(decide (aV s=0)&&Sd (jo s) d)
def qW(l:List aG)(n d:Nat):Bool:=decide (l.length<=n)&&l.all fun s=>yu s d
def Zw4(q:Rat):(aN q.num).length<=(aO q).length:=by unfold aO;split<;>simp
def Yx6{h:T O}{N d:Nat}{s:aG}(hd:d<=100):Fn A.C 30 [.str s,.int .i64 (d:Nat)] h N (fun u _ _=>u=.bool (yu s d)):=by
 intro w;rw[aQ,A.k30 (by simp)];by_cases c1:s.length<=2*d+2
 ·have c1':(s.length:Int)<=2*(d:Int)+2:=by omega
  simp(disch:=omega) [A.b30,c1'];refine ar (TC (s:=s) (by omega)) ?_;rintro _ h1 n1 k1 rfl;by_cases c2:aV s=0
  ·have et:=(H0 c2).1;obtain⟨q,hq⟩:∃q,jo s=q:=⟨_,rfl⟩;rw[hq]at et;have hl:(aO q).length<1000000000:=by rw[et];omega
   have e1:=fun st=>Ysy (q:=q) (st:=st) hl;have e2:=fun st=>Yuz (q:=q) (st:=st) hl;rw[et]at e1 e2;have Cr:(aN q.num).length<1000000000:=by have:=Zw4 q;rw[et]at this;omega
   have e3:=fun st=>Yvy (z:=q.num) (st:=st) Cr;by_cases c3:(aq q.num.natAbs).length<=d
   ·have c3':((aq q.num.natAbs).length:Int)<=(d:Int):=by omega
    by_cases c4:(aq q.den).length<=d
    ·have c4':((aq q.den).length:Int)<=(d:Int):=by omega
     simp[c2,e1,e2,e3,c3',c4',az];exact⟨k1,by simp[yu,Sd,c1,c2,hq,c3,c4]⟩
    have c4':¬((aq q.den).length:Int)<=(d:Int):=by omega
    simp[c2,e1,e2,e3,c3',c4',az];exact⟨k1,by simp[yu,Sd,c1,c2,hq,c3,c4]⟩
   have c3':¬((aq q.num.natAbs).length:Int)<=(d:Int):=by omega
   simp[c2,e1,e3,c3',az];exact⟨k1,by simp[yu,Sd,c1,c2,hq,c3]⟩
  have c2':¬((aV s:Nat):Int)=0:=by omega
  simp[c2,az];exact⟨k1,by simp[yu,c2]⟩
 have c1':¬(s.length:Int)<=2*(d:Int)+2:=by omega
 simp(disch:=omega) [A.b30,c1',az];exact⟨ab.refl,by simp[yu,c1]⟩
def Ol{h:T O}{N d n:Nat}{v:V}{l:List aG}(hs:Sl h N v (strs l))(hl:l.length<9223372036854775808)(hd:d<=100)(hn:n<=1000):Fn A.C 8 [v,.int .i64 (n:Nat),.int .i64 (d:Nat)] h N (fun u _ _=>u=.bool (qW l n d)):=by
 intro w;have hlen:=hs.len;rw[mY]at hlen;rw[aQ,A.k8 (by simp)];by_cases c0:l.length<=n
 ·have c0':¬(n:Int)<(l.length:Int):=by omega
  have e0:qW l n d=l.all fun s=>yu s d:=by simp[qW,c0]
  rw[e0];simp[A.b8,hlen,c0'];refine b_ [(6,7),(12,24)] (fun e r st=>ay N st.w=[]/\ab h N st.h st.n/\((e=.exit 0/\(l.all fun s=>yu s d)=true)\/(e=.ret/\(l.all fun s=>yu s d)=false/\r.get 6=some (.bool false)))) (fun m r st=>ay N st.w=[]/\ab h N st.h st.n/\∃k,k+m=l.length/\r.get 7=some (.int .i64 k)/\(l.all fun s=>yu s d)=((l.drop k).all fun s=>yu s d)) l.length ?_ ?_ ?_
  ·exact⟨by simp,ab.refl,0,by omega,by simp,by simp⟩
  ·rintro m r ⟨H,n1,W⟩ hr hf ⟨hW,hK,k,hk,h7,hz⟩;simp only at hW hK;rw[bu];cases m with
   |zero=>
    obtain rfl:k=l.length:=by omega
    rw[qZ,List.all_nil]at hz;simp[A.CB,hr,hf,h7,hlen,hW,hK];simpa using hz
   |succ m=>
    have aE:k<l.length:=by omega
    have bG:(k:Int)<(l.length:Int):=by omega
    obtain⟨s,hsk⟩:=bj aE;obtain⟨i,o,cc,e,rw,q1,q2,q3,q4⟩:=(hs.ad hK).at (GB hsk);rw[nf hsk,List.all_cons]at hz;simp[A.CB,hr,h7,hlen,bG,q1,q3,q4];refine ar (Yx6 (s:=s) hd) ?_;rintro _ h3 n3 k3 rfl;have kk:=hK.trans k3;cases sJ:yu s d with
    |true=> rw[sJ,Bool.true_and]at hz;simp(disch:=first|(simp;done)|omega|rfl) [hf,h7,hW];exact⟨m,by omega,kk,k+1,by omega,by simp,by simpa using hz⟩
    |false=> rw[sJ,EA]at hz;simp[hf,hW];exact⟨kk,by simpa using hz⟩
  rintro e r ⟨H,n1,W⟩ hr ⟨hW,hK,⟨rfl,hz⟩|⟨rfl,hz,h6⟩⟩
  ·simp only at hW hK;simp[az,hW,hK];simpa using hz
  simp only at hW hK;simp[h6,az,hW,hK];simpa using hz
 have c0':(n:Int)<(l.length:Int):=by omega
 simp[A.b8,hlen,c0',az];exact⟨ab.refl,by simp[qW,c0]⟩
variable {a b:Nat}
def A.w4:=A.q Tryz.f4
def A.CC:=A.ql A.w4 0 []
def A.b4:=(fun x0=>A.qb A.w4 [x0]) A.CC
def A.k4:=@A.kk 4 48 [.tmp 8] A.b4 (by kernel_rfl) rfl
def Yay{k:Nat}(h:mL k a=true)(f_:a<=b):mL k b=true:=by unfold mL at*;have:=of_decide_eq_true h;exact decide_eq_true (by omega)
def Yfr{l:List aG}(h:dr a l=true)(f_:a<=b):dr b l=true:=by unfold dr at*;rw[fW]at*;exact⟨Yay h.1 f_,h.2⟩
def Zpd{m:List (List aG)}{c d:Nat}(h:jO a b m=true)(hac:a<=c)(DR:b<=d):jO c d m=true:=by unfold jO at*;rw[fW]at*;exact⟨Yay h.1 hac,iK.2 fun x hx=>Yfr (iK.1 h.2 x hx) DR⟩
def Bo(m:List (List aG))(r c d:Nat):Bool:=jO r c m&&(decide (m.length<=r)&&(decide (fI m 64 16=0)&&(decide (aW m<=c)&&m.all fun l=>qW l c d)))
def Yul{h:T O}{N r0 c d:Nat}{v:V}{m:List (List aG)}(hs:eN h N v m)(hl:m.length<9223372036854775808)(hx:∀x∈m,x.length<9223372036854775808)(ib:r0<=6)(hc:c<=6)(hd:d<=100):Fn A.C 4 [v,.int .i64 (r0:Nat),.int .i64 (c:Nat),.int .i64 (d:Nat)] h N (fun u _ _=>u=.bool (Bo m r0 c d)):=by
 intro w;have hlen:=hs.len;have Sf:=fun w=>Yli (w:=w) (n:=r0) (p:=c) hs hl hx (by omega) (by omega);rw[aQ,A.k4 (by simp)];cases DQ:jO r0 c m with
 |false=> rw[DQ]at Sf;simp[A.b4,Sf,az];exact⟨ab.refl,by simp[Bo,DQ]⟩
 |true=>
  rw[DQ]at Sf;by_cases c1:m.length<=r0
  ·have c1':¬(r0:Int)<(m.length:Int):=by omega
   obtain⟨x1,x2⟩:=Lu (Zpd DQ ib hc);simp[A.b4,Sf,hlen,c1'];refine ar (Ylz hs x1 x2) ?_;rintro _ h1 n1 k1 rfl;by_cases c2:fI m 64 16=0
   ·obtain⟨l0,cB,h0⟩:∃l0,m[0]?=some l0/\aW m=l0.length:=by
     cases m with
     |nil=>simp[fI]at c2
     |cons a m=>exact⟨a,rfl,rfl⟩
    obtain⟨i,o,cc,e,rw,u0,q1,q2,q3,q4,q5⟩:=(hs.ad k1).at cB;have l5:=q5.len;rw[mY]at l5;have m0:0<m.length:=gI cB;have El:(0:Int)<(m.length:Int):=by omega
    rw[gE]at q4;by_cases c3:aW m<=c
    ·have c3':¬(c:Int)<(l0.length:Int):=by omega
     have e0:Bo m r0 c d=m.all fun l=>qW l c d:=by simp[Bo,DQ,c1,c2,c3]
     rw[e0];simp[c2,hlen,m0,q1,q3,q4,l5,c3'];refine b_ [(8,9),(34,47)] (fun e r st=>ay N st.w=[]/\ab h N st.h st.n/\((e=.exit 0/\(m.all fun l=>qW l c d)=true)\/(e=.ret/\(m.all fun l=>qW l c d)=false/\r.get 8=some (.bool false)))) (fun j r st=>ay N st.w=[]/\ab h N st.h st.n/\∃k,k+j=m.length/\r.get 9=some (.int .i64 k)/\(m.all fun l=>qW l c d)=((m.drop k).all fun l=>qW l c d)) m.length ?_ ?_ ?_
     ·exact⟨by simp,k1,0,by omega,by simp,by simp⟩
     ·rintro j r ⟨H,n2,W⟩ hr hf ⟨hW,hK,k,hk,h9,hz⟩;simp only at hW hK;rw[bu];cases j with
      |zero=>
       obtain rfl:k=m.length:=by omega
       rw[qZ,List.all_nil]at hz;simp[A.CC,hr,hf,h9,hlen,hW,hK];simpa using hz
      |succ j=>
       have aE:k<m.length:=by omega
       have bG:(k:Int)<(m.length:Int):=by omega
       obtain⟨l,fO⟩:=bj aE;obtain⟨i,o,cc,e,rw,u1,q1,q2,q3,q4,q5⟩:=(hs.ad hK).at fO;rw[nf fO,List.all_cons]at hz;have rM:=hx l (cy fO);simp[A.CC,hr,h9,hlen,bG,q1,q3,q4];refine ar (Ol q5 rM hd (by omega)) ?_;rintro _ h3 n3 k3 rfl;have kk:=hK.trans k3;cases sJ:qW l c d with
       |true=> rw[sJ,Bool.true_and]at hz;simp(disch:=first|(simp;done)|omega|rfl) [hf,h9,hW];exact⟨j,by omega,kk,k+1,by omega,by simp,by simpa using hz⟩
       |false=> rw[sJ,EA]at hz;simp[hf,hW];exact⟨kk,by simpa using hz⟩
     rintro e r ⟨H,n1,W⟩ hr ⟨hW,hK,⟨rfl,hz⟩|⟨rfl,hz,h6⟩⟩
     ·simp only at hW hK;simp[az,hW,hK];simpa using hz
     simp only at hW hK;simp[h6,az,hW,hK];simpa using hz
    have c3':(c:Int)<(l0.length:Int):=by omega
    simp[c2,hlen,m0,q1,q3,q4,l5,c3',az];exact⟨k1,by simp[Bo,c3]⟩
   simp[c2,az];exact⟨k1,by simp[Bo,c2]⟩
  have c1':(r0:Int)<(m.length:Int):=by omega
  simp[A.b4,Sf,hlen,c1',az];exact⟨ab.refl,by simp[Bo,c1]⟩
variable {d i k n:Nat} {m:List (List Rat)} {r:List Rat}
def Yjf{c x y z:List Rat}{f:Rat}:∀{n:Nat},(∀k,k<n->z[k]?.getD 0=x[k]?.getD 0-f*y[k]?.getD 0)->kY c z n=kY c x n-f*kY c y n
 |0,_=>by simp[kY];grind
 |n+1,h=>by
  have ih:=Yjf (c:=c) (n:=n) fun k hk=>h k (by omega)
  have e:=h n (by omega)
  unfold kY
  rw[ih,e]
  grind
def Yjg{c x z:List Rat}{p:Rat}:∀{n:Nat},(∀k,k<n->z[k]?.getD 0=x[k]?.getD 0/p)->kY c z n=kY c x n/p
 |0,_=>by simp[kY,Rat.div_def,Rat.zero_mul]
 |n+1,h=>by
  have ih:=Yjg (c:=c) (n:=n) fun k hk=>h k (by omega)
  have e:=h n (by omega)
  unfold kY
  rw[ih,e,Rat.div_def,Rat.div_def,Rat.div_def]
  grind
def nL(n:Nat)(C:List (List Rat))(r:List Rat):List Rat:=r.take n++C.map fun c=>dh c (r.drop n)
def M0{C:List (List Rat)}(h:n<=r.length):(nL n C r).length=n+C.length:=by simp[nL];omega
def Wj{C:List (List Rat)}(h:n<=r.length)(hi:i<n):(nL n C r)[i]?=r[i]?:=by unfold nL;rw[mH (by rw[ik];omega),jZ,av hi]
def Yyw{j:Nat}{C:List (List Rat)}(h:n<=r.length):(nL n C r)[n+j]?=(C[j]?).map fun c=>dh c (r.drop n):=by unfold nL;rw[qI (by rw[ik];omega),ik,ry h,Nat.add_sub_cancel_left,eH]
def Sg:(r.drop n)[k]?.getD 0=r[n+k]?.getD 0:=by rw[fJ]
def Ztm{r:List Rat}{p:Rat}{k:Nat}:(r.map fun x=>x/p)[k]?.getD 0=r[k]?.getD 0/p:=by
 rw[eH];cases r[k]? with
 |none=>simp[Rat.div_def,Rat.zero_mul]
 |some q=>rfl
def Zsy{p:List Rat}{j:Nat}(h:r.length=p.length):(uI r p k)[j]?.getD 0=r[j]?.getD 0-r[k]?.getD 0*p[j]?.getD 0:=by
 by_cases hj:j<r.length
 ·unfold uI;rw[Nh hj];rfl
 rw[fy (by rw[Ni];omega),fy (l:=r) (by omega),fy (l:=p) (by omega)];show (0:Rat)=0-r[k]?.getD 0*0;rw[Rat.mul_zero,Rat.sub_self]
def Iq{a b:List Rat}(h:a.length=b.length)(hg:∀i,i<a.length->a[i]?.getD 0=b[i]?.getD 0):a=b:=by apply List.ext_getElem h;intro i h1 h2;have:=hg i h1;rw[ct h1,ct h2]at this;exact this
def Sh{C:List (List Rat)}(h:n<=r.length):(nL n C r)[i]?.getD 0=if i<n then r[i]?.getD 0 else ((C[i-n]?).map fun c=>dh c (r.drop n)).getD 0:=by
 by_cases hi:i<n
 ·rw[av hi,Wj h hi]
 rw[ak hi];have:=Yyw (C:=C) (j:=i-n) h;rw[show n+(i-n)=i by omega]at this;rw[this]
def Yvr{C:List (List Rat)}{p:Rat}(h:n<=r.length):nL n C (r.map fun x=>x/p)=(nL n C r).map fun x=>x/p:=by
 have h':n<=(r.map fun x=>x/p).length:=by rw[di];exact h
 apply Iq (by rw[M0 h',di,M0 h]);intro i _;rw[Sh h',Ztm,Ztm,Sh h];by_cases hi:i<n
 ·rw[av hi,av hi]
 rw[ak hi,ak hi];cases C[i-n]? with
 |none=>simp[Rat.div_def,Rat.zero_mul]
 |some c=>exact Yjg fun k _=>by rw[Sg,Ztm,Sg]
def Yvq{C:List (List Rat)}{p:List Rat}(h:n<=r.length)(hp:r.length=p.length)(hk:k<n):nL n C (uI r p k)=uI (nL n C r) (nL n C p) k:=by
 have h':n<=(uI r p k).length:=by rw[Ni];exact h
 have U5:n<=p.length:=by omega
 apply Iq (by rw[M0 h',Ni,M0 h]);intro i _;rw[Sh h',Zsy hp,Zsy (r:=nL n C r) (by rw[M0 h,M0 U5]),Sh h,Sh U5,Wj h hk];by_cases hi:i<n
 ·rw[av hi,av hi,av hi]
 rw[ak hi,ak hi,ak hi];cases C[i-n]? with
 |none=>simp[Rat.mul_zero,Rat.sub_self]
 |some c=>exact Yjf fun j _=>by rw[Sg,Zsy hp,Sg,Sg]
def M3{F:List Rat->List Rat}(h:i<m.length):((m.map F)[i]?).getD []=F (m[i]?.getD []):=by rw[eH,ct h];rfl
def Ypr{m:List (List Rat)}{n k L:Nat}{C:List (List Rat)}(hc:aU m L)(hn:n<=L)(hk:k<n):∀{t d:Nat},d+t<=m.length->sY (m.map (nL n C)) k d t=sY m k d t
 |0,d,_=>rfl
 |t+1,d,h=>by
  have hl:=hc.at (i:=d) (by omega)
  unfold sY
  rw[M3 (by omega),Wj (by omega) hk,Ypr hc hn hk (by omega)]
def Yrf{F:List Rat->List Rat}{p:Nat}(hd:d<m.length)(hp:p<m.length):cA (m.map F) d p=(cA m d p).map F:=by unfold cA;rw[M3 hd,M3 hp,List.map_set,List.map_set]
def Yry{L:Nat}{C:List (List Rat)}(hc:aU m L)(hn:n<=L)(hk:k<n)(hd:d<m.length):gJ (m.map (nL n C)) d k=(gJ m d k).map (nL n C):=by have hl:=hc.at hd;unfold gJ;rw[M3 hd,List.map_set,Wj (by omega) hk,Yvr (by omega)]
def Yur{t L:Nat}{C:List (List Rat)}(hc:aU m L)(hn:n<=L)(hk:k<n)(hd:d<m.length):de (m.map (nL n C)) d k t=(de m d k t).map (nL n C):=by
 have hl:=hc.at hd;unfold de;rw[di,List.map_map];apply Aq;intro i hi;have hi:=iL.1 hi;have Uc:=hc.at hi;simp only[Function.comp];rw[M3 hi,M3 hd];split
 ·rw[Yvq (by omega) (by omega) hk]
 rfl
def Yrm{s:List (List Rat)×Nat×List Nat}{L:Nat}{C:List (List Rat)}(hc:aU s.1 L)(hn:n<=L)(hk:k<n)(hd:s.2.1<=s.1.length):iF (s.1.map (nL n C),s.2.1,s.2.2) k=((iF s k).1.map (nL n C),(iF s k).2.1,(iF s k).2.2):=by
 obtain⟨m,d,ps⟩:=s;simp only at hc hd;have e:fh (m.map (nL n C)) d k=fh m d k:=by unfold fh;rw[di];exact Ypr hc hn hk (by omega)
 have hle:=(FV (m:=m) (k:=k) (n:=m.length-d) (d:=d)).1;unfold iF;simp only;rw[e,di];by_cases hp:fh m d k<m.length
 ·have ew:d<m.length:=by unfold fh at hp;omega
  rw[av hp,av hp];have c1:=hc.D4 ew hp;have c2:=c1.K6 (d:=d) (k:=k) (by rw[qJ];exact ew);rw[Yrf ew hp,Yry c1 hn hk (by rw[qJ];exact ew),Yur c2 hn hk (by rw[CM,qJ];exact ew)]
 rw[ak hp,ak hp]
def Y9{m:List (List Rat)}{n L:Nat}{C:List (List Rat)}(hc:aU m L)(hn:n<=L):∀{k:Nat},k<=n->aD (m.map (nL n C)) k=((aD m k).1.map (nL n C),(aD m k).2.1,(aD m k).2.2)
 |0,_=>rfl
 |k+1,h=>by
  have I:=pH hc (n:=k)
  have hl:=yG (m:=m) (n:=k)
  rw[wV,wV,Y9 hc hn (by omega)]
  exact Yrm I.1 hn (by omega) (by rw[hl];exact I.2)
variable {G X m:List (List Rat)} {i n:Nat}
def dL(G X:List (List Rat)):List (List Rat):=(List.range G.length).map fun i=>G[i]?.getD []++X[i]?.getD []
def yP(n i:Nat):List Rat:=(List.range n).map fun j=>if j=i then 1 else 0
def yM(n:Nat):List (List Rat):=(List.range n).map (yP n)
def dC(a C:List (List Rat)):List (List Rat):=a.map fun r=>C.map fun c=>dh c r
def CX(G:List (List Rat))(n:Nat):Option (List (List Rat)):=if (aD (dL G (yM n)) (n+n)).2.1=n/\∀i,i<n->(aD (dL G (yM n)) (n+n)).2.2[i]?.getD 0=i then some ((aK (dL G (yM n)) (n+n)).map (List.drop n)) else none
def rS(G X:List (List Rat))(n c:Nat):Option (List (List Rat)):=if (aD (dL G X) (n+c)).2.1<n\/(aD (dL G X) (n+c)).2.2[n-1]?.getD 0≠n-1 then none else some ((aK (dL G X) (n+c)).map (List.drop n))
def Au:(dL G X).length=G.length:=by simp[dL]
def yL{c:Nat}(hG:aU G n)(hX:aU X c)(hl:G.length<=X.length):aU (dL G X) (n+c):=fun r hr=>by
 obtain⟨i,hi,rfl⟩:=bK.1 hr
 have hi:=iL.1 hi
 rw[iI,hG.at hi,hX.at (by omega)]
def Yq8:(yP n i).length=n:=by simp[yP]
def Yq9{j:Nat}(h:j<n):(yP n i)[j]?.getD 0=if j=i then 1 else 0:=by simp[yP,h]
def Y8:(yM n).length=n:=by simp[yM]
def Xap(h:i<n):(yM n)[i]?.getD []=yP n i:=by simp[yM,h]
def Y7:aU (yM n) n:=fun r hr=>by
 obtain⟨i,_,rfl⟩:=bK.1 hr
 exact Yq8
def Yjd{a:List Rat}{n i:Nat}:∀{m:Nat},m<=n->kY a (yP n i) m=if i<m then a[i]?.getD 0 else 0
 |0,_=>by simp[kY]
 |m+1,h=>by
  unfold kY
  rw[Yjd (a:=a) (i:=i) (m:=m) (by omega),Yq9 (by omega)]
  by_cases e:m=i
  ·subst e
   simp[Rat.mul_one,Rat.zero_add]
  ·rw[ak e,Rat.mul_zero,Rat.add_zero]
   by_cases e2:i<m
   ·rw[av e2,av (by omega)]
   ·rw[ak e2,ak (by omega)]
def Zzq{c:Nat}(hG:aU G n)(hl:G.length=n)(hX:aU X c)(hx:X.length=n):dL G X=(dL G (yM n)).map (nL n (dt X c)):=by
 unfold dL;rw[List.map_map];apply Aq;intro i hi;have hi:=iL.1 hi;have l1:=hG.at hi;simp only[Function.comp];rw[Xap (by omega)];unfold nL;rw[List.take_left' l1,List.drop_left' l1];congr 1;have l2:=hX.at (i:=i) (by omega);apply Iq (by rw[l2];simp[dt]);intro j hj;rw[l2]at hj;unfold dt;rw[List.map_map,eH,wY hj];simp only[qO,il,Function.comp];unfold dh;have l3:(kX X j).length=n:=by simp[kX,hx]
 rw[l3,Yjd (aM _),av (by omega)];unfold kX;rw[eH];cases X[i]?<;>simp
def Yi8{m:List (List Rat)}{k:Nat}:∀{e:Nat},∃l:List Nat,(aD m (k+e)).2.2=(aD m k).2.2++l/\∀x∈l,k<=x
 |0=>⟨[],by simp,fun x hx=>by simp at hx⟩
 |e+1=>by
  obtain⟨l,h1,h2⟩:=Yi8 (m:=m) (k:=k) (e:=e)
  rw[<-qP,wV]
  unfold iF
  split
  ·refine⟨l++[k+e],by simp[h1],fun x hx=>?_⟩
   rcases jn.1 hx with hx|hx
   ·exact h2 x hx
   ·simp at hx
    omega
  ·exact⟨l,h1,h2⟩
def S9{d:Nat}{ps:List Nat}(h:zJ m d ps d){i:Nat}(hi:i<d):ps[i]?.getD 0=i:=by
 have up:∀j,j<d->j<=ps[j]?.getD 0:=fun j=>by
  induction j with
  |zero=>intro _;omega
  |succ j ih=> intro hj;have:=h.xc j (j+1) (by omega) hj;have:=ih (by omega);omega
 have dn:∀j,j<d->ps[d-1-j]?.getD 0+j<d:=fun j=>by
  induction j with
  |zero=>intro h0;exact h.lt (d-1) (by omega)
  |succ j ih=> intro hj;have h1:=h.xc (d-1-(j+1)) (d-1-j) (by omega) (by omega);have:=ih (by omega);omega
 have h1:=up i hi;have h2:=dn (d-1-i) (by omega);rw[show d-1-(d-1-i)=i by omega]at h2;omega
def Ya2{L e:Nat}(hm:aU m L)(h0:0<n)(ht:(aD m n).2.1<n)(hd:(aD m (n+e)).2.1=n):n<=(aD m (n+e)).2.2[n-1]?.getD 0:=by
 obtain⟨l,q1,q2⟩:=Yi8 (m:=m) (k:=n) (e:=e);have J:=(mU hm (n:=n)).len;have J2:=(mU hm (n:=n+e)).len;rw[hd,q1,iI]at J2;rw[q1,qI (by omega)];have aE:n-1-(aD m n).2.2.length<l.length:=by omega
 rw[ct aE];exact q2 _ (List.getElem_mem aE)
def Ypf{c:Nat}(hG:aU G n)(hl:G.length=n)(h0:0<n)(hX:aU X c)(hx:X.length=n):rS G X n c=(CX G n).map fun H=>dC H (dt X c):=by
 have hW:=yL hG (Y7 (n:=n)) (by rw[Y8,hl];exact aM _);have lW:(dL G (yM n)).length=n:=by rw[Au,hl]
 have I:=mU hW (n:=n);have hle:=(pH hW (n:=n)).2;have hwx:=Zzq hG hl hX hx;have hE:=Y9 (C:=dt X c) hW (Nat.le_add_right n n) (aM n);rw[<-hwx]at hE;have lX:(dL G X).length=n:=by rw[Au,hl]
 unfold rS CX aK;by_cases f:(aD (dL G (yM n)) n).2.1=n
 ·have e1:=Nm (f.trans lW.symm) (n:=n);have e2:aD (dL G X) (n+c)=aD (dL G X) n:=Nm (by rw[hE,lX];exact f);rw[e1,e2,hE];simp only;rw[f]at I;rw[ak (by rw[f,S9 I (by omega)];omega),av ⟨f,fun i hi=>S9 I hi⟩,qO,f];congr 1;unfold dC;rw[List.map_map,<-List.map_take,List.map_map];apply Aq;intro r hr;have lr:=(pH hW (n:=n)).1 r (wy hr);simp only[Function.comp];unfold nL;exact List.drop_left' (by rw[ik];omega)
 have ht:(aD (dL G (yM n)) n).2.1<n:=by omega
 have zr:(aD (dL G X) n).2.1<n:=by rw[hE];exact ht
 have hWX:=yL hG hX (by omega);rw[av,ak]
 ·rfl
 ·rintro⟨a,b⟩;have:=Ya2 hW h0 ht a;rw[b (n-1) (by omega)]at this;omega
 by_cases d:(aD (dL G X) (n+c)).2.1<n
 ·exact .inl d
 have h5:=(pH hWX (n:=n+c)).2;have:=Ya2 hWX h0 zr (e:=c) (by omega);exact .inr (by omega)
end
end Go.Mx
