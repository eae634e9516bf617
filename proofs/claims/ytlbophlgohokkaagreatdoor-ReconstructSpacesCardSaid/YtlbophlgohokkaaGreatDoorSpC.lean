/-
  reconstruct.zeros; rows of fractions that are written.
-/
import Derived.Test.YtlbophlgohokkaaGreatDoorEcK
import Derived.Test.YtlbophlgohokkaaGreatDoorCoE
import Derived.Test.YtlbophlgohokkaaGreatDoorMxRg
import Derived.Test.YtlbophlgohokkaaGreatDoorCoL
set_option linter.all false
namespace Go.Mx
open Go Go.Proofs
variable {N R:Nat} {h:T O} {l:List Rat}
set_option maxRecDepth 1000000
def A.zb7:aq:=sr [bi 10 .lss 9 8]
 (.seq (cd 10
 (.skip)
 (.exit 0))
 (.seq (.block 1 (sr [mv 11 9,mv 4 11]
 (.aL [mv 12 3,mv 13 4,⟨(some 14),.call (.const (.func 118 [] [])) [(.const (.int .i64 0))],none⟩,ia 15 4 12 13,⟨none,.store 4 (.tmp 15) (.tmp 14),none⟩])))
 (.aL [bc 16 .add 9 1,mv 9 16])))
def A.b138:aq:=sr [mN 2]
 (sr [mv 5 0,⟨(some 6),.bD 114 4 64 [(.int .i64 0),.aa,(.int .i64 0),.aa] (.tmp 5) (.tmp 5),none⟩,mv 3 6]
 (.seq (sr [mv 7 3,ln 8 7,mc 9 0]
 (.block 0 (.loop A.zb7)))
 (sr [mv 17 3,mv 2 17]
 (.ret))))
theorem A.c138:A.F 138=some ⟨18,[.tmp 2],A.b138⟩:=by kernel_rfl
def A.k138:=@A.kk 138 _ _ _ A.c138 rfl
theorem Ztf{cs:List (List V)}{c B:List V}{j:Nat}(h4:∀x∈cs,x.length=4)(hj:j<cs.length)(hc:c.length=4):ag (cs.flatten++B) (j*4) c=(cs.set j c).flatten++B:=by
 obtain⟨x,hx⟩:=bs hj
 have e:cs=cs.take j++x::cs.drop (j+1):=by
  have:=wN j cs
  rw[fP hx]at this
  exact this.symm
 have hl:(cs.take j).flatten.length=j*4:=by
  rw[rO (z:=4) (fun y hy=>h4 y (uC hy)),gK,mw (by omega)]
 have hs:cs.set j c=cs.take j++c::cs.drop (j+1):=by rw[List.set_eq_take_append_cons_drop,aF hj]
 rw[hs]
 conv=>lhs;rw[e]
 simp only[List.flatten_append,List.flatten_cons,nT]
 rw[Ih hl (h4 x (cm hx)) hc]
structure lK (h:T O) (N R:Nat) (l:List Rat) (m:Nat):Prop where
 lt:R<N
 ex:∃cs:List (List V),h.get R=some (.cells (cs.flatten++cj zF m) 114 true)/\cs.length=l.length/\∀(j:Nat) (q:Rat),l[j]?=some q->∃c,cs[j]?=some c/\eQ h N c q
theorem lK.ad{h':T O}{N' m:Nat}(s:lK h N R l m)(k:ab h N h' N'):lK h' N' R l m:=by
 obtain⟨cs,g1,g2,g3⟩:=s.ex
 refine⟨dZ s.lt k.le,cs,(k.get R s.lt).trans g1,g2,fun j q hq=>?_⟩
 obtain⟨c,a,b⟩:=g3 j q hq
 exact⟨c,a,b.ad k⟩
theorem lK.Sz{cs:List (List V)}(g2:cs.length=l.length)(g3:∀(j:Nat) (q:Rat),l[j]?=some q->∃c,cs[j]?=some c/\eQ h N c q):(∀c∈cs,c.length=4)/\pW cs.flatten/\cs.flatten.all V.one=true:=Ii (l:=l) (by omega) fun j q _ hq=>g3 j q hq
theorem lK.next{m:Nat}{c:List V}{q:Rat}(s:lK h N R l (m+1))(hc:eQ h N c q):∃X,h.get R=some (.cells X 114 true)/\l.length*4+4<=X.length/\lK (h.set R (.cells (ag X (l.length*4) c) 114 true)) N R (l++[q]) m:=by
 obtain⟨cs,g1,g2,g3⟩:=s.ex
 obtain⟨f1,f2,_⟩:=lK.Sz g2 g3
 have jv:=rO f1
 obtain⟨e1,_⟩:=hc.len
 have fz:ag (cs.flatten++cj zF (m+1)) (l.length*4) c=(cs++[c]).flatten++cj zF m:=by
  rw[AP,Ih (n:=4) (by rw[jv,g2]) rfl e1,Ey,nT]
 have v_:pW (cs.flatten++cj zF (m+1)):=f2.app Ij
 have s_:((cs++[c]).flatten++cj zF m).length=(cs.flatten++cj zF (m+1)).length:=by
  rw[AP,Ey];simp[e1,zF];omega
 refine⟨_,g1,by rw[fK,jv,g2,RK];omega,s.lt,cs++[c],by rw[T.ah,aF rfl,fz],by simp[g2],fun j r hr=>?_⟩
 rw[fz]
 by_cases e:j<l.length
 ·rw[jO e]at hr
  obtain⟨x,a,b⟩:=g3 j r hr
  exact⟨x,by rw[jO (by omega)];exact a,b.aE g1 v_ s_⟩
 ·have hj:j=l.length:=by have:=kc hr;simp at this;omega
  subst hj
  rw[od (aV _)]at hr
  simp at hr
  subst hr
  exact⟨c,by rw[od (by omega),g2];simp,hc.aE g1 v_ s_⟩
theorem lK.put{j:Nat}{c:List V}{q:Rat}(s:lK h N R l 0)(hc:eQ h N c q)(hj:j<l.length):∃X,h.get R=some (.cells X 114 true)/\j*4+4<=X.length/\lK (h.set R (.cells (ag X (j*4) c) 114 true)) N R (l.set j q) 0:=by
 obtain⟨cs,g1,g2,g3⟩:=s.ex
 obtain⟨f1,f2,_⟩:=lK.Sz g2 g3
 have jv:=rO f1
 obtain⟨e1,_⟩:=hc.len
 have fz:ag (cs.flatten++cj zF 0) (j*4) c=(cs.set j c).flatten++cj zF 0:=Ztf f1 (by omega) e1
 have v_:pW (cs.flatten++cj zF 0):=f2.app Ij
 have s_:((cs.set j c).flatten++cj zF 0).length=(cs.flatten++cj zF 0).length:=by
  rw[fK,fK,jv,rO (z:=4) fun x hx=>?_,q_]
  rcases zl hx with hx|rfl
  ·exact f1 x hx
  ·exact e1
 refine⟨_,g1,by rw[fK,jv];omega,s.lt,cs.set j c,by rw[T.ah,aF rfl,fz],by simp[g2],fun i r hr=>?_⟩
 rw[fz]
 by_cases e:i=j
 ·subst e
  rw[fy hj]at hr
  simp only[ai]at hr
  subst hr
  exact⟨c,by rw[fy (by omega)],hc.aE g1 v_ s_⟩
 ·rw[dr (Ne.symm e)]at hr ⊢
  obtain⟨x,a,b⟩:=g3 i r hr
  exact⟨x,a,b.aE g1 v_ s_⟩
theorem lK.frt(s:lK h N R l 0):jA h N (.slice R 0 l.length (some l.length) 4) l:=by
 obtain⟨cs,g1,g2,g3⟩:=s.ex
 obtain⟨f1,f2,_⟩:=lK.Sz g2 g3
 have hz:cj zF 0=[]:=by simp[cj]
 rw[hz,sJ]at g1
 refine⟨⟨cs,.inr ⟨R,0,some l.length,cs.flatten,_,true,by rw[g2],s.lt,g1,fun j x hj=>by rw[qm];exact Ew f1 hj,by rw[rO f1];omega,fun k hk=>by simp at hk;omega⟩,g2,g3⟩,fun i hi=>?_⟩
 simp[dj]at hi
 subst hi
 exact⟨_,_,g1⟩
theorem Yet{n:Nat}(hn:n<1000):Fn A.C 138 [.int .i64 n] h N (fun x h' n'=>x=.slice N 0 n (some n) 4/\lK h' n' N ((List.range n).map fun _=>0) 0):=by
 intro w
 have c1:(64:Int)*(n:Int)<=140737488355328:=by omega
 have c2:(n:Int)<4611686018427387904:=by omega
 have kB:ab h N (h.set N (.cells (cj zF n) 114 true)) (N+1):=ab.refl.new _
 have gB:(h.set N (.cells (cj zF n) 114 true)).get N=some (.cells (cj zF n) 114 true):=by rw[T.ah,aF rfl]
 rw[aP,A.k138 (by simp)]
 simp[A.b138,c1,c2]
 refine bN [(4,4),(9,16)] (fun e r st=>e=.exit 0/\au N st.w=[]/\ab h N st.h st.n/\lK st.h st.n N ((List.range n).map fun _=>0) 0) (fun i r st=>au N st.w=[]/\ab h N st.h st.n/\∃t,t+i=n/\r.get 9=some (.int .i64 t)/\lK st.h st.n N ((List.range t).map fun _=>0) i) n ?_ ?_ ?_
 ·exact⟨by simp,kB,0,by omega,by simp,by show N<N+1;omega,[],by simp;rfl,rfl,fun j q hq=>by simp at hq⟩
 ·rintro i r ⟨H,n1,W⟩ hr hf ⟨hW,hK,t,ht,h9,hQ⟩
  simp only at hW hK hQ
  rw[bn]
  cases i with
  |zero=>
   obtain rfl:t=n:=by omega
   simp[A.zb7,hr,hf,h9,hW,hK]
   exact hQ
  |succ i=>
   have aB:t<n:=by omega
   have bj:(t:Int)<(n:Int):=by omega
   simp[A.zb7,hr,h9,bj]
   refine ax (Yh (by decide) (by decide)) ?_
   rintro _ H2 n2 k2 hz
   obtain⟨c,rfl,hc⟩:=hz.c
   obtain⟨e1,e2⟩:=hc.len
   have mT:=k2.le
   have jj:(V.agg c).cells=c:=rfl
   obtain⟨X,x1,x2,x3⟩:=(hQ.ad k2).next hc
   have lN:N<n2:=dZ hQ.lt mT
   have hl:((List.range t).map fun _=>(0:Rat)).length=t:=by simp
   rw[hl]at x2 x3
   simp(disch:=first|(simp;done)|omega|rfl) [-V.cells, -V.one,hf,h9,bL,jj,e1,e2,x1,x2]
   exact⟨i,by omega,hW,(hK.trans k2).set (aV _),t+1,by omega,by simp,by rw[List.range_succ,List.map_append];exact x3⟩
 ·rintro _ r ⟨H,n1,W⟩ hr ⟨rfl,hW,hK,hQ⟩
  simp only at hW hK hQ
  simp[hr,aA,hW,hK]
  exact hQ
variable {N:Nat} {h:T O} {m:List (List Rat)}
set_option maxHeartbeats 2000000
def A.zbC:aq:=sr [bi 36 .lss 35 34]
 (.seq (cd 36
 (.skip)
 (.exit 2))
 (.seq (.block 3 (sr [mv 37 35,ia 38 1 33 35,ld 39 38,mv 9 37,mv 10 39]
 (.aL [mv 40 8,mv 41 10,mv 42 3,mv 43 9,ia 44 1 42 43,ld 45 44,mv 46 7,ia 47 4 45 46,lN 48 4 47,c1 49 191 48,ia 50 4 40 41,⟨none,.store 4 (.tmp 50) (.tmp 49),none⟩])))
 (.aL [bc 51 .add 35 1,mv 35 51])))
def A.zbD:aq:=sr [bi 22 .lss 21 20]
 (.seq (cd 22
 (.skip)
 (.exit 0))
 (.seq (.block 1 (sr [mv 23 21,mv 7 23]
 (.seq (sr [mv 24 4,mv 25 7,c2 26 108 24 25]
 (cd 26
 (.exit 1)
 (.skip)))
 (sr [mv 27 5,c1 28 138 27,mv 8 28]
 (sr [mv 29 8,mv 30 7,⟨(some 31),.call (.const (.func 118 [] [])) [(.const (.int .i64 1))],none⟩,ia 32 4 29 30,⟨none,.store 4 (.tmp 32) (.tmp 31),none⟩]
 (.seq (sr [mv 33 4,ln 34 33,mc 35 0]
 (.block 2 (.loop A.zbC)))
 (.aL [mv 52 6,mv 53 8,⟨(some 54),.aY 97 1 1 [.aa] [(0,1,(.tmp 53))],none⟩,⟨(some 55),.append 1 24 97 [.aa] (.tmp 52) (.tmp 54),none⟩,mv 6 55])))))))
 (.aL [bc 56 .add 21 1,mv 21 56])))
def A.b132:aq:=sr [mN 2]
 (sr [mv 12 0,c1 13 124 12,mv 11 13,xt 14 11 0,xt 15 11 1,mv 3 14,mv 4 15]
 (sr [mv 16 0,⟨(some 17),.aI 1 (.tmp 16) (.const (.int .i64 0)),none⟩,ld 18 17,ln 19 18,mv 5 19]
 (sr [mN 6]
 (.seq (sr [mv 20 5,mc 21 0]
 (.block 0 (.loop A.zbD)))
 (sr [mv 58 6,c1 59 124 58,mv 57 59,xt 60 57 0,xt 61 57 1,mv 6 60]
 (sr [mv 62 6,mv 2 62]
 (.ret)))))))
theorem A.c132:A.F 132=some ⟨63,[.tmp 2],A.b132⟩:=by kernel_rfl
def A.k132:=@A.kk 132 _ _ _ A.c132 rfl
theorem Zj{ps:List Nat}{n k:Nat}(hk:k<n):((List.range n).map fun _=>(0:Rat)).set k (((1:Int):Rat))=jS m ps n k fun _=>false:=by
 apply iW
 intro j
 by_cases hj:j<n
 ·by_cases e:j=k
  ·subst e
   rw[fy (by simp;exact hj)]
   unfold jS
   simp[hj]
  ·rw[dr (Ne.symm e)]
   unfold jS
   simp[hj,e]
 ·rw[eG (by simp;omega),eG (by rw[Bc];omega)]
theorem IW{v:V}(s:oC h N v m){i:Nat}{row:List Rat}(hr:m[i]?=some row):∃j o c e rw u,tK v=some (j,o)/\j<N/\h.get j=some (.cells c e rw)/\c[o+i]?=some u/\jA h N u row:=by
 obtain⟨us,h1,h2,h3⟩:=s
 obtain⟨u,a,b⟩:=h3 i row hr
 obtain⟨j,o,c,e,rw,q1,q2,q3,q4⟩:=h1.at a
 exact⟨j,o,c,e,rw,u,q1,q2,q3,q4,b⟩
theorem Yg0{H:T O}{n R k c K:Nat}{W0:List Nat}{r0:T V}{rv pv:V}{ps:List Nat}(sm:oC H n rv m)(sp:Sl H n pv (dI (oz ps)))(hl:m.length=ps.length)(oe:m.length<1000)(hc:ew m c)(hk:k<c)(cr:c<1000)(hq:e_ m K)(hK:K<=400000)(hi:∀i,i<ps.length->∃p,ps[i]?=some p/\p<c/\ps.idxOf p=i)(IX:k∉ps)(NA:n<=R){H2:T O}{n2:Nat}(kk:ab H n H2 n2)(s:lK H2 n2 R (jS m ps c k fun _=>false) 0)(pA:au n W0=[])(a3:r0.get 3=some rv)(a7:r0.get 7=some (.int .i64 k))(a8:r0.get 8=some (.slice R 0 c (some c) 4))(a33:r0.get 33=some pv)(Zk:r0.get 34=some (.int .i64 ps.length))(a35:r0.get 35=some (.int .i64 0)):
  Code A.C none (.loop A.zbC) ⟨r0,63,[]⟩ ⟨H2,n2,W0⟩ (fun e fr st=>e=.exit 2/\au n st.w=[]/\dC (fun i=>i=R) H2 n2 st.h st.n/\lK st.h st.n R (qd m ps c k) 0/\∃r,Fx [(9,10),(35,51)] r0 63 ⟨r,63,[]⟩/\fr=⟨r,63,[]⟩):=by
 have lp:=sp.len
 rw[fh]at lp
 have lpi:(oz ps).length=ps.length:=by simp[oz]
 rw[lpi]at lp
 have lm:=sm.len
 rw[bn]
 refine bN [(9,10),(35,51)] (fun e r st=>e=.exit 2/\au n st.w=[]/\dC (fun i=>i=R) H2 n2 st.h st.n/\lK st.h st.n R (qd m ps c k) 0) (fun i r st=>au n st.w=[]/\dC (fun i=>i=R) H2 n2 st.h st.n/\∃t,t<=ps.length/\i=ps.length-t/\r.get 35=some (.int .i64 t)/\lK st.h st.n R (jS m ps c k fun j=>decide (j∈ps.take t)) 0) ps.length ?_ ?_ ?_
 ·exact⟨pA,dC.refl,0,by omega,by omega,a35,by simpa using s⟩
 ·rintro i r ⟨H1,n1,W⟩ hr hf ⟨hW,U1,t,ht,rfl,SA,s1⟩
  simp only at hW U1 s1
  have k1:ab H n H1 n1:=kk.then (U1.keeps kk.le fun i hi=>by omega)
  rw[bn]
  by_cases aB:t<ps.length
  ·have bj:(t:Int)<(ps.length:Int):=by omega
   obtain⟨p,hp,Fb,SB⟩:=hi t aB
   have hpk:p≠k:=fun hc=>IX (hc▸cm hp)
   have vG:t<m.length:=by omega
   have SC:(t:Int)<(m.length:Int):=by omega
   obtain⟨row,aj⟩:=bs vG
   have mV:=hc row (cm aj)
   obtain⟨q,gh⟩:=bs (l:=row) (k:=k) (by omega)
   obtain⟨i1,o1,c1,e1,w1,p1,p2,p3,p4⟩:=(sp.ad k1).at (fb (l:=oz ps) (j:=t) (n:=(p:Int)) (by simp[oz,hp]))
   obtain⟨i2,o2,c2,e2,w2,u,q1,q2,q3,q4,q5⟩:=IW (sm.ad k1) aj
   obtain⟨i3,o3,c3,e3,w3,cs,x1,x2,x3,x4,x5⟩:=q5.1.at gh
   have mW:=q5.1.len
   have bU:(k:Int)<(row.length:Int):=by omega
   have il:k<row.length:=by omega
   have SD:(p:Int)<(c:Int):=by omega
   have jm:=hq row (cm aj) q (cm gh)
   have J4:=jm.wu
   have nQ:(0:Int)<=(p:Int):=by omega
   simp[A.zbC,hr,a3,a7,a8,a33,Zk,SA,bj,lp,lm,SC,p1,p3,p4,q1,q3,q4,x1,x3,x4,mW,bU]
   refine ax (SX x5.fc (by omega)) ?_
   rintro _ H3 n3 k3 hz
   obtain⟨cz,rfl,IY⟩:=hz.c
   obtain⟨f1,f2⟩:=IY.len
   have tg:=k3.le
   have jj:(V.agg cz).cells=cz:=rfl
   obtain⟨X,y1,y2,y3⟩:=(s1.ad k3).put IY (j:=p) (by rw[Bc];exact Fb)
   have lR:R<n3:=dZ s1.lt tg
   simp(disch:=first|(simp;done)|omega|rfl) [-V.cells, -V.one,hf,SA,bL,jj,f1,f2,y1,y2]
   refine⟨ps.length-(t+1),by omega,by rw[ar (by omega)];exact hW,(U1.trans k3.upd).set (.inl rfl),t+1,by omega,rfl,by simp,?_⟩
   have CL:dt m t k=q:=by unfold dt;rw[aj];simp[gh]
   rw[TF (p:=fun j=>decide (j∈ps.take t)) Fb hpk fun j _=>TG hp,SB,CL]
   exact y3
  ·obtain rfl:t=ps.length:=by omega
   rw[fN (aV _),TD]at s1
   simp[A.zbC,hr,hf,Zk,SA,hW,U1]
   exact s1
 ·rintro _ r st hr ⟨rfl,hw,k1,s1⟩
  simp[]
  exact⟨hw,k1,s1,hr,rfl,rfl⟩
theorem Zuv:Fn A.C 124 [.aa] h N (fun x _ _=>x=.bb [.aa,.aa]):=by
 intro w
 rw[aP,A.k124 (by simp)]
 have kB:∀o,ab h N (h.set N o) (N+1):=fun o=>ab.refl.new o
 have cn:∀w,Ce ⟨h.set N (.cells (cj [.aa] 0) 97 true),N+1,w⟩ 1 (some (.slice N 0 0 (some 0) 1)) (some .aa)=some (.int .i64 0,⟨h.set N (.cells (cj [.aa] 0) 97 true),N+1,w⟩):=fun w=>Yd3 (xs:=[]) rfl
 simp[A.b124,cn,aA]
 exact kB _
theorem Zl{c:Nat}{u:V}(hu:oC h N u m)(hc:ew m c)(oe:m.length<=6)(fA:0<m.length)(cr:c<=6)(hq:e_ m 96):Fn A.C 132 [u] h N (fun x h' n'=>oC h' n' x (sF m c)):=by
 intro w
 have lu:=hu.len
 have A7:(0:Int)<(m.length:Int):=by omega
 obtain⟨l0,ff⟩:=bs fA
 have I:=@Dy m c hc c
 have pL:(aU m c).2.1<=c:=Dt
 rw[aP,A.k132 (by simp)]
 simp[A.b132]
 refine ax (NQ hu hc (by omega) fA (by omega) (by decide) hq fun n h1 h2=>Jk (by omega)) ?_
 rintro _ H1 n1 k1 ⟨rv,pv,rfl,tW,pz⟩
 have re:=k1.le
 obtain⟨i2,o2,c2,e2,w2,y,q1,q2,q3,q4,q5⟩:=IW (hu.ad k1) ff
 rw[jR]at q4
 have ly:=q5.1.len
 rw[hc l0 (cm ff)]at ly
 have ml:=pz.sl
 have jz:=ml.len
 rw[fh]at jz
 have SE:(oz (aU m c).2.2).length=(aU m c).2.1:=by simp[oz,I.len]
 have SF:∀i,i<(aU m c).2.2.length->∃p,(aU m c).2.2[i]?=some p/\p<c/\(aU m c).2.2.idxOf p=i:=fun i hi=>by
  obtain⟨row,aj⟩:=bs (l:=gm m c) (k:=i) (by rw[Dx hc,<-I.len];exact hi)
  obtain⟨p,a,b,_,d⟩:=TJ hc aj
  exact⟨p,a,b,d⟩
 rw[SE,<-I.len]at jz
 have mV:(gm m c).length=(aU m c).2.2.length:=by rw[Dx hc,I.len]
 have fV:=fun (k:Nat) (H:T O) (n:Nat) (w:List Nat) (kk:ab H1 n1 H n)=>Ymr (w:=w) (z:=(k:Int)) (ml.ad kk) (by omega)
 simp[lu,fA,q1,q3,q4,ly]
 refine bN [(6,10),(21,56)] (fun e r st=>e=.exit 0/\au n1 st.w=[]/\ab H1 n1 st.h st.n/\∃v,r.get 6=some v/\se n1 st.h st.n v (pE m c)) (fun i r st=>au n1 st.w=[]/\ab H1 n1 st.h st.n/\∃k v,k<=c/\i=c-k/\r.get 21=some (.int .i64 k)/\r.get 6=some v/\se n1 st.h st.n v ((ot (aU m c).2.2 k).map (qd (gm m c) (aU m c).2.2 c))) c ?_ ?_ ?_
 ·exact⟨by simp,ab.refl,0,_,by omega,by omega,by simp,by simp,se.nil⟩
 ·rintro i r ⟨H,n,W⟩ hr hf ⟨hW,hK,k,v,hk,rfl,LX,h6,hO⟩
  simp only at hW hK hO
  rw[bn]
  have ln:=hK.le
  by_cases aB:k<c
  ·have bj:(k:Int)<(c:Int):=by omega
   have qJ:=fun w=>fV k H n w hK
   rw[Yko]at qJ
   have nD:=TK (ps:=(aU m c).2.2) (k:=k)
   cases hb:(aU m c).2.2.contains k with
   |true=>
    rw[hb]at qJ
    rw[hb,aF rfl,sJ]at nD
    simp(disch:=first|(simp;done)|omega|rfl) [A.zbD,hr,hf,LX,h6,bj,qJ,hW,hK]
    exact⟨c-(k+1),by omega,k+1,by omega,rfl,by simp,by rw[nD];exact hO⟩
   |false=>
    rw[hb]at qJ
    rw[hb,ar (by decide)]at nD
    have IX:k∉(aU m c).2.2:=fun hm=>by simp[hm]at hb
    simp[A.zbD,hr,LX,bj,qJ]
    refine ax (Yet (by omega)) ?_
    rintro _ H2 n2 k2 ⟨rfl,s2⟩
    have mT:=k2.le
    simp
    refine ax (Yh (by decide) (by decide)) ?_
    rintro _ H3 n3 k3 hz
    obtain⟨cz,rfl,IY⟩:=hz.c
    obtain⟨f1,f2⟩:=IY.len
    have tg:=k3.le
    have jj:(V.agg cz).cells=cz:=rfl
    obtain⟨X,y1,y2,y3⟩:=(s2.ad k3).put IY (j:=k) (by simp;exact aB)
    have lR:n<n3:=dZ s2.lt tg
    simp[-V.cells, -V.one,hr,bj,bL,jj,f1,f2,y1,y2,jz]
    rw[Zj (m:=gm m c) (ps:=(aU m c).2.2) aB]at y3
    have k4:ab H n (H3.set n (.cells (ag X (k*4) cz) 114 true)) n3:=(k2.trans k3).set (aV _)
    generalize H3.set n (.cells (ag X (k*4) cz) 114 true)=G at*
    refine iY (Yg0 (R:=n) (K:=400000) tW ml mV (by rw[mV,I.len];omega) (DE hc) aB (by omega) (Jz oe hc hq) (aV _) SF IX ln (hK.trans k4) y3 (by simp[oo.2 ln,hW]) (by simp[hr]) (by simp) (by simp) (by simp) (by simp) (by simp)) ?_
    rintro _ _ ⟨H4,n4,W4⟩ ⟨rfl,xx,U4,s4,r4,f4,rfl⟩
    simp only at xx U4 s4
    have kh:=f4.aL
    have Dw:=hf.inner (D':=[(9,10),(35,51)]) (by decide) (fun hx=>by simpa[Fx.set]using hx) kh
    have k5:ab H n H4 n4:=k4.then (U4.keeps k4.le fun i hi=>by omega)
    have NN:=k5.le
    have fr:=s4.frt
    have EV:(qd (gm m c) (aU m c).2.2 c k).length=c:=by simp[qd]
    rw[EV]at fr
    have xU:ag [V.aa] 0 [.slice n 0 c (some c) 4]=[.slice n 0 c (some c) 4]:=rfl
    have kD:ab H4 n4 (H4.set n4 (.cells [.slice n 0 c (some c) 4] 97 true)) (n4+1):=ab.refl.new _
    have jv:(ot (aU m c).2.2 k).length<=k:=by
     unfold ot
     exact lS (List.length_filter_le _ _) (by simp)
    obtain⟨v',h',w',j1,j2,j3,j4⟩:=se.push (N0:=n1) (x:=.slice n4 0 1 (some 1) 1) (w:=W4) ((hO.ad k5).ad kD) (fr.ad kD) (by omega) (by simp[ft,St.row,aM]) (by rw[si];omega)
    have kF:ab H1 n1 h' (n4+1+1):=((hK.trans k5).trans kD).then j3
    simp(disch:=first|(simp;done)|omega|rfl) [kh,Dw,LX,h6,xU,Cn,j1,j2,xx,kF]
    exact⟨c-(k+1),by omega,k+1,by omega,rfl,by simp,by rw[nD,List.map_append];exact j4⟩
  ·obtain rfl:k=c:=by omega
   simp[A.zbD,hr,hf,LX,h6,hW,hK]
   exact hO
 ·rintro _ r ⟨H,n,W⟩ hr ⟨rfl,hW,hK,v,h6,hO⟩
  simp only at hW hK hO
  have le:=hK.le
  have nZ:=FG hc
  cases tq:pE m c with
  |nil=>
   rw[tq]at hO
   obtain⟨us,_,o2,o3,_⟩:=hO
   obtain rfl:v=.aa:=o2 (List.length_eq_zero_iff.1 o3)
   simp[h6]
   refine ax Zuv ?_
   rintro _ H5 n5 k5 rfl
   simp[aA]
   refine⟨Ji hW re,(k1.trans hK).trans k5,?_⟩
   unfold sF
   rw[tq,TH]
   exact⟨[],.inl ⟨rfl,.inl rfl⟩,rfl,fun j l hl=>by simp at hl⟩
  |cons r0 rest=>
   have oV:0<(pE m c).length:=by rw[tq];simp
   have hO':=hO.NP
   simp[h6]
   refine ax (NQ hO' Jx (by omega) oV (by omega) (zq (by decide)) (NT hq (by decide)) (TL hc cr)) ?_
   rintro _ H5 n5 k5 ⟨a,b,rfl,ha,hb⟩
   simp[aA]
   exact⟨Ji hW re,(k1.trans hK).trans k5,ha⟩
open Go
theorem uk.lens{m:List (List aX)}{n:Nat}(h:uk m n):(gb m).length<1000/\0<(gb m).length/\n<1000/\(∀k,k<(gb m).length->k<n->3*kB 96 k<=400000)/\(∀l∈gb m,l.length<1000000/\∀q∈l,Qb 100 q):=by
 have h1:=h.pos
 have h2:=h.le
 have h3:=h.n6
 rw[Jp]
 refine⟨by omega,h1,by omega,fun k h4 h5=>Jk (by omega),fun l hl=>?_⟩
 obtain⟨a,b⟩:=h.rat l hl
 exact⟨by omega,b⟩
set_option maxHeartbeats 2000000
set_option maxHeartbeats 2000000
set_option maxHeartbeats 1000000
theorem me.A4{N0:Nat}{h:T O}{N R d:Nat}{m:List (List Rat)}{v:V}{us:List V}(s:me N0 h N R m)(g:h.get R=some (.cells us 23 true))(hv:Sl h N v (us.take d))(hd:d<=m.length):iO h N v (m.take d):=by
 obtain⟨vs,g1,g2,g3⟩:=s.ex
 rw[g]at g1
 simp only[ai,O.cells.injEq,and_true]at g1
 subst g1
 refine⟨us.take d,hv,by simp[g2],fun j l hl=>?_⟩
 by_cases hj:j<d
 ·rw[gU,aF hj]at hl ⊢
  obtain⟨u,a1,a2⟩:=g3 j l hl
  exact⟨u,a1,a2.1⟩
 ·rw[gU,ar hj]at hl
  cases hl
theorem SG{h:T O}{N:Nat}{u:V}{m:List (List Rat)}{c K:Nat}(hu:iO h N u m)(hc:ew m c)(oe:m.length<1000)(fA:0<m.length)(cr:c<1000)(uz:1<=K)(hK:e_ m K)(hB:∀n,n<m.length->n<c->3*kB K n<=400000):Fn A.C 45 [u] h N (fun x h' n'=>iO h' n' x (gm m c)):=by
 intro w
 obtain⟨us,h1,h2,h3⟩:=hu
 have fB:=h1
 rcases h1 with⟨hn,_⟩|⟨i,o,cp,c',e,oD,rfl,q2,q3,q4,q5,q6⟩
 ·rw[hn]at h2
  simp at h2
  omega
 have bA:¬i=N:=by omega
 have kX:us≠[]:=fun hc=>by rw[hc]at h2;simp at h2;omega
 have zv:(h.set N (.cells [] 23 true)).get i=some (.cells c' e oD):=by rw[T.ah,ar bA];exact q3
 have ha:∀w,jQ ⟨h.set N (.cells [] 23 true),N+1,w⟩ 1 24 23 (.slice N 0 0 (some 0) 1) (.slice i o us.length cp 1)=some (.slice (N+1) 0 us.length none 1,⟨(h.set N (.cells [] 23 true)).set (N+1) (.cells us 23 true),N+1+1,w⟩):=fun w=>by
  have hg:(h.set N (.cells [] 23 true)).get N=some (.cells [] 23 true):=by simp
  simp only[jQ,Tb (cp:=cp) zv q4 q5,uP,St.row,hg,aM,St.alloc]
  simp[kX]
  omega
 have kB:ab h N ((h.set N (.cells [] 23 true)).set (N+1) (.cells us 23 true)) (N+1+1):=(ab.refl.new _).new _
 have sR:me N ((h.set N (.cells [] 23 true)).set (N+1) (.cells us 23 true)) (N+1+1) (N+1) m:=⟨by omega,by omega,us,by rw[T.ah,aF rfl],h2,fun j l hl=>by
  obtain⟨x,a1,a2⟩:=h3 j l hl
  exact⟨x,a1,(Tx.old a2).ad kB⟩⟩
 rw[aP,A.k45 (by simp)]
 simp[A.b45,Cn,ha]
 generalize (h.set N (.cells [] 23 true)).set (N+1) (.cells us 23 true)=G at*
 refine iY (Zxu (h:=h) sR hc oe fA cr uz hK hB kB (by simp) (by simp[h2]) (by simp) (by simp)) ?_
 rintro _ _ ⟨H4,n4,W4⟩ ⟨rfl,hw,k4,s4,r4,f4,rfl,x4⟩
 simp only at hw k4 s4
 have kh:=f4.aL
 obtain⟨vs,g1,g2,_⟩:=id s4.ex
 have hl4:(aU m c).1.length=m.length:=sw
 have gW:=(@wG m c hc c).2
 have hs:Sl H4 n4 (.slice (N+1) 0 us.length none 1) vs:=Sl.row s4.lt g1 (by omega) fun k hk=>by cases hk
 obtain⟨v',e1,e2⟩:=Ba (w:=W4) hs (lo:=0) (hi:=(aU m c).2.1) (by omega) (by omega) none (some (.int .i64 (aU m c).2.1)) (.inr ⟨rfl,rfl⟩) (.inl rfl)
 rw[tu]at e2
 simp[zu,kh,x4,e1,aA,hw]
 exact⟨k4,s4.A4 g1 e2 (by omega)⟩
set_option maxHeartbeats 1000000
variable {N R n:Nat} {h:T O} {l:List Rat} {ps:List Nat}
def A.zbE:aq:=.seq (sr [mv 4 3,mv 5 0,ln 6 5,bi 7 .lss 4 6,mv 8 7,mg 9 0 8,mg 10 3 8,⟨(some 11),.aI 1 (.tmp 9) (.tmp 10),(some (8,true))⟩,⟨(some 12),.load none (.tmp 11),(some (8,true))⟩,⟨(some 13),.call (.const (.func 121 [] [])) [(.tmp 12)],(some (8,true))⟩,pf 14 8 13]
 (cd 14
 (.skip)
 (.exit 0)))
 (.block 1 (.aL [mv 15 3,bc 16 .add 15 1,mv 3 16]))
def A.b134:aq:=sr [mc 2 0]
 (sr [mc 3 0]
 (.seq (.block 0 (.loop A.zbE))
 (sr [mv 17 3,mv 2 17]
 (.ret))))
theorem A.c134:A.F 134=some ⟨18,[.tmp 2],A.b134⟩:=by kernel_rfl
def A.k134:=@A.kk 134 _ _ _ A.c134 rfl
def A.zb8:aq:=.seq (sr [mv 5 4,mv 6 0,bi 7 .lss 5 6]
 (cd 7
 (.skip)
 (.exit 0)))
 (.seq (.block 1 (.aL [mv 10 3,⟨(some 11),.aY 36 1 1 [(.str [])] [(0,1,(.const (.str [48])))],none⟩,⟨(some 12),.append 1 16 36 [(.str [])] (.tmp 10) (.tmp 11),none⟩,mv 3 12]))
 (.aL [mv 8 4,bc 9 .add 8 1,mv 4 9]))
def A.b135:aq:=sr [mN 2]
 (sr [mN 3]
 (.seq (sr [mc 4 0]
 (.block 0 (.loop A.zb8)))
 (sr [mv 13 3,mv 2 13]
 (.ret))))
theorem A.c135:A.F 135=some ⟨14,[.tmp 2],A.b135⟩:=by kernel_rfl
def A.k135:=@A.kk 135 _ _ _ A.c135 rfl
theorem Yf1{w:List Nat}{v:V}(hs:Tx h N v l)(hl:l.length<100000):A.C.call (.func 134 [] []) [v] ⟨h,N,w⟩=some (.int .i64 (tv l 0 l.length),⟨h,N,w⟩):=by
 apply Call.eq
 have lg:=Tx.len hs
 rw[aP,A.k134 (by simp)]
 simp[A.b134]
 refine bN [(3,16)] (fun e r st=>st=⟨h,N,[]⟩/\e=.exit 0/\r.get 3=some (.int .i64 (tv l 0 l.length))) (fun m r st=>st=⟨h,N,[]⟩/\∃k,k+m=l.length/\r.get 3=some (.int .i64 k)/\tv l 0 l.length=tv l k m) l.length ?_ ?_ ?_
 ·exact⟨rfl,0,by omega,by simp,rfl⟩
 ·rintro m r _ hr hf ⟨rfl,k,hk,h3,hz⟩
  rw[bn]
  cases m with
  |zero=>
   obtain rfl:k=l.length:=by omega
   have sY:tv l l.length 0=l.length:=rfl
   rw[sY]at hz
   simp[A.zbE,hr,hf,h3,lg]
   exact hz.symm
  |succ m=>
   have aB:k<l.length:=by omega
   have bU:(k:Int)<(l.length:Int):=by omega
   obtain⟨q,hc⟩:=bs aB
   obtain⟨i,o,cc,e,rw,q1,q2,q3,q4⟩:=hs.at (wz hc)
   have A3:=fun st=>Te (q:=q) (st:=st)
   have dP:tv l k (m+1)=if q≠0 then k else tv l (k+1) m:=by
    show (if l[k]?.getD 0≠0 then k else tv l (k+1) m)=_
    rw[hc]
    rfl
   rw[dP]at hz
   by_cases c4:q=0
   ·rw[ar (by simpa using c4)]at hz
    simp only[decide_eq_true c4]at A3
    simp(disch:=first|(simp;done)|omega|rfl) [A.zbE,hr,hf,h3,bU,lg,q1,q3,q4,A3]
    exact⟨m,by omega,k+1,by omega,by simp,hz⟩
   ·rw[aF c4]at hz
    simp only[decide_eq_false c4]at A3
    simp[A.zbE,hr,hf,h3,bU,lg,q1,q3,q4,A3,hz]
 ·rintro e r _ hr ⟨rfl,rfl,h3⟩
  simp[h3]
theorem Yq9{l:List V}:(l.map fun y=>[y]).flatten=l:=by
 induction l with
 |nil=>rfl
 |cons a t ih=>simp[ih]
structure ta (h:T O) (N R:Nat) (l:List Rat):Prop where
 lt:R<N
 get:h.get R=some (.cells (tx l) 36 true)
theorem ta.ad{h':T O}{N':Nat}(s:ta h N R l)(k:ab h N h' N'):ta h' N' R l:=⟨dZ s.lt k.le,(k.get R s.lt).trans s.get⟩
theorem ta.put{j:Nat}{q:Rat}(s:ta h N R l)(hj:j<l.length):ag (tx l) j [.str (aN q)]=tx (l.set j q)/\ta (h.set R (.cells (tx (l.set j q)) 36 true)) N R (l.set j q):=by
 refine⟨?_,s.lt,by rw[T.ah,aF rfl]⟩
 rw[xI (by rw[tl];exact hj)]
 simp[tx,strs,List.map_set]
theorem ta.ux(s:ta h N R l):pZ h N (.slice R 0 l.length none 1) l:=⟨Sl.row s.lt s.get (tl l) (fun k hk=>by cases hk),fun i hi=>by
 simp[dj]at hi
 subst hi
 exact⟨_,_,s.get⟩⟩
theorem Yau(h0:0<n)(hn:n<1000):Fn A.C 135 [.int .i64 n] h N (fun x h' n'=>∃R,x=.slice R 0 n none 1/\N<=R/\ta h' n' R ((List.range n).map fun _=>0)):=by
 intro w
 rw[aP,A.k135 (by simp)]
 simp[A.b135]
 refine bN [(3,12)] (fun e r st=>e=.exit 0/\au N st.w=[]/\ab h N st.h st.n/\∃v,r.get 3=some v/\Own 1 36 N st.h st.n v ((tx ((List.range n).map fun _=>0)).map fun y=>[y])) (fun m r st=>au N st.w=[]/\ab h N st.h st.n/\∃t v,t+m=n/\r.get 4=some (.int .i64 t)/\r.get 3=some v/\Own 1 36 N st.h st.n v ((tx ((List.range t).map fun _=>0)).map fun y=>[y])) n ?_ ?_ ?_
 ·exact⟨by simp,ab.refl,0,_,by omega,by simp,by simp,Own.nil⟩
 ·rintro m r ⟨H,n1,W⟩ hr hf ⟨hW,hK,t,v,ht,h4,h3,hO⟩
  simp only at hW hK hO
  rw[bn]
  have le:=hK.le
  cases m with
  |zero=>
   obtain rfl:t=n:=by omega
   simp[A.zb8,hr,hf,h3,h4,hW,hK]
   exact hO
  |succ m=>
   have aB:t<n:=by omega
   have bj:(t:Int)<(n:Int):=by omega
   have xU:ag [V.str []] 0 [.str [48]]=[.str [48]]:=rfl
   have kD:ab H n1 (H.set n1 (.cells [.str [48]] 36 true)) (n1+1):=ab.refl.new _
   obtain⟨v',h',w',j1,j2,j3,_,j5⟩:=pY (x:=[.str [48]]) (u:=.slice n1 0 1 (some 1) 1) (bytes:=16) (w:=W) (hO.ad kD) (by omega) (by decide) rfl (by simp[ft,St.row,aM]) (by simp[tx,strs];omega)
   have kF:ab h N h' (n1+1+1):=(hK.trans kD).then j3
   simp(disch:=first|(simp;done)|omega|rfl) [A.zb8,hr,hf,h3,h4,bj,xU,Cn,j1,j2,hW,kF]
   refine⟨m,by omega,t+1,by omega,by simp,?_⟩
   have e:(tx ((List.range (t+1)).map fun _=>(0:Rat))).map (fun y=>[y])=(tx ((List.range t).map fun _=>(0:Rat))).map (fun y=>[y])++[[.str [48]]]:=by
    rw[List.range_succ,List.map_append]
    simp[tx,strs]
    rfl
   rw[e]
   exact j5
 ·rintro _ r ⟨H,n1,W⟩ hr ⟨rfl,hW,hK,v,h3,hO⟩
  simp only at hW hK hO
  obtain⟨hl,⟨hz,_⟩|⟨R,rfl,h1,h2,h3'⟩⟩:=hO
  ·have:=congrArg List.length hz
   simp[tx,strs]at this
   omega
  ·simp[h3,aA,hW,hK]
   refine⟨R,⟨rfl,by rw[tl];simp⟩,h1,h2,?_⟩
   rw[h3',Yq9]
def lB(ps:List Nat)(n:Nat)(p:Nat->Bool):List Int:=(List.range n).map fun j=>if p j=true then ((ps.idxOf j:Nat):Int)+1 else 0
theorem IZ{p:Nat->Bool}:(lB ps n p).length=n:=by simp[lB]
theorem I1{j:Nat}{p:Nat->Bool}(h:j<n):(lB ps n p)[j]?=some (if p j=true then ((ps.idxOf j:Nat):Int)+1 else 0):=by simp[lB,h]
theorem Ykp{a:Nat}{p q:Nat->Bool}(h:∀j,j<n->q j=(p j||decide (j=a)))(ha:a<n):lB ps n q=(lB ps n p).set a (((ps.idxOf a:Nat):Int)+1):=by
 apply iW
 intro j
 by_cases hj:j<n
 ·by_cases e:j=a
  ·subst e
   rw[fy (by rw[IZ];exact hj),I1 hj,h j hj]
   simp
  ·rw[dr (Ne.symm e),I1 hj,I1 hj,h j hj]
   simp[e]
 ·rw[eG (by rw[IZ];omega),eG (by rw[q_,IZ];omega)]
theorem Ztr:Fn A.C 45 [.aa] h N (fun x h' n'=>iO h' n' x []):=by
 intro w
 have kB:∀o,ab h N (h.set N o) (N+1):=fun o=>ab.refl.new o
 rw[aP,A.k45 (by simp)]
 have ha:∀w,jQ ⟨h.set N (.cells [] 23 true),N+1,w⟩ 1 24 23 (.slice N 0 0 (some 0) 1) .aa=some (.slice N 0 0 (some 0) 1,⟨h.set N (.cells [] 23 true),N+1,w⟩):=fun w=>by
  simp[jQ,ft]
 simp[A.b45,Cn,ha]
 refine bN [(4,7),(11,106)] (fun e r st=>e=.exit 0/\st=⟨h.set N (.cells [] 23 true),N+1,[]⟩/\r.get 4=some (.int .i64 0)) (fun i r st=>st=⟨h.set N (.cells [] 23 true),N+1,[]⟩/\r.get 4=some (.int .i64 0)) 0 ?_ ?_ ?_
 ·exact⟨rfl,by simp⟩
 ·rintro i r _ hr hf ⟨rfl,h4⟩
  rw[bn]
  simp[A.zbH,hr,hf,h4]
 ·rintro _ r _ hr ⟨rfl,rfl,h4⟩
  simp[mA,cX,iP,ay,hr,h4,aA]
  exact⟨kB _,[],Sl.row (e:=23) (rw:=true) (by omega) (by simp) rfl (fun k hk=>by omega),rfl,fun j l hl=>by simp at hl⟩
end Go.Mx
