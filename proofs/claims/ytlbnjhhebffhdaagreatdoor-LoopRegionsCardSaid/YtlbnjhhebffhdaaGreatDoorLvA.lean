/-Spans that are checked-/
import Derived.Test.YtlbnjhhebffhdaaGreatDoorLpF
set_option linter.all false
set_option maxHeartbeats 4000000
namespace Go.Mx
noncomputable section
open Go Go.Proofs
variable {N:Nat} {a b:Rat} {h:T O} {hi lo:bj}
set_option maxRecDepth 1000000
def A.Nl:=A.q Tryz.f220
def A.pV:=A.ql A.Nl 0 []
def A.b220:=(fun x0=>A.qb A.Nl [x0]) A.pV
def A.k220:=@A.kk 220 18 [.tmp 2] A.b220 (by kernel_rfl) rfl
def A.b174:=A.q Tryz.f174
def A.k174:=@A.kk 174 22 [.tmp 2] A.b174 (by kernel_rfl) rfl
def A.b105:=A.q Tryz.f105
def A.k105:=@A.kk 105 15 [.tmp 2] A.b105 (by kernel_rfl) rfl
def A.b42:=A.q Tryz.f42
def A.k42:=@A.kk 42 21 [.tmp 2] A.b42 (by kernel_rfl) rfl
def A.b25:=A.q Tryz.f25
def A.k25:=@A.kk 25 13 [.tmp 2] A.b25 (by kernel_rfl) rfl
def A.b26:=A.q Tryz.f26
def A.k26:=@A.kk 26 20 [.tmp 4] A.b26 (by kernel_rfl) rfl
def Yhy{v:V}{l:List bj}(hs:Sl h N v (strs l))(hl:l.length<100000)(rA:∀s∈l,s.length<=100000):Fn A.C 220 [v] h N (fun u _ _=>u=.int .i64 (gV l)):=by
 intro w
 have hlen:=hs.len
 rw[HZ]at hlen
 unfold gV
 rw[aZ,A.k220 (by simp)]
 simp(disch:=first|(simp;done)|omega|rfl) [-getElem?_pos,A.b220,hlen]
 refine Zal [(2,2),(4,5),(8,17)] (fun e r st=>aL N st.w=[]/\ah h N st.h st.n/\((e=.exit 0/\cN (l.map (fun s=>((aV s:Nat):Int)))=0)\/(e=.ret/\r.get 2=some (.int .i64 (cN (l.map (fun s=>((aV s:Nat):Int)))))))) (fun m r st=>aL N st.w=[]/\ah h N st.h st.n/\∃k,k+m=l.length/\r.get 8=some (.int .i64 k)/\cN (l.map (fun s=>((aV s:Nat):Int)))=cN ((l.drop k).map (fun s=>((aV s:Nat):Int)))) l.length ?_ ?_ ?_
 ·exact⟨by simp,ah.refl,0,by omega,by simp,by simp⟩
 ·rintro m r ⟨H,n1,W⟩ hr ik ⟨hW,hK,k,hk,h7,hz⟩
  simp only at hW hK
  rw[cn]
  cases m with
  |zero=>
   obtain rfl:k=l.length:=by omega
   rw[xD,tV,cN]at hz
   simp(disch:=first|(simp;done)|omega|rfl) [-getElem?_pos,A.pV,hr,ik,h7,hz,hW,hK]
  |succ m=>
   have aW:k<l.length:=by omega
   obtain⟨s,hc⟩:=eQ aW
   obtain⟨i,o,cc,e,rw,q1,q2,q3,q4⟩:=(hs.ai hK).at (KR hc)
   rw[rV hc,Yw1,cN]at hz
   have hk1:(k:Int)<(l.length:Int):=by omega
   simp(disch:=first|(simp;done)|omega|rfl) [-getElem?_pos,A.pV,hr,ik,h7,hk1,aW,hlen,q1,q2,q3,q4]
   refine av (Zrc (rA s (eI hc))) ?_
   rintro _ h3 n3 k3 rfl
   have kk:=hK.trans k3
   by_cases h0:aV s=0
   ·rw[aR (by omega)]at hz
    simp(disch:=first|(simp;done)|omega|rfl) [-getElem?_pos,hr,ik,h7,h0,hW,a_]
    exact⟨m,by omega,kk,k+1,by omega,by simp,by simpa using hz⟩
   ·rw[aA (by omega)]at hz
    simp(disch:=first|(simp;done)|omega|rfl) [-getElem?_pos,hr,ik,h7,h0,hW,a_,hz]
    exact kk
 ·rintro _ r ⟨H,n1,W⟩ hr ⟨hW,hK,⟨rfl,hz⟩|⟨rfl,h2⟩⟩
  ·simp only at hW hK
   simp(disch:=first|(simp;done)|omega|rfl) [-getElem?_pos,hr,hz,Ret,hW,hK]
  ·simp only at hW hK
   simp(disch:=first|(simp;done)|omega|rfl) [-getElem?_pos,hr,h2,Ret,hW,hK]
def lS(lo hi:bj):Int:=if gV [lo,hi]=0 then (if aY hi<aY lo then 11 else 0) else gV [lo,hi]
def nY(lo hi:bj):Int:=if lS lo hi=0 then (if aY lo<0 then 3 else 0) else lS lo hi
def Ye7:sg3 (a.num*(b.den:Nat)-b.num*(a.den:Nat))<0↔a<b:=by
 rw[Rat.lt_iff]
 unfold sg3
 split
 ·constructor<;>intro h<;>omega
 ·split<;>constructor<;>intro h<;>omega
def Sg:0<sg3 (a.num*(b.den:Nat)-b.num*(a.den:Nat))↔b<a:=by
 rw[Rat.lt_iff]
 unfold sg3
 split
 ·constructor<;>intro h<;>omega
 ·split<;>constructor<;>intro h<;>omega
def KV{a b:Rat}:sg3 (a-b).num<0↔a<b:=by
 rw[wL]
 constructor<;>intro h<;>grind
def Ycb:0<sg3 (a-b).num↔b<a:=by
 have e:b<a↔0<a-b:=by constructor<;>intro h<;>grind
 have e2:0<a-b↔0<(a-b).num:=by rw[Rat.lt_iff];simp
 rw[e,e2]
 unfold sg3
 split
 ·constructor<;>intro h<;>omega
 ·split<;>constructor<;>intro h<;>omega
def Sh{a b:bj}(h:gV [a,b]=0):aV a=0/\aV b=0:=⟨Nh h a (by simp),Nh h b (by simp)⟩
def Yhw{n:Nat}(l1:lo.length<=n)(l2:hi.length<=n)(hn:n<=20000):Fn A.C 174 [.agg [.str lo,.str hi]] h N (fun u _ _=>u=.int .i64 (lS lo hi)):=by
 intro w
 have kB:ah h N (h.set N (.cells [.str lo,.str hi] 32 true)) (N+1):=ah.refl.new _
 have b0:(h.set N (.cells [.str lo,.str hi] 32 true)).get N=some (.cells [.str lo,.str hi] 32 true):=by simp
 rw[aZ,A.k174 (by simp)]
 simp(disch:=first|(simp;done)|omega|rfl) [-getElem?_pos,A.b174,aj]
 generalize h.set N (.cells [.str lo,.str hi] 32 true)=HB at*
 have kC:ah HB (N+1) (HB.set (N+1) (.cells [.str lo,.str hi] 30 true)) (N+1+1):=ah.refl.new _
 have s0:Sl (HB.set (N+1) (.cells [.str lo,.str hi] 30 true)) (N+1+1) (.slice (N+1) 0 2 (some 2) 1) (strs [lo,hi]):=Sl.row (e:=30) (rw:=true) (cp:=some 2) (by omega) (by simp[strs]) rfl (by simp)
 refine av (Yhy s0 (by simp) (fun s hs=>by
  simp at hs
  rcases hs with rfl|rfl<;>omega)) ?_
 rintro _ h1 n1 k1 rfl
 have K1:=kC.trans k1
 have b1:=(K1.get N (by omega)).trans b0
 have lN:N<n1:=by have:=k1.le;omega
 by_cases c:gV [lo,hi]=0
 ·obtain⟨c1,c2⟩:=Sh c
  have q1:=yB c1 l1
  have q2:=yB c2 l2
  have e1:=(kr c1).1
  have e2:=(kr c2).1
  have es:lS lo hi=if aY hi<aY lo then 11 else 0:=by rw[lS,aR c]
  rw[c,es]
  generalize aY lo=a at*
  generalize aY hi=b at*
  subst e1 e2
  simp(disch:=first|(simp;done)|omega|rfl) [-getElem?_pos,a_,b1,lN]
  refine av (AB q1 (by omega)) ?_
  rintro v2 h2 n2 k2 ix
  have b2:=(k2.get N lN).trans b1
  have lN2:N<n2:=by have:=k2.le;omega
  simp(disch:=first|(simp;done)|omega|rfl) [-getElem?_pos,b2,lN2]
  refine av (AB q2 (by omega)) ?_
  rintro v3 h3 n3 k3 Da
  have w1:=q1.eX
  have w2:=q2.eX
  simp(disch:=first|(simp;done)|omega|rfl) [-getElem?_pos,]
  refine av (KW (ix.ai k3) Da (by omega) (by omega) (by omega) (by omega)) ?_
  rintro _ h4 n4 k4 rfl
  have K4:=((kB.trans K1).trans k2).trans (k3.trans k4)
  by_cases hz:b<a
  ·have s1:=Sg.2 hz
   simp(disch:=first|(simp;done)|omega|rfl) [-getElem?_pos,s1,hz,yE,Ret]
   exact K4
  ·have s1:¬0<sg3 (a.num*(b.den:Nat)-b.num*(a.den:Nat)):=fun h=>hz (Sg.1 h)
   simp(disch:=first|(simp;done)|omega|rfl) [-getElem?_pos,s1,hz,yE,Ret]
   exact K4
 ·have es:lS lo hi=gV [lo,hi]:=by rw[lS,aA c]
  rw[es]
  simp(disch:=first|(simp;done)|omega|rfl) [-getElem?_pos,c,a_,Ret]
  exact kB.trans K1
def Zwy(l1:lo.length<=20000)(l2:hi.length<=20000):Fn A.C 42 [.agg [.str lo,.str hi]] h N (fun u _ _=>u=.int .i64 (lS lo hi)):=by
 intro w
 have kB:ah h N (h.set N (.cells [.str lo,.str hi] 32 true)) (N+1):=ah.refl.new _
 have b0:(h.set N (.cells [.str lo,.str hi] 32 true)).get N=some (.cells [.str lo,.str hi] 32 true):=by simp
 rw[aZ,A.k42 (by simp)]
 simp(disch:=first|(simp;done)|omega|rfl) [-getElem?_pos,A.b42,aj]
 generalize h.set N (.cells [.str lo,.str hi] 32 true)=HB at*
 have kC:ah HB (N+1) (HB.set (N+1) (.cells [.str lo,.str hi] 30 true)) (N+1+1):=ah.refl.new _
 have s0:Sl (HB.set (N+1) (.cells [.str lo,.str hi] 30 true)) (N+1+1) (.slice (N+1) 0 2 (some 2) 1) (strs [lo,hi]):=Sl.row (e:=30) (rw:=true) (cp:=some 2) (by omega) (by simp[strs]) rfl (by simp)
 refine av (Zx7 s0 (by simp) (fun s hs=>by
  simp at hs
  rcases hs with rfl|rfl<;>omega)) ?_
 rintro _ h1 n1 k1 rfl
 rw[show cN ([lo,hi].map fun s=>((aV s:Nat):Int))=gV [lo,hi] from rfl]
 have K1:=kC.trans k1
 have b1:=(K1.get N (by omega)).trans b0
 have lN:N<n1:=by have:=k1.le;omega
 by_cases c:gV [lo,hi]=0
 ·obtain⟨c1,c2⟩:=Sh c
  have q1:=yB c1 l1
  have q2:=yB c2 l2
  have e1:=(kr c1).1
  have e2:=(kr c2).1
  have es:lS lo hi=if aY hi<aY lo then 11 else 0:=by rw[lS,aR c]
  rw[c,es]
  generalize aY lo=a at*
  generalize aY hi=b at*
  subst e1 e2
  simp(disch:=first|(simp;done)|omega|rfl) [-getElem?_pos,a_,b1,lN]
  refine av (KX q1 q2 (by omega) (by omega) (by omega)) ?_
  rintro _ h4 n4 k4 rfl
  have K4:=(kB.trans K1).trans k4
  by_cases hz:b<a
  ·have s1:=Ycb.2 hz
   simp(disch:=first|(simp;done)|omega|rfl) [-getElem?_pos,s1,hz,Ret]
   exact K4
  ·have s1:¬0<sg3 (a-b).num:=fun h=>hz (Ycb.1 h)
   simp(disch:=first|(simp;done)|omega|rfl) [-getElem?_pos,s1,hz,Ret]
   exact K4
 ·have es:lS lo hi=gV [lo,hi]:=by rw[lS,aA c]
  rw[es]
  simp(disch:=first|(simp;done)|omega|rfl) [-getElem?_pos,c,a_,Ret]
  exact kB.trans K1
def Yc3{n:Nat}(l1:lo.length<=n)(l2:hi.length<=n)(hn:n<=20000):Fn A.C 105 [.agg [.str lo,.str hi]] h N (fun u _ _=>u=.int .i64 (nY lo hi)):=by
 intro w
 have kB:ah h N (h.set N (.cells [.str lo,.str hi] 32 true)) (N+1):=ah.refl.new _
 have b0:(h.set N (.cells [.str lo,.str hi] 32 true)).get N=some (.cells [.str lo,.str hi] 32 true):=by simp
 rw[aZ,A.k105 (by simp)]
 simp(disch:=first|(simp;done)|omega|rfl) [-getElem?_pos,A.b105,aI,aK]
 generalize h.set N (.cells [.str lo,.str hi] 32 true)=HB at*
 refine av (Yhw l1 l2 hn) ?_
 rintro _ h1 n1 k1 rfl
 have b1:=(k1.get N (by omega)).trans b0
 have lN:N<n1:=by have:=k1.le;omega
 have K1:=kB.trans k1
 by_cases c:lS lo hi=0
 ·have c0:gV [lo,hi]=0:=by
   by_cases z:gV [lo,hi]=0
   ·exact z
   ·rw[lS,aA z]at c;exact c
  obtain⟨c1,_⟩:=Sh c0
  have q1:=yB c1 l1
  have e1:=(kr c1).1
  have es:nY lo hi=if aY lo<0 then 3 else 0:=by rw[nY,aR c]
  rw[c,es]
  clear c c0
  generalize aY lo=a at*
  subst e1
  simp(disch:=first|(simp;done)|omega|rfl) [-getElem?_pos,a_,b1,lN]
  refine av (AB q1 (by omega)) ?_
  rintro v2 h2 n2 k2 ix
  simp(disch:=first|(simp;done)|omega|rfl) [-getElem?_pos,]
  refine av (Nm ix) ?_
  rintro _ h3 n3 k3 rfl
  have K3:=(K1.trans k2).trans k3
  by_cases hz:a<0
  ·have:=wL.2 hz
   simp(disch:=first|(simp;done)|omega|rfl) [-getElem?_pos,this,wM,hz,Ret]
   exact K3
  ·have:¬sg3 a.num<0:=fun hc=>hz (wL.1 hc)
   simp(disch:=first|(simp;done)|omega|rfl) [-getElem?_pos,this,wM,hz,Ret]
   exact K3
 ·have es:nY lo hi=lS lo hi:=by rw[nY,aA c]
  rw[es]
  simp(disch:=first|(simp;done)|omega|rfl) [-getElem?_pos,c,a_,Ret]
  exact K1
def Ycp(l1:lo.length<=20000)(l2:hi.length<=20000):Fn A.C 25 [.agg [.str lo,.str hi]] h N (fun u _ _=>u=.int .i64 (nY lo hi)):=by
 intro w
 have kB:ah h N (h.set N (.cells [.str lo,.str hi] 32 true)) (N+1):=ah.refl.new _
 have b0:(h.set N (.cells [.str lo,.str hi] 32 true)).get N=some (.cells [.str lo,.str hi] 32 true):=by simp
 rw[aZ,A.k25 (by simp)]
 simp(disch:=first|(simp;done)|omega|rfl) [-getElem?_pos,A.b25,aI,aK]
 generalize h.set N (.cells [.str lo,.str hi] 32 true)=HB at*
 refine av (Zwy l1 l2) ?_
 rintro _ h1 n1 k1 rfl
 have b1:=(k1.get N (by omega)).trans b0
 have lN:N<n1:=by have:=k1.le;omega
 have K1:=kB.trans k1
 by_cases c:lS lo hi=0
 ·have c0:gV [lo,hi]=0:=by
   by_cases z:gV [lo,hi]=0
   ·exact z
   ·rw[lS,aA z]at c;exact c
  obtain⟨c1,_⟩:=Sh c0
  have e1:=(kr c1).1
  have es:nY lo hi=if aY lo<0 then 3 else 0:=by rw[nY,aR c]
  rw[c,es]
  clear c c0
  generalize aY lo=a at*
  subst e1
  have hs:=fun st=>HY (q:=a) (st:=st)
  by_cases hz:a<0
  ·have:=wL.2 hz
   simp(disch:=first|(simp;done)|omega|rfl) [-getElem?_pos,a_,b1,lN,hs,this,hz,Ret]
   exact K1
  ·have:¬sg3 a.num<0:=fun hc=>hz (wL.1 hc)
   simp(disch:=first|(simp;done)|omega|rfl) [-getElem?_pos,a_,b1,lN,hs,this,hz,Ret]
   exact K1
 ·have es:nY lo hi=lS lo hi:=by rw[nY,aA c]
  rw[es]
  simp(disch:=first|(simp;done)|omega|rfl) [-getElem?_pos,c,a_,Ret]
  exact K1
def BF(lo hi:bj)(d:Nat):Bool:=pU lo d&&(pU hi d&&decide (lS lo hi=0))
def Yar{h:T O}{N d:Nat}{lo hi:bj}(l1:lo.length<=20000)(l2:hi.length<=20000)(hd:d<=100):Fn A.C 26 [.agg [.str lo,.str hi],.int .i64 (d:Nat)] h N (fun u _ _=>u=.bool (BF lo hi d)):=by
 intro w
 have kB:ah h N (h.set N (.cells [.str lo,.str hi] 32 true)) (N+1):=ah.refl.new _
 have b0:(h.set N (.cells [.str lo,.str hi] 32 true)).get N=some (.cells [.str lo,.str hi] 32 true):=by simp
 rw[aZ,A.k26 (by simp)]
 simp(disch:=first|(simp;done)|omega|rfl) [-getElem?_pos,A.b26,aI,aK]
 generalize h.set N (.cells [.str lo,.str hi] 32 true)=HB at*
 refine av (Yfd (s:=lo) hd) ?_
 rintro _ h1 n1 k1 rfl
 have b1:=(k1.get N (by omega)).trans b0
 have lN:N<n1:=by have:=k1.le;omega
 have K1:=kB.trans k1
 cases c1:pU lo d with
 |false=>
  simp(disch:=first|(simp;done)|omega|rfl) [-getElem?_pos,BF,c1,Ret]
  exact K1
 |true=>
  simp(disch:=first|(simp;done)|omega|rfl) [-getElem?_pos,b1,lN]
  refine av (Yfd (s:=hi) hd) ?_
  rintro _ h2 n2 k2 rfl
  have b2:=(k2.get N lN).trans b1
  have lN2:N<n2:=by have:=k2.le;omega
  have K2:=K1.trans k2
  cases c2:pU hi d with
  |false=>
   simp(disch:=first|(simp;done)|omega|rfl) [-getElem?_pos,BF,c1,c2,Ret]
   exact K2
  |true=>
   simp(disch:=first|(simp;done)|omega|rfl) [-getElem?_pos,b2,lN2,aI,aK]
   refine av (Zwy l1 l2) ?_
   rintro _ h3 n3 k3 rfl
   have K3:=K2.trans k3
   by_cases c3:lS lo hi=0
   ·simp(disch:=first|(simp;done)|omega|rfl) [-getElem?_pos,BF,c1,c2,c3,a_,Ret]
    exact K3
   ·simp(disch:=first|(simp;done)|omega|rfl) [-getElem?_pos,BF,c1,c2,c3,a_,Ret]
    exact K3
variable {K:Nat} {l:List Rat}
def A.pW:cC:=.seq (sr [mv 14 6,mv 15 0,ln 16 15,bi 17 .lss 14 16]
 (cd 17
 (.skip)
 (.exit 0)))
 (.seq (.block 1 (.seq (.eY [mv 20 1,mv 21 0,mv 22 6,ia 23 4 21 22,lN 24 4 23,lN 25 4 5,ge 26 (.call (tq 20) [tq 24,tq 25]),bc 27 .lss 26 0] [0,0,0,6,14,0,63,127])
 (cd 27
 (.fk [mv 28 0,mv 29 6,ia 30 4 28 29,lN 31 4 30,gn (.store 4 (tq 5) (tq 31))])
 (.skip))))
 (.fk [mv 18 6,bc 19 .add 18 1,mv 6 19]))
def A.b178:cC:=sr [ge 4 (.alloc [.int .i64 0,.ziA,.int .i64 0,.ziA] 102)]
 (.seq (sr [mv 7 0,ln 8 7,bc 9 .lss 8 1]
 (cd 9
 (.fk [ge 10 (.fm 9 (.const (.str [115,108,105,99,101,115,46,77,105,110,70,117,110,99,58,32,101,109,112,116,121,32,108,105,115,116]))),gn (.stop)])
 (.skip)))
 (sr [mv 11 0,ge 12 (.ft 4 (tq 11) (kq 0)),lN 13 4 12,ge 5 (.alloc [.int .i64 0,.ziA,.int .i64 0,.ziA] 102),gn (.store 4 (tq 5) (tq 13))]
 (.seq (sr [mc 6 1]
 (.block 0 (.loop A.pW)))
 (sr [lN 32 4 5,gn (.store 4 (tq 4) (tq 32))]
 (.ret)))))
def A.k178:=@A.kk 178 33 [.cell 4 (some 4)] A.b178 (by kernel_rfl) rfl
def A.pX:cC:=.seq (sr [mv 14 6,mv 15 0,ln 16 15,bi 17 .lss 14 16]
 (cd 17
 (.skip)
 (.exit 0)))
 (.seq (.block 1 (.seq (.eY [mv 20 1,mv 21 0,mv 22 6,ia 23 4 21 22,lN 24 4 23,lN 25 4 5,ge 26 (.call (tq 20) [tq 24,tq 25]),bc 27 .gtr 26 0] [0,0,0,6,14,0,63,127])
 (cd 27
 (.fk [mv 28 0,mv 29 6,ia 30 4 28 29,lN 31 4 30,gn (.store 4 (tq 5) (tq 31))])
 (.skip))))
 (.fk [mv 18 6,bc 19 .add 18 1,mv 6 19]))
def A.b177:cC:=sr [ge 4 (.alloc [.int .i64 0,.ziA,.int .i64 0,.ziA] 102)]
 (.seq (sr [mv 7 0,ln 8 7,bc 9 .lss 8 1]
 (cd 9
 (.fk [ge 10 (.fm 9 (.const (.str [115,108,105,99,101,115,46,77,97,120,70,117,110,99,58,32,101,109,112,116,121,32,108,105,115,116]))),gn (.stop)])
 (.skip)))
 (sr [mv 11 0,ge 12 (.ft 4 (tq 11) (kq 0)),lN 13 4 12,ge 5 (.alloc [.int .i64 0,.ziA,.int .i64 0,.ziA] 102),gn (.store 4 (tq 5) (tq 13))]
 (.seq (sr [mc 6 1]
 (.block 0 (.loop A.pX)))
 (sr [lN 32 4 5,gn (.store 4 (tq 4) (tq 32))]
 (.ret)))))
def A.k177:=@A.kk 177 33 [.cell 4 (some 4)] A.b177 (by kernel_rfl) rfl
def mX(l:List Rat):Nat->Rat
 |0=>pg l 0
 |k+1=>if pg l (k+1)<mX l k then pg l (k+1) else mX l k
def pY(l:List Rat):Nat->Rat
 |0=>pg l 0
 |k+1=>if pY l k<pg l (k+1) then pg l (k+1) else pY l k
def Si{l:List Rat}{K:Nat}(bl:∀y∈l,Qb K y):∀{k:Nat},k<l.length->Qb K (mX l k)
 |0,h=>bl _ (eI (iy h))
 |k+1,h=>by
  unfold mX
  split
  ·exact bl _ (eI (iy h))
  ·exact Si bl (by omega)
def Sj{l:List Rat}{K:Nat}(bl:∀y∈l,Qb K y):∀{k:Nat},k<l.length->Qb K (pY l k)
 |0,h=>bl _ (eI (iy h))
 |k+1,h=>by
  unfold pY
  split
  ·exact bl _ (eI (iy h))
  ·exact Sj bl (by omega)
def Yd7{h:T O}{N:Nat}{v:V}(hs:mV h N v l)(h0:0<l.length)(bl:∀y∈l,Qb K y)(hl:l.length<1000)(hK:K<=100000000):Fn A.C 178 [v,.func 73 [] []] h N (fun x h' n'=>Fc h' n' x (mX l (l.length-1))):=by
 intro w
 have lO:∀c:List V,(V.agg c).cells=c:=fun _=>rfl
 have e0:zF=[V.int .i64 0,.ziA,.int .i64 0,.ziA]:=rfl
 have lv:=hs.len
 have c1:¬(l.length:Int)<1:=by omega
 have c2:(0:Int)<(l.length:Int):=by omega
 obtain⟨i0,o0,y0,z0,q0,cx,b1,b2,b3,b4,b5⟩:=hs.at (iy (p:=l) (i:=0) h0)
 rw[Nat.zero_mul,mY]at b4
 obtain⟨f1,f2⟩:=b5.len
 have ex:=BD (d:=zF) f1 rfl
 rw[e0]at ex
 have kB:ah h N (((h.set N (.cells [.int .i64 0,.ziA,.int .i64 0,.ziA] 102 true)).set (N+1) (.cells [.int .i64 0,.ziA,.int .i64 0,.ziA] 102 true)).set (N+1) (.cells cx 102 true)) (N+1+1):=((ah.refl.new _).new _).set (by omega)
 have gR:(((h.set N (.cells [.int .i64 0,.ziA,.int .i64 0,.ziA] 102 true)).set (N+1) (.cells [.int .i64 0,.ziA,.int .i64 0,.ziA] 102 true)).set (N+1) (.cells cx 102 true)).get N=some (.cells [.int .i64 0,.ziA,.int .i64 0,.ziA] 102 true):=by simp
 have gM:(((h.set N (.cells [.int .i64 0,.ziA,.int .i64 0,.ziA] 102 true)).set (N+1) (.cells [.int .i64 0,.ziA,.int .i64 0,.ziA] 102 true)).set (N+1) (.cells cx 102 true)).get (N+1)=some (.cells cx 102 true):=by simp
 have ne0:¬i0=N:=by omega
 rw[aZ,A.k178 (by simp)]
 simp(disch:=first|(simp;done)|omega|rfl) [-getElem?_pos, -V.cells, -V.one,A.b178,lv,c1,c2,h0,ne0,b1,b2,b3,b4,lO,f1,f2,bM,ex]
 generalize ((h.set N (.cells [.int .i64 0,.ziA,.int .i64 0,.ziA] 102 true)).set (N+1) (.cells [.int .i64 0,.ziA,.int .i64 0,.ziA] 102 true)).set (N+1) (.cells cx 102 true)=H2 at*
 refine Zal [(6,6),(14,31)] (fun e r st=>e=.exit 0/\aL N st.w=[]/\ah h N st.h st.n/\N+1<st.n/\st.h.get N=some (.cells [.int .i64 0,.ziA,.int .i64 0,.ziA] 102 true)/\∃cs,st.h.get (N+1)=some (.cells cs 102 true)/\fz st.h st.n cs (mX l (l.length-1))) (fun m r st=>aL N st.w=[]/\ah h N st.h st.n/\N+1<st.n/\st.h.get N=some (.cells [.int .i64 0,.ziA,.int .i64 0,.ziA] 102 true)/\∃t,t+1+m=l.length/\r.get 6=some (.int .i64 ((t:Int)+1))/\∃cs,st.h.get (N+1)=some (.cells cs 102 true)/\fz st.h st.n cs (mX l t)) (l.length-1) ?_ ?_ ?_
 ·exact⟨KY fun i hi=>by simp at hi;omega,kB,by show N+1<N+1+1;omega,gR,0,by omega,by simp,cx,gM,b5.ai kB⟩
 ·rintro m r ⟨H,n2,W⟩ hr hf ⟨hW,k_,hn,gN,t,ht,h6,cs,gs,fs⟩
  simp only at hW k_ hn gN gs fs
  rw[cn]
  cases m with
  |zero=>
   have e1:l.length-1=t:=by omega
   have c3:¬(t:Int)+1<(l.length:Int):=by omega
   rw[e1]
   simp(disch:=first|(simp;done)|omega|rfl) [-getElem?_pos,A.pW,hr,hf,h6,lv,c3,hW,k_,hn,gN,gs]
   exact fs
  |succ m=>
   have aW:t+1<l.length:=by omega
   have zij:(t:Int)+1<(l.length:Int):=by omega
   have jS:(0:Int)<=(t:Int)+1:=by omega
   have BG:((t:Int)+1).toNat=t+1:=by omega
   obtain⟨i0,o0,y0,z0,q0,cx,b1,b2,b3,b4,b5⟩:=(hs.ai k_).at (iy (p:=l) (i:=t+1) aW)
   obtain⟨f1,f2⟩:=b5.len
   obtain⟨u1,u2⟩:=fs.len
   have ss:=Ia u1
   have bq:=bl _ (eI (iy (p:=l) (i:=t+1) aW))
   have bm:=Si bl (k:=t) (by omega)
   have w1:=bq.eX
   have w2:=bm.eX
   simp(disch:=first|(simp;done)|omega|rfl) [-getElem?_pos, -V.cells, -V.one,A.pW,hr,hf,h6,aW,zij,jS,BG,lv,b1,b2,b3,b4,lO,f1,f2,aI,gs,hn,ss]
   refine av (KW b5.fc fs.fc (by omega) (by omega) (by omega) (by omega)) ?_
   rintro _ h3 n3 k3 rfl
   have KU:=k3.le
   have Ih:=(k3.get (N+1) hn).trans gs
   have BH:=(k3.get N (by omega)).trans gN
   have b3':=(k3.get i0 b2).trans b3
   have b2':i0<n3:=by omega
   have K3:=k_.trans k3
   have l4:N+1<n3:=by omega
   have l5:4<=cs.length:=by omega
   have e5:=BD (d:=cs) f1 u1
   have nuS:=fs.Sk
   have nN:¬N+1<N:=by omega
   have nN2:¬N=N+1:=by omega
   by_cases hc:pg l (t+1)<mX l t
   ·have ef:mX l (t+1)=pg l (t+1):=by rw[mX,aR hc]
    have s1:=Ye7.2 hc
    simp(disch:=first|(simp;done)|omega|rfl) [-getElem?_pos, -V.cells, -V.one,hr,hf,h6,s1,aW,zij,jS,BG,lv,b1,b2',b3',b4,lO,f1,f2,bM,Ih,l4,e5,l5]
    exact⟨m,by omega,hW,K3.set (by omega),BH,t+1,by omega,by simp,by rw[ef];exact(b5.ai k3).ay Ih nuS (by omega)⟩
   ·have ef:mX l (t+1)=mX l t:=by rw[mX,aA hc]
    have s1:=mt Ye7.1 hc
    simp(disch:=first|(simp;done)|omega|rfl) [-getElem?_pos, -V.cells, -V.one,hr,hf,h6,s1]
    exact⟨m,by omega,hW,K3,by omega,BH,t+1,by omega,by simp,cs,Ih,by rw[ef];exact fs.ai k3⟩
 ·rintro _ r ⟨H,n2,W⟩ hr ⟨rfl,hW,k_,hn,gN,cs,gs,fs⟩
  simp only at hW k_ hn gN gs fs
  obtain⟨u1,u2⟩:=fs.len
  have e5:=BD (d:=zF) u1 rfl
  rw[e0]at e5
  have ss:=Ia u1
  have lN:N<n2:=by omega
  simp(disch:=first|(simp;done)|omega|rfl) [-getElem?_pos, -V.cells, -V.one,hr,gs,hn,aI,ss,lO,u1,u2,bM,gN,lN,e5,Ret]
  exact⟨hW,k_.set (Yv5 _),(fs.ay gN (by intro x hx m;simp at hx;rcases hx with rfl|rfl|rfl|rfl<;>simp) (by simp[u1])).up⟩
def Yeb{h:T O}{N:Nat}{v:V}(hs:mV h N v l)(h0:0<l.length)(bl:∀y∈l,Qb K y)(hl:l.length<1000)(hK:K<=100000000):Fn A.C 177 [v,.func 73 [] []] h N (fun x h' n'=>Fc h' n' x (pY l (l.length-1))):=by
 intro w
 have lO:∀c:List V,(V.agg c).cells=c:=fun _=>rfl
 have e0:zF=[V.int .i64 0,.ziA,.int .i64 0,.ziA]:=rfl
 have lv:=hs.len
 have c1:¬(l.length:Int)<1:=by omega
 have c2:(0:Int)<(l.length:Int):=by omega
 obtain⟨i0,o0,y0,z0,q0,cx,b1,b2,b3,b4,b5⟩:=hs.at (iy (p:=l) (i:=0) h0)
 rw[Nat.zero_mul,mY]at b4
 obtain⟨f1,f2⟩:=b5.len
 have ex:=BD (d:=zF) f1 rfl
 rw[e0]at ex
 have kB:ah h N (((h.set N (.cells [.int .i64 0,.ziA,.int .i64 0,.ziA] 102 true)).set (N+1) (.cells [.int .i64 0,.ziA,.int .i64 0,.ziA] 102 true)).set (N+1) (.cells cx 102 true)) (N+1+1):=((ah.refl.new _).new _).set (by omega)
 have gR:(((h.set N (.cells [.int .i64 0,.ziA,.int .i64 0,.ziA] 102 true)).set (N+1) (.cells [.int .i64 0,.ziA,.int .i64 0,.ziA] 102 true)).set (N+1) (.cells cx 102 true)).get N=some (.cells [.int .i64 0,.ziA,.int .i64 0,.ziA] 102 true):=by simp
 have gM:(((h.set N (.cells [.int .i64 0,.ziA,.int .i64 0,.ziA] 102 true)).set (N+1) (.cells [.int .i64 0,.ziA,.int .i64 0,.ziA] 102 true)).set (N+1) (.cells cx 102 true)).get (N+1)=some (.cells cx 102 true):=by simp
 have ne0:¬i0=N:=by omega
 rw[aZ,A.k177 (by simp)]
 simp(disch:=first|(simp;done)|omega|rfl) [-getElem?_pos, -V.cells, -V.one,A.b177,lv,c1,c2,h0,ne0,b1,b2,b3,b4,lO,f1,f2,bM,ex]
 generalize ((h.set N (.cells [.int .i64 0,.ziA,.int .i64 0,.ziA] 102 true)).set (N+1) (.cells [.int .i64 0,.ziA,.int .i64 0,.ziA] 102 true)).set (N+1) (.cells cx 102 true)=H2 at*
 refine Zal [(6,6),(14,31)] (fun e r st=>e=.exit 0/\aL N st.w=[]/\ah h N st.h st.n/\N+1<st.n/\st.h.get N=some (.cells [.int .i64 0,.ziA,.int .i64 0,.ziA] 102 true)/\∃cs,st.h.get (N+1)=some (.cells cs 102 true)/\fz st.h st.n cs (pY l (l.length-1))) (fun m r st=>aL N st.w=[]/\ah h N st.h st.n/\N+1<st.n/\st.h.get N=some (.cells [.int .i64 0,.ziA,.int .i64 0,.ziA] 102 true)/\∃t,t+1+m=l.length/\r.get 6=some (.int .i64 ((t:Int)+1))/\∃cs,st.h.get (N+1)=some (.cells cs 102 true)/\fz st.h st.n cs (pY l t)) (l.length-1) ?_ ?_ ?_
 ·exact⟨KY fun i hi=>by simp at hi;omega,kB,by show N+1<N+1+1;omega,gR,0,by omega,by simp,cx,gM,b5.ai kB⟩
 ·rintro m r ⟨H,n2,W⟩ hr hf ⟨hW,k_,hn,gN,t,ht,h6,cs,gs,fs⟩
  simp only at hW k_ hn gN gs fs
  rw[cn]
  cases m with
  |zero=>
   have e1:l.length-1=t:=by omega
   have c3:¬(t:Int)+1<(l.length:Int):=by omega
   rw[e1]
   simp(disch:=first|(simp;done)|omega|rfl) [-getElem?_pos,A.pX,hr,hf,h6,lv,c3,hW,k_,hn,gN,gs]
   exact fs
  |succ m=>
   have aW:t+1<l.length:=by omega
   have zij:(t:Int)+1<(l.length:Int):=by omega
   have jS:(0:Int)<=(t:Int)+1:=by omega
   have BG:((t:Int)+1).toNat=t+1:=by omega
   obtain⟨i0,o0,y0,z0,q0,cx,b1,b2,b3,b4,b5⟩:=(hs.ai k_).at (iy (p:=l) (i:=t+1) aW)
   obtain⟨f1,f2⟩:=b5.len
   obtain⟨u1,u2⟩:=fs.len
   have ss:=Ia u1
   have bq:=bl _ (eI (iy (p:=l) (i:=t+1) aW))
   have bm:=Sj bl (k:=t) (by omega)
   have w1:=bq.eX
   have w2:=bm.eX
   simp(disch:=first|(simp;done)|omega|rfl) [-getElem?_pos, -V.cells, -V.one,A.pX,hr,hf,h6,aW,zij,jS,BG,lv,b1,b2,b3,b4,lO,f1,f2,aI,gs,hn,ss]
   refine av (KW b5.fc fs.fc (by omega) (by omega) (by omega) (by omega)) ?_
   rintro _ h3 n3 k3 rfl
   have KU:=k3.le
   have Ih:=(k3.get (N+1) hn).trans gs
   have BH:=(k3.get N (by omega)).trans gN
   have b3':=(k3.get i0 b2).trans b3
   have b2':i0<n3:=by omega
   have K3:=k_.trans k3
   have l4:N+1<n3:=by omega
   have l5:4<=cs.length:=by omega
   have e5:=BD (d:=cs) f1 u1
   have nuS:=fs.Sk
   have nN:¬N+1<N:=by omega
   have nN2:¬N=N+1:=by omega
   by_cases hc:pY l t<pg l (t+1)
   ·have ef:pY l (t+1)=pg l (t+1):=by rw[pY,aR hc]
    have s1:=Sg.2 hc
    simp(disch:=first|(simp;done)|omega|rfl) [-getElem?_pos, -V.cells, -V.one,hr,hf,h6,s1,aW,zij,jS,BG,lv,b1,b2',b3',b4,lO,f1,f2,bM,Ih,l4,e5,l5]
    exact⟨m,by omega,hW,K3.set (by omega),BH,t+1,by omega,by simp,by rw[ef];exact(b5.ai k3).ay Ih nuS (by omega)⟩
   ·have ef:pY l (t+1)=pY l t:=by rw[pY,aA hc]
    have s1:=mt Sg.1 hc
    simp(disch:=first|(simp;done)|omega|rfl) [-getElem?_pos, -V.cells, -V.one,hr,hf,h6,s1]
    exact⟨m,by omega,hW,K3,by omega,BH,t+1,by omega,by simp,cs,Ih,by rw[ef];exact fs.ai k3⟩
 ·rintro _ r ⟨H,n2,W⟩ hr ⟨rfl,hW,k_,hn,gN,cs,gs,fs⟩
  simp only at hW k_ hn gN gs fs
  obtain⟨u1,u2⟩:=fs.len
  have e5:=BD (d:=zF) u1 rfl
  rw[e0]at e5
  have ss:=Ia u1
  have lN:N<n2:=by omega
  simp(disch:=first|(simp;done)|omega|rfl) [-getElem?_pos, -V.cells, -V.one,hr,gs,hn,aI,ss,lO,u1,u2,bM,gN,lN,e5,Ret]
  exact⟨hW,k_.set (Yv5 _),(fs.ay gN (by intro x hx m;simp at hx;rcases hx with rfl|rfl|rfl|rfl<;>simp) (by simp[u1])).up⟩
variable {N:Nat} {a b:Rat} {h:T O} {x:V}
def A.b107:=A.q Tryz.f107
def A.k107:=@A.kk 107 6 [.cell 2 (some 8)] A.b107 (by kernel_rfl) rfl
def A.b108:=A.q Tryz.f108
def A.k108:=@A.kk 108 16 [.cell 4 (some 8)] A.b108 (by kernel_rfl) rfl
def A.b113:=A.q Tryz.f113
def A.k113:=@A.kk 113 16 [.cell 4 (some 8)] A.b113 (by kernel_rfl) rfl
def Bc(h:T O)(N:Nat)(x:V)(a b:Rat):Prop:=∃n1 u1 n2 u2 n3 u3 n4 u4,x=.agg [.int .i64 n1,u1,.int .i64 n2,u2,.int .i64 n3,u3,.int .i64 n4,u4]/\In h N (.agg [.int .i64 n1,u1]) a.num/\In h N (.agg [.int .i64 n2,u2]) (a.den:Nat)/\In h N (.agg [.int .i64 n3,u3]) b.num/\In h N (.agg [.int .i64 n4,u4]) (b.den:Nat)
def Bc.ai{h':T O}{N':Nat}(s:Bc h N x a b)(k:ah h N h' N'):Bc h' N' x a b:=by
 obtain⟨n1,u1,n2,u2,n3,u3,n4,u4,rfl,s1,s2,s3,s4⟩:=s
 exact⟨n1,u1,n2,u2,n3,u3,n4,u4,rfl,s1.ai k,s2.ai k,s3.ai k,s4.ai k⟩
def sZ:sY [V.int .i64 0,.ziA,.int .i64 0,.ziA,.int .i64 0,.ziA,.int .i64 0,.ziA]:=by
 intro x hx m
 simp at hx
 rcases hx with rfl|rfl|rfl|rfl|rfl|rfl|rfl|rfl<;>simp
def Yay(hx:Fc h N x a):Fn A.C 107 [x] h N (fun v h' n'=>Bc h' n' v a a):=by
 intro w
 obtain⟨n1,u1,n2,u2,rfl,s1,s2⟩:=hx
 have o1:=Zaj s1
 have o2:=Zaj s2
 unfold V.one at o1 o2
 rw[aZ,A.k107 (by simp)]
 simp(disch:=first|(simp;done)|omega|rfl) [-getElem?_pos,A.b107,o1,o2,aI,aK,aj,bM,b_.chk,Ret]
 have kB:ah h N ((h.set N (.cells [.int .i64 n1,u1,.int .i64 n2,u2] 102 true)).set (N+1) (.cells [.int .i64 0,.ziA,.int .i64 0,.ziA,.int .i64 0,.ziA,.int .i64 0,.ziA] 142 true)) (N+1+1):=(ah.refl.new _).new _
 have b2:((h.set N (.cells [.int .i64 n1,u1,.int .i64 n2,u2] 102 true)).set (N+1) (.cells [.int .i64 0,.ziA,.int .i64 0,.ziA,.int .i64 0,.ziA,.int .i64 0,.ziA] 142 true)).get (N+1)=some (.cells [.int .i64 0,.ziA,.int .i64 0,.ziA,.int .i64 0,.ziA,.int .i64 0,.ziA] 142 true):=by simp
 exact⟨kB.set (by omega),n1,u1,n2,u2,n1,u1,n2,u2,rfl,(s1.ai kB).ay b2 sZ rfl,(s2.ai kB).ay b2 sZ rfl,(s1.ai kB).ay b2 sZ rfl,(s2.ai kB).ay b2 sZ rfl⟩
def Yoz{K:Nat}{y:V}{c d:Rat}(hx:Bc h N x a b)(hy:Bc h N y c d)(qa:Qb K a)(qb:Qb K b)(qc:Qb K c)(qd:Qb K d)(hK:K<=100000000):Fn A.C 108 [x,y] h N (fun v h' n'=>Bc h' n' v (a+c) (b+d)):=by
 intro w
 obtain⟨n1,u1,n2,u2,n3,u3,n4,u4,rfl,s1,s2,s3,s4⟩:=hx
 obtain⟨m1,v1,m2,v2,m3,v3,m4,v4,rfl,t1,t2,t3,t4⟩:=hy
 have o1:=Zaj s1
 have o2:=Zaj s2
 have o3:=Zaj s3
 have o4:=Zaj s4
 have p1:=Zaj t1
 have p2:=Zaj t2
 have p3:=Zaj t3
 have p4:=Zaj t4
 unfold V.one at o1 o2 o3 o4 p1 p2 p3 p4
 have wa:=qa.eX
 have wb:=qb.eX
 have wc:=qc.eX
 have wd:=qd.eX
 have kB:ah h N (((h.set N (.cells [.int .i64 n1,u1,.int .i64 n2,u2,.int .i64 n3,u3,.int .i64 n4,u4] 142 true)).set (N+1) (.cells [.int .i64 m1,v1,.int .i64 m2,v2,.int .i64 m3,v3,.int .i64 m4,v4] 142 true)).set (N+1+1) (.cells [.int .i64 0,.ziA,.int .i64 0,.ziA,.int .i64 0,.ziA,.int .i64 0,.ziA] 142 true)) (N+1+1+1):=((ah.refl.new _).new _).new _
 have b0:(((h.set N (.cells [.int .i64 n1,u1,.int .i64 n2,u2,.int .i64 n3,u3,.int .i64 n4,u4] 142 true)).set (N+1) (.cells [.int .i64 m1,v1,.int .i64 m2,v2,.int .i64 m3,v3,.int .i64 m4,v4] 142 true)).set (N+1+1) (.cells [.int .i64 0,.ziA,.int .i64 0,.ziA,.int .i64 0,.ziA,.int .i64 0,.ziA] 142 true)).get N=some (.cells [.int .i64 n1,u1,.int .i64 n2,u2,.int .i64 n3,u3,.int .i64 n4,u4] 142 true):=by simp
 have b1:(((h.set N (.cells [.int .i64 n1,u1,.int .i64 n2,u2,.int .i64 n3,u3,.int .i64 n4,u4] 142 true)).set (N+1) (.cells [.int .i64 m1,v1,.int .i64 m2,v2,.int .i64 m3,v3,.int .i64 m4,v4] 142 true)).set (N+1+1) (.cells [.int .i64 0,.ziA,.int .i64 0,.ziA,.int .i64 0,.ziA,.int .i64 0,.ziA] 142 true)).get (N+1)=some (.cells [.int .i64 m1,v1,.int .i64 m2,v2,.int .i64 m3,v3,.int .i64 m4,v4] 142 true):=by simp
 have b2:(((h.set N (.cells [.int .i64 n1,u1,.int .i64 n2,u2,.int .i64 n3,u3,.int .i64 n4,u4] 142 true)).set (N+1) (.cells [.int .i64 m1,v1,.int .i64 m2,v2,.int .i64 m3,v3,.int .i64 m4,v4] 142 true)).set (N+1+1) (.cells [.int .i64 0,.ziA,.int .i64 0,.ziA,.int .i64 0,.ziA,.int .i64 0,.ziA] 142 true)).get (N+1+1)=some (.cells [.int .i64 0,.ziA,.int .i64 0,.ziA,.int .i64 0,.ziA,.int .i64 0,.ziA] 142 true):=by simp
 rw[aZ,A.k108 (by simp)]
 simp(disch:=first|(simp;done)|omega|rfl) [-getElem?_pos,A.b108,o1,o2,o3,o4,p1,p2,p3,p4,aI,aK]
 generalize ((h.set N (.cells [.int .i64 n1,u1,.int .i64 n2,u2,.int .i64 n3,u3,.int .i64 n4,u4] 142 true)).set (N+1) (.cells [.int .i64 m1,v1,.int .i64 m2,v2,.int .i64 m3,v3,.int .i64 m4,v4] 142 true)).set (N+1+1) (.cells [.int .i64 0,.ziA,.int .i64 0,.ziA,.int .i64 0,.ziA,.int .i64 0,.ziA] 142 true)=HB at*
 have fa:Fc HB (N+1+1+1) (.agg [.int .i64 n1,u1,.int .i64 n2,u2]) a:=⟨n1,u1,n2,u2,rfl,s1.ai kB,s2.ai kB⟩
 have fb:Fc HB (N+1+1+1) (.agg [.int .i64 n3,u3,.int .i64 n4,u4]) b:=⟨n3,u3,n4,u4,rfl,s3.ai kB,s4.ai kB⟩
 have fc:Fc HB (N+1+1+1) (.agg [.int .i64 m1,v1,.int .i64 m2,v2]) c:=⟨m1,v1,m2,v2,rfl,t1.ai kB,t2.ai kB⟩
 have fd:Fc HB (N+1+1+1) (.agg [.int .i64 m3,v3,.int .i64 m4,v4]) d:=⟨m3,v3,m4,v4,rfl,t3.ai kB,t4.ai kB⟩
 refine av (Nn fa fc (by omega) (by omega) (by omega) (by omega)) ?_
 rintro _ h1 gw k1 ⟨a1,x1,a2,x2,rfl,r1,r2⟩
 have b01:=(k1.get N (by omega)).trans b0
 have b11:=(k1.get (N+1) (by omega)).trans b1
 have b21:=(k1.get (N+1+1) (by omega)).trans b2
 have l1:=k1.le
 have e0:N<gw:=by omega
 have e1:N+1<gw:=by omega
 have e2:N+1+1<gw:=by omega
 simp(disch:=first|(simp;done)|omega|rfl) [-getElem?_pos,b01,b11,e0,e1,aI,aK]
 refine av (Nn (fb.ai k1) (fd.ai k1) (by omega) (by omega) (by omega) (by omega)) ?_
 rintro _ h2 fj k2 ⟨a3,x3,a4,x4,rfl,r3,r4⟩
 have b22:=(k2.get (N+1+1) e2).trans b21
 have l2:=k2.le
 have e22:N+1+1<fj:=by omega
 have q1:=Zaj r1
 have q2:=Zaj r2
 have q3:=Zaj r3
 have q4:=Zaj r4
 unfold V.one at q1 q2 q3 q4
 simp(disch:=first|(simp;done)|omega|rfl) [-getElem?_pos,b22,e22,q1,q2,q3,q4,aI,aK,aj,bM,b_.chk,Ret]
 exact⟨((kB.trans k1).trans k2).set (by omega),a1,x1,a2,x2,a3,x3,a4,x4,rfl,(r1.ai k2).ay b22 sZ rfl,(r2.ai k2).ay b22 sZ rfl,r3.ay b22 sZ rfl,r4.ay b22 sZ rfl⟩
def Yot{K:Nat}{y:V}{c d:Rat}(hx:Bc h N x a b)(hy:Bc h N y c d)(qa:Qb K a)(qb:Qb K b)(qc:Qb K c)(qd:Qb K d)(hK:K<=100000000):Fn A.C 113 [x,y] h N (fun v h' n'=>Bc h' n' v (a-d) (b-c)):=by
 intro w
 obtain⟨n1,u1,n2,u2,n3,u3,n4,u4,rfl,s1,s2,s3,s4⟩:=hx
 obtain⟨m1,v1,m2,v2,m3,v3,m4,v4,rfl,t1,t2,t3,t4⟩:=hy
 have o1:=Zaj s1
 have o2:=Zaj s2
 have o3:=Zaj s3
 have o4:=Zaj s4
 have p1:=Zaj t1
 have p2:=Zaj t2
 have p3:=Zaj t3
 have p4:=Zaj t4
 unfold V.one at o1 o2 o3 o4 p1 p2 p3 p4
 have wa:=qa.eX
 have wb:=qb.eX
 have wc:=qc.eX
 have wd:=qd.eX
 have kB:ah h N (((h.set N (.cells [.int .i64 n1,u1,.int .i64 n2,u2,.int .i64 n3,u3,.int .i64 n4,u4] 142 true)).set (N+1) (.cells [.int .i64 m1,v1,.int .i64 m2,v2,.int .i64 m3,v3,.int .i64 m4,v4] 142 true)).set (N+1+1) (.cells [.int .i64 0,.ziA,.int .i64 0,.ziA,.int .i64 0,.ziA,.int .i64 0,.ziA] 142 true)) (N+1+1+1):=((ah.refl.new _).new _).new _
 have b0:(((h.set N (.cells [.int .i64 n1,u1,.int .i64 n2,u2,.int .i64 n3,u3,.int .i64 n4,u4] 142 true)).set (N+1) (.cells [.int .i64 m1,v1,.int .i64 m2,v2,.int .i64 m3,v3,.int .i64 m4,v4] 142 true)).set (N+1+1) (.cells [.int .i64 0,.ziA,.int .i64 0,.ziA,.int .i64 0,.ziA,.int .i64 0,.ziA] 142 true)).get N=some (.cells [.int .i64 n1,u1,.int .i64 n2,u2,.int .i64 n3,u3,.int .i64 n4,u4] 142 true):=by simp
 have b1:(((h.set N (.cells [.int .i64 n1,u1,.int .i64 n2,u2,.int .i64 n3,u3,.int .i64 n4,u4] 142 true)).set (N+1) (.cells [.int .i64 m1,v1,.int .i64 m2,v2,.int .i64 m3,v3,.int .i64 m4,v4] 142 true)).set (N+1+1) (.cells [.int .i64 0,.ziA,.int .i64 0,.ziA,.int .i64 0,.ziA,.int .i64 0,.ziA] 142 true)).get (N+1)=some (.cells [.int .i64 m1,v1,.int .i64 m2,v2,.int .i64 m3,v3,.int .i64 m4,v4] 142 true):=by simp
 have b2:(((h.set N (.cells [.int .i64 n1,u1,.int .i64 n2,u2,.int .i64 n3,u3,.int .i64 n4,u4] 142 true)).set (N+1) (.cells [.int .i64 m1,v1,.int .i64 m2,v2,.int .i64 m3,v3,.int .i64 m4,v4] 142 true)).set (N+1+1) (.cells [.int .i64 0,.ziA,.int .i64 0,.ziA,.int .i64 0,.ziA,.int .i64 0,.ziA] 142 true)).get (N+1+1)=some (.cells [.int .i64 0,.ziA,.int .i64 0,.ziA,.int .i64 0,.ziA,.int .i64 0,.ziA] 142 true):=by simp
 rw[aZ,A.k113 (by simp)]
 simp(disch:=first|(simp;done)|omega|rfl) [-getElem?_pos,A.b113,o1,o2,o3,o4,p1,p2,p3,p4,aI,aK]
 generalize ((h.set N (.cells [.int .i64 n1,u1,.int .i64 n2,u2,.int .i64 n3,u3,.int .i64 n4,u4] 142 true)).set (N+1) (.cells [.int .i64 m1,v1,.int .i64 m2,v2,.int .i64 m3,v3,.int .i64 m4,v4] 142 true)).set (N+1+1) (.cells [.int .i64 0,.ziA,.int .i64 0,.ziA,.int .i64 0,.ziA,.int .i64 0,.ziA] 142 true)=HB at*
 have fa:Fc HB (N+1+1+1) (.agg [.int .i64 n1,u1,.int .i64 n2,u2]) a:=⟨n1,u1,n2,u2,rfl,s1.ai kB,s2.ai kB⟩
 have fb:Fc HB (N+1+1+1) (.agg [.int .i64 n3,u3,.int .i64 n4,u4]) b:=⟨n3,u3,n4,u4,rfl,s3.ai kB,s4.ai kB⟩
 have fc:Fc HB (N+1+1+1) (.agg [.int .i64 m1,v1,.int .i64 m2,v2]) c:=⟨m1,v1,m2,v2,rfl,t1.ai kB,t2.ai kB⟩
 have fd:Fc HB (N+1+1+1) (.agg [.int .i64 m3,v3,.int .i64 m4,v4]) d:=⟨m3,v3,m4,v4,rfl,t3.ai kB,t4.ai kB⟩
 refine av (Zvo fa fd (by omega) (by omega) (by omega) (by omega)) ?_
 rintro _ h1 gw k1 ⟨a1,x1,a2,x2,rfl,r1,r2⟩
 have b01:=(k1.get N (by omega)).trans b0
 have b11:=(k1.get (N+1) (by omega)).trans b1
 have b21:=(k1.get (N+1+1) (by omega)).trans b2
 have l1:=k1.le
 have e0:N<gw:=by omega
 have e1:N+1<gw:=by omega
 have e2:N+1+1<gw:=by omega
 simp(disch:=first|(simp;done)|omega|rfl) [-getElem?_pos,b01,b11,e0,e1,aI,aK]
 refine av (Zvo (fb.ai k1) (fc.ai k1) (by omega) (by omega) (by omega) (by omega)) ?_
 rintro _ h2 fj k2 ⟨a3,x3,a4,x4,rfl,r3,r4⟩
 have b22:=(k2.get (N+1+1) e2).trans b21
 have l2:=k2.le
 have e22:N+1+1<fj:=by omega
 have q1:=Zaj r1
 have q2:=Zaj r2
 have q3:=Zaj r3
 have q4:=Zaj r4
 unfold V.one at q1 q2 q3 q4
 simp(disch:=first|(simp;done)|omega|rfl) [-getElem?_pos,b22,e22,q1,q2,q3,q4,aI,aK,aj,bM,b_.chk,Ret]
 exact⟨((kB.trans k1).trans k2).set (by omega),a1,x1,a2,x2,a3,x3,a4,x4,rfl,(r1.ai k2).ay b22 sZ rfl,(r2.ai k2).ay b22 sZ rfl,r3.ay b22 sZ rfl,r4.ay b22 sZ rfl⟩
end
end Go.Mx
