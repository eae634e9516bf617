/-Spans that are checked-/
import Derived.Test.YtgnadghjglamaaaGreatDoorLwA
set_option linter.all false
set_option maxHeartbeats 4000000
namespace Go.Mx
noncomputable section
open Go Go.Proofs
variable {N:Nat} {a b:Rat} {h:T O} {hi lo:aU}
set_option maxRecDepth 1000000
def A.NB:=A.q Tryz.f220
def A.zgt:=A.ql A.NB 0 []
def A.b220:=(fun x0=>A.qb A.NB [x0]) A.zgt
def A.k220:=@A.kk 220 18 [.tmp 2] A.b220 (by kernel_rfl) rfl
def A.b170:=A.q Tryz.f170
def A.k170:=@A.kk 170 22 [.tmp 2] A.b170 (by kernel_rfl) rfl
def A.b93:=A.q Tryz.f93
def A.k93:=@A.kk 93 15 [.tmp 2] A.b93 (by kernel_rfl) rfl
def A.b87:=A.q Tryz.f87
def A.k87:=@A.kk 87 21 [.tmp 2] A.b87 (by kernel_rfl) rfl
def A.b28:=A.q Tryz.f28
def A.k28:=@A.kk 28 13 [.tmp 2] A.b28 (by kernel_rfl) rfl
def A.b29:=A.q Tryz.f29
def A.k29:=@A.kk 29 20 [.tmp 4] A.b29 (by kernel_rfl) rfl
def Yvn{v:V}{l:List aU}(hs:Sl h N v (strs l))(hl:l.length<100000)(qA:∀s∈l,s.length<=100000):Fn A.C 220 [v] h N (fun u _ _=>u=.int .i64 (BM l)):=by
 intro w;have hlen:=hs.len;rw[BL]at hlen;unfold BM;rw[aV,A.k220 (by simp)];simp(disch:=first|(simp;done)|omega|rfl) [-getElem?_pos,A.b220,hlen];refine c_ [(2,2),(4,5),(8,17)] (fun e r st=>aD N st.w=[]/\ae h N st.h st.n/\((e=.exit 0/\cY (l.map (fun s=>((aY s:Nat):Int)))=0)\/(e=.ret/\r.get 2=some (.int .i64 (cY (l.map (fun s=>((aY s:Nat):Int)))))))) (fun m r st=>aD N st.w=[]/\ae h N st.h st.n/\∃k,k+m=l.length/\r.get 8=some (.int .i64 k)/\cY (l.map (fun s=>((aY s:Nat):Int)))=cY ((l.drop k).map (fun s=>((aY s:Nat):Int)))) l.length ?_ ?_ ?_
 ·exact⟨by simp,ae.refl,0,by omega,by simp,by simp⟩
 ·rintro m r ⟨H,n1,W⟩ hr jv ⟨hW,hK,k,hk,h7,hz⟩;simp only at hW hK;rw[dk];cases m with
  |zero=>
   obtain rfl:k=l.length:=by omega
   rw[vR,uH,cY]at hz;simp(disch:=first|(simp;done)|omega|rfl) [-getElem?_pos,A.zgt,hr,jv,h7,hz,hW,hK]
  |succ m=>
   have aP:k<l.length:=by omega
   obtain⟨s,hc⟩:=fz aP;obtain⟨i,o,cc,e,rw,q1,q2,q3,q4⟩:=(hs.ah hK).at (Lc hc);rw[qk hc,lF,cY]at hz;have ew:(k:Int)<(l.length:Int):=by omega
   simp(disch:=first|(simp;done)|omega|rfl) [-getElem?_pos,A.zgt,hr,jv,h7,ew,aP,hlen,q1,q2,q3,q4];refine az (Zwd (qA s (eZ hc))) ?_;rintro _ h3 n3 k3 rfl;have kk:=hK.trans k3;by_cases h0:aY s=0
   ·rw[aQ (by omega)]at hz;simp(disch:=first|(simp;done)|omega|rfl) [-getElem?_pos,hr,jv,h7,h0,hW,aL];exact⟨m,by omega,kk,k+1,by omega,by simp,by simpa using hz⟩
   rw[aA (by omega)]at hz;simp(disch:=first|(simp;done)|omega|rfl) [-getElem?_pos,hr,jv,h7,h0,hW,aL,hz];exact kk
 rintro _ r ⟨H,n1,W⟩ hr ⟨hW,hK,⟨rfl,hz⟩|⟨rfl,h2⟩⟩
 ·simp only at hW hK;simp(disch:=first|(simp;done)|omega|rfl) [-getElem?_pos,hr,hz,aF,hW,hK]
 simp only at hW hK;simp(disch:=first|(simp;done)|omega|rfl) [-getElem?_pos,hr,h2,aF,hW,hK]
def Zh5(lo hi:aU):Int:=if BM [lo,hi]=0 then (if bJ hi<bJ lo then 11 else 0) else BM [lo,hi]
def Zfp(lo hi:aU):Int:=if Zh5 lo hi=0 then (if bJ lo<0 then 3 else 0) else Zh5 lo hi
def Ymg:df (a.num*(b.den:Nat)-b.num*(a.den:Nat))<0↔a<b:=by
 rw[Rat.lt_iff];unfold df;split
 ·constructor<;>intro h<;>omega
 split<;>constructor<;>intro h<;>omega
def Yvs:0<df (a.num*(b.den:Nat)-b.num*(a.den:Nat))↔b<a:=by
 rw[Rat.lt_iff];unfold df;split
 ·constructor<;>intro h<;>omega
 split<;>constructor<;>intro h<;>omega
def Yek:df (a-b).num<0↔a<b:=by rw[AE];constructor<;>intro h<;>grind
def Zz8:0<df (a-b).num↔b<a:=by
 have e:b<a↔0<a-b:=by constructor<;>intro h<;>grind
 have e2:0<a-b↔0<(a-b).num:=by rw[Rat.lt_iff];simp
 rw[e,e2];unfold df;split
 ·constructor<;>intro h<;>omega
 split<;>constructor<;>intro h<;>omega
def Yvv{a b:aU}(h:BM [a,b]=0):aY a=0/\aY b=0:=⟨Yh8 h a (by simp),Yh8 h b (by simp)⟩
def Yu0{n:Nat}(l1:lo.length<=n)(l2:hi.length<=n)(hn:n<=20000):Fn A.C 170 [.agg [.str lo,.str hi]] h N (fun u _ _=>u=.int .i64 (Zh5 lo hi)):=by
 intro w;have kB:ae h N (h.set N (.cells [.str lo,.str hi] 52 true)) (N+1):=ae.refl.new _;have b0:(h.set N (.cells [.str lo,.str hi] 52 true)).get N=some (.cells [.str lo,.str hi] 52 true):=by simp
 rw[aV,A.k170 (by simp)];simp(disch:=first|(simp;done)|omega|rfl) [-getElem?_pos,A.b170,ag];generalize h.set N (.cells [.str lo,.str hi] 52 true)=HB at*;have kC:ae HB (N+1) (HB.set (N+1) (.cells [.str lo,.str hi] 22 true)) (N+1+1):=ae.refl.new _;have s0:Sl (HB.set (N+1) (.cells [.str lo,.str hi] 22 true)) (N+1+1) (.slice (N+1) 0 2 (some 2) 1) (strs [lo,hi]):=Sl.row (e:=22) (rw:=true) (cp:=some 2) (by omega) (by simp[strs]) rfl (by simp);refine az (Yvn s0 (by simp) (fun s hs=>by simp at hs;rcases hs with rfl|rfl<;>omega)) ?_;rintro _ h1 n1 k1 rfl;have K1:=kC.trans k1;have b1:=(K1.get N (by omega)).trans b0;have lN:N<n1:=by have:=k1.le;omega
 by_cases c:BM [lo,hi]=0
 ·obtain⟨c1,c2⟩:=Yvv c;have q1:=uJ c1 l1;have q2:=uJ c2 l2;have e1:=(BN c1).1;have e2:=(BN c2).1;have es:Zh5 lo hi=if bJ hi<bJ lo then 11 else 0:=by rw[Zh5,aQ c]
  rw[c,es];generalize bJ lo=a at*;generalize bJ hi=b at*;subst e1 e2;simp(disch:=first|(simp;done)|omega|rfl) [-getElem?_pos,aL,b1,lN];refine az (Df q1 (by omega)) ?_;rintro v2 h2 n2 k2 jQ;have b2:=(k2.get N lN).trans b1;have lN2:N<n2:=by have:=k2.le;omega
  simp(disch:=first|(simp;done)|omega|rfl) [-getElem?_pos,b2,lN2];refine az (Df q2 (by omega)) ?_;rintro v3 h3 n3 k3 BS;have w1:=q1.iC;have w2:=q2.iC;simp(disch:=first|(simp;done)|omega|rfl) [-getElem?_pos,];refine az (Iq (jQ.ah k3) BS (by omega) (by omega) (by omega) (by omega)) ?_;rintro _ h4 n4 k4 rfl;have K4:=((kB.trans K1).trans k2).trans (k3.trans k4);by_cases hz:b<a
  ·have s1:=Yvs.2 hz;simp(disch:=first|(simp;done)|omega|rfl) [-getElem?_pos,s1,hz,BA,aF];exact K4
  have s1:¬0<df (a.num*(b.den:Nat)-b.num*(a.den:Nat)):=fun h=>hz (Yvs.1 h);simp(disch:=first|(simp;done)|omega|rfl) [-getElem?_pos,s1,hz,BA,aF];exact K4
 have es:Zh5 lo hi=BM [lo,hi]:=by rw[Zh5,aA c]
 rw[es];simp(disch:=first|(simp;done)|omega|rfl) [-getElem?_pos,c,aL,aF];exact kB.trans K1
def Zz9(l1:lo.length<=20000)(l2:hi.length<=20000):Fn A.C 87 [.agg [.str lo,.str hi]] h N (fun u _ _=>u=.int .i64 (Zh5 lo hi)):=by
 intro w;have kB:ae h N (h.set N (.cells [.str lo,.str hi] 52 true)) (N+1):=ae.refl.new _;have b0:(h.set N (.cells [.str lo,.str hi] 52 true)).get N=some (.cells [.str lo,.str hi] 52 true):=by simp
 rw[aV,A.k87 (by simp)];simp(disch:=first|(simp;done)|omega|rfl) [-getElem?_pos,A.b87,ag];generalize h.set N (.cells [.str lo,.str hi] 52 true)=HB at*;have kC:ae HB (N+1) (HB.set (N+1) (.cells [.str lo,.str hi] 22 true)) (N+1+1):=ae.refl.new _;have s0:Sl (HB.set (N+1) (.cells [.str lo,.str hi] 22 true)) (N+1+1) (.slice (N+1) 0 2 (some 2) 1) (strs [lo,hi]):=Sl.row (e:=22) (rw:=true) (cp:=some 2) (by omega) (by simp[strs]) rfl (by simp);refine az (Ygr s0 (by simp) (fun s hs=>by simp at hs;rcases hs with rfl|rfl<;>omega)) ?_;rintro _ h1 n1 k1 rfl;rw[show cY ([lo,hi].map fun s=>((aY s:Nat):Int))=BM [lo,hi] from rfl];have K1:=kC.trans k1;have b1:=(K1.get N (by omega)).trans b0;have lN:N<n1:=by have:=k1.le;omega
 by_cases c:BM [lo,hi]=0
 ·obtain⟨c1,c2⟩:=Yvv c;have q1:=uJ c1 l1;have q2:=uJ c2 l2;have e1:=(BN c1).1;have e2:=(BN c2).1;have es:Zh5 lo hi=if bJ hi<bJ lo then 11 else 0:=by rw[Zh5,aQ c]
  rw[c,es];generalize bJ lo=a at*;generalize bJ hi=b at*;subst e1 e2;simp(disch:=first|(simp;done)|omega|rfl) [-getElem?_pos,aL,b1,lN];refine az (zg q1 q2 (by omega) (by omega) (by omega)) ?_;rintro _ h4 n4 k4 rfl;have K4:=(kB.trans K1).trans k4;by_cases hz:b<a
  ·have s1:=Zz8.2 hz;simp(disch:=first|(simp;done)|omega|rfl) [-getElem?_pos,s1,hz,aF];exact K4
  have s1:¬0<df (a-b).num:=fun h=>hz (Zz8.1 h);simp(disch:=first|(simp;done)|omega|rfl) [-getElem?_pos,s1,hz,aF];exact K4
 have es:Zh5 lo hi=BM [lo,hi]:=by rw[Zh5,aA c]
 rw[es];simp(disch:=first|(simp;done)|omega|rfl) [-getElem?_pos,c,aL,aF];exact kB.trans K1
def Yjb{n:Nat}(l1:lo.length<=n)(l2:hi.length<=n)(hn:n<=20000):Fn A.C 93 [.agg [.str lo,.str hi]] h N (fun u _ _=>u=.int .i64 (Zfp lo hi)):=by
 intro w;have kB:ae h N (h.set N (.cells [.str lo,.str hi] 52 true)) (N+1):=ae.refl.new _;have b0:(h.set N (.cells [.str lo,.str hi] 52 true)).get N=some (.cells [.str lo,.str hi] 52 true):=by simp
 rw[aV,A.k93 (by simp)];simp(disch:=first|(simp;done)|omega|rfl) [-getElem?_pos,A.b93,aJ,aE];generalize h.set N (.cells [.str lo,.str hi] 52 true)=HB at*;refine az (Yu0 l1 l2 hn) ?_;rintro _ h1 n1 k1 rfl;have b1:=(k1.get N (by omega)).trans b0;have lN:N<n1:=by have:=k1.le;omega
 have K1:=kB.trans k1;by_cases c:Zh5 lo hi=0
 ·have c0:BM [lo,hi]=0:=by
   by_cases z:BM [lo,hi]=0
   ·exact z
   rw[Zh5,aA z]at c;exact c
  obtain⟨c1,_⟩:=Yvv c0;have q1:=uJ c1 l1;have e1:=(BN c1).1;have es:Zfp lo hi=if bJ lo<0 then 3 else 0:=by rw[Zfp,aQ c]
  rw[c,es];clear c c0;generalize bJ lo=a at*;subst e1;simp(disch:=first|(simp;done)|omega|rfl) [-getElem?_pos,aL,b1,lN];refine az (Df q1 (by omega)) ?_;rintro v2 h2 n2 k2 jQ;simp(disch:=first|(simp;done)|omega|rfl) [-getElem?_pos,];refine az (Ld jQ) ?_;rintro _ h3 n3 k3 rfl;have K3:=(K1.trans k2).trans k3;by_cases hz:a<0
  ·have:=AE.2 hz;simp(disch:=first|(simp;done)|omega|rfl) [-getElem?_pos,this,zd,hz,aF];exact K3
  have:¬df a.num<0:=fun hc=>hz (AE.1 hc);simp(disch:=first|(simp;done)|omega|rfl) [-getElem?_pos,this,zd,hz,aF];exact K3
 have es:Zfp lo hi=Zh5 lo hi:=by rw[Zfp,aA c]
 rw[es];simp(disch:=first|(simp;done)|omega|rfl) [-getElem?_pos,c,aL,aF];exact K1
def Zk8(l1:lo.length<=20000)(l2:hi.length<=20000):Fn A.C 28 [.agg [.str lo,.str hi]] h N (fun u _ _=>u=.int .i64 (Zfp lo hi)):=by
 intro w;have kB:ae h N (h.set N (.cells [.str lo,.str hi] 52 true)) (N+1):=ae.refl.new _;have b0:(h.set N (.cells [.str lo,.str hi] 52 true)).get N=some (.cells [.str lo,.str hi] 52 true):=by simp
 rw[aV,A.k28 (by simp)];simp(disch:=first|(simp;done)|omega|rfl) [-getElem?_pos,A.b28,aJ,aE];generalize h.set N (.cells [.str lo,.str hi] 52 true)=HB at*;refine az (Zz9 l1 l2) ?_;rintro _ h1 n1 k1 rfl;have b1:=(k1.get N (by omega)).trans b0;have lN:N<n1:=by have:=k1.le;omega
 have K1:=kB.trans k1;by_cases c:Zh5 lo hi=0
 ·have c0:BM [lo,hi]=0:=by
   by_cases z:BM [lo,hi]=0
   ·exact z
   rw[Zh5,aA z]at c;exact c
  obtain⟨c1,_⟩:=Yvv c0;have e1:=(BN c1).1;have es:Zfp lo hi=if bJ lo<0 then 3 else 0:=by rw[Zfp,aQ c]
  rw[c,es];clear c c0;generalize bJ lo=a at*;subst e1;have hs:=fun st=>Np (q:=a) (st:=st);by_cases hz:a<0
  ·have:=AE.2 hz;simp(disch:=first|(simp;done)|omega|rfl) [-getElem?_pos,aL,b1,lN,hs,this,hz,aF];exact K1
  have:¬df a.num<0:=fun hc=>hz (AE.1 hc);simp(disch:=first|(simp;done)|omega|rfl) [-getElem?_pos,aL,b1,lN,hs,this,hz,aF];exact K1
 have es:Zfp lo hi=Zh5 lo hi:=by rw[Zfp,aA c]
 rw[es];simp(disch:=first|(simp;done)|omega|rfl) [-getElem?_pos,c,aL,aF];exact K1
def Zow(lo hi:aU)(d:Nat):Bool:=uK lo d&&(uK hi d&&decide (Zh5 lo hi=0))
def Zm2{h:T O}{N d:Nat}{lo hi:aU}(l1:lo.length<=20000)(l2:hi.length<=20000)(hd:d<=100):Fn A.C 29 [.agg [.str lo,.str hi],.int .i64 (d:Nat)] h N (fun u _ _=>u=.bool (Zow lo hi d)):=by
 intro w;have kB:ae h N (h.set N (.cells [.str lo,.str hi] 52 true)) (N+1):=ae.refl.new _;have b0:(h.set N (.cells [.str lo,.str hi] 52 true)).get N=some (.cells [.str lo,.str hi] 52 true):=by simp
 rw[aV,A.k29 (by simp)];simp(disch:=first|(simp;done)|omega|rfl) [-getElem?_pos,A.b29,aJ,aE];generalize h.set N (.cells [.str lo,.str hi] 52 true)=HB at*;refine az (Ym4 (s:=lo) hd) ?_;rintro _ h1 n1 k1 rfl;have b1:=(k1.get N (by omega)).trans b0;have lN:N<n1:=by have:=k1.le;omega
 have K1:=kB.trans k1;cases c1:uK lo d with
 |false=> simp(disch:=first|(simp;done)|omega|rfl) [-getElem?_pos,Zow,c1,aF];exact K1
 |true=>
  simp(disch:=first|(simp;done)|omega|rfl) [-getElem?_pos,b1,lN];refine az (Ym4 (s:=hi) hd) ?_;rintro _ h2 n2 k2 rfl;have b2:=(k2.get N lN).trans b1;have lN2:N<n2:=by have:=k2.le;omega
  have K2:=K1.trans k2;cases c2:uK hi d with
  |false=> simp(disch:=first|(simp;done)|omega|rfl) [-getElem?_pos,Zow,c1,c2,aF];exact K2
  |true=>
   simp(disch:=first|(simp;done)|omega|rfl) [-getElem?_pos,b2,lN2,aJ,aE];refine az (Zz9 l1 l2) ?_;rintro _ h3 n3 k3 rfl;have K3:=K2.trans k3;by_cases c3:Zh5 lo hi=0
   ·simp(disch:=first|(simp;done)|omega|rfl) [-getElem?_pos,Zow,c1,c2,c3,aL,aF];exact K3
   simp(disch:=first|(simp;done)|omega|rfl) [-getElem?_pos,Zow,c1,c2,c3,aL,aF];exact K3
variable {K:Nat} {l:List Rat}
def A.zgu:cF:=.seq (sr [mv 14 6,mv 15 0,ln 16 15,bi 17 .lss 14 16] (cd 17 (.skip) (.exit 0))) (.seq (.block 1 (.seq (.fT [mv 20 1,mv 21 0,mv 22 6,ia 23 4 21 22,lN 24 4 23,lN 25 4 5,ge 26 (.call (tq 20) [tq 24,tq 25]),bc 27 .lss 26 0] [0,0,0,6,14,0,63,127]) (cd 27 (.reg [mv 28 0,mv 29 6,ia 30 4 28 29,lN 31 4 30,gn (.store 4 (tq 5) (tq 31))]) (.skip)))) (.reg [mv 18 6,bc 19 .add 18 1,mv 6 19]))
def A.b174:cF:=sr [ge 4 (.alloc [.int .i64 0,.aa,.int .i64 0,.aa] 110)] (.seq (sr [mv 7 0,ln 8 7,bc 9 .lss 8 1] (cd 9 (.reg [ge 10 (.iH 9 (.const (.str [115,108,105,99,101,115,46,77,105,110,70,117,110,99,58,32,101,109,112,116,121,32,108,105,115,116]))),gn (.stop)]) (.skip))) (sr [mv 11 0,ge 12 (.iI 4 (tq 11) (kq 0)),lN 13 4 12,ge 5 (.alloc [.int .i64 0,.aa,.int .i64 0,.aa] 110),gn (.store 4 (tq 5) (tq 13))] (.seq (sr [mc 6 1] (.block 0 (.loop A.zgu))) (sr [lN 32 4 5,gn (.store 4 (tq 4) (tq 32))] (.ret)))))
def A.k174:=@A.kk 174 33 [.cell 4 (some 4)] A.b174 (by kernel_rfl) rfl
def A.zgv:cF:=.seq (sr [mv 14 6,mv 15 0,ln 16 15,bi 17 .lss 14 16] (cd 17 (.skip) (.exit 0))) (.seq (.block 1 (.seq (.fT [mv 20 1,mv 21 0,mv 22 6,ia 23 4 21 22,lN 24 4 23,lN 25 4 5,ge 26 (.call (tq 20) [tq 24,tq 25]),bc 27 .gtr 26 0] [0,0,0,6,14,0,63,127]) (cd 27 (.reg [mv 28 0,mv 29 6,ia 30 4 28 29,lN 31 4 30,gn (.store 4 (tq 5) (tq 31))]) (.skip)))) (.reg [mv 18 6,bc 19 .add 18 1,mv 6 19]))
def A.b173:cF:=sr [ge 4 (.alloc [.int .i64 0,.aa,.int .i64 0,.aa] 110)] (.seq (sr [mv 7 0,ln 8 7,bc 9 .lss 8 1] (cd 9 (.reg [ge 10 (.iH 9 (.const (.str [115,108,105,99,101,115,46,77,97,120,70,117,110,99,58,32,101,109,112,116,121,32,108,105,115,116]))),gn (.stop)]) (.skip))) (sr [mv 11 0,ge 12 (.iI 4 (tq 11) (kq 0)),lN 13 4 12,ge 5 (.alloc [.int .i64 0,.aa,.int .i64 0,.aa] 110),gn (.store 4 (tq 5) (tq 13))] (.seq (sr [mc 6 1] (.block 0 (.loop A.zgv))) (sr [lN 32 4 5,gn (.store 4 (tq 4) (tq 32))] (.ret)))))
def A.k173:=@A.kk 173 33 [.cell 4 (some 4)] A.b173 (by kernel_rfl) rfl
def Ztl(l:List Rat):Nat->Rat
 |0=>pg l 0
 |k+1=>if pg l (k+1)<Ztl l k then pg l (k+1) else Ztl l k
def Zva(l:List Rat):Nat->Rat
 |0=>pg l 0
 |k+1=>if Zva l k<pg l (k+1) then pg l (k+1) else Zva l k
def ND{l:List Rat}{K:Nat}(bl:∀y∈l,Qb K y):∀{k:Nat},k<l.length->Qb K (Ztl l k)
 |0,h=>bl _ (eZ (eL h))
 |k+1,h=>by
  unfold Ztl
  split
  ·exact bl _ (eZ (eL h))
  ·exact ND bl (by omega)
def NG{l:List Rat}{K:Nat}(bl:∀y∈l,Qb K y):∀{k:Nat},k<l.length->Qb K (Zva l k)
 |0,h=>bl _ (eZ (eL h))
 |k+1,h=>by
  unfold Zva
  split
  ·exact bl _ (eZ (eL h))
  ·exact NG bl (by omega)
def Yjg{h:T O}{N:Nat}{v:V}(hs:yR h N v l)(h0:0<l.length)(bl:∀y∈l,Qb K y)(hl:l.length<1000)(hK:K<=100000000):Fn A.C 174 [v,.func 82 [] []] h N (fun x h' n'=>Fc h' n' x (Ztl l (l.length-1))):=by
 intro w;have lY:∀c:List V,(V.agg c).cells=c:=fun _=>rfl;have e0:zF=[V.int .i64 0,.aa,.int .i64 0,.aa]:=rfl;have lv:=hs.len;have c1:¬(l.length:Int)<1:=by omega
 have c2:(0:Int)<(l.length:Int):=by omega
 obtain⟨i0,o0,y0,z0,q0,cx,b1,b2,b3,b4,b5⟩:=hs.at (eL (p:=l) (i:=0) h0);rw[Nat.zero_mul,tF]at b4;obtain⟨f1,f2⟩:=b5.len;have ex:=rT (d:=zF) f1 rfl;rw[e0]at ex;have kB:ae h N (((h.set N (.cells [.int .i64 0,.aa,.int .i64 0,.aa] 110 true)).set (N+1) (.cells [.int .i64 0,.aa,.int .i64 0,.aa] 110 true)).set (N+1) (.cells cx 110 true)) (N+1+1):=((ae.refl.new _).new _).set (by omega);have gR:(((h.set N (.cells [.int .i64 0,.aa,.int .i64 0,.aa] 110 true)).set (N+1) (.cells [.int .i64 0,.aa,.int .i64 0,.aa] 110 true)).set (N+1) (.cells cx 110 true)).get N=some (.cells [.int .i64 0,.aa,.int .i64 0,.aa] 110 true):=by simp
 have gM:(((h.set N (.cells [.int .i64 0,.aa,.int .i64 0,.aa] 110 true)).set (N+1) (.cells [.int .i64 0,.aa,.int .i64 0,.aa] 110 true)).set (N+1) (.cells cx 110 true)).get (N+1)=some (.cells cx 110 true):=by simp
 have NK:¬i0=N:=by omega
 rw[aV,A.k174 (by simp)];simp(disch:=first|(simp;done)|omega|rfl) [-getElem?_pos, -V.cells, -V.one,A.b174,lv,c1,c2,h0,NK,b1,b2,b3,b4,lY,f1,f2,bE,ex];generalize ((h.set N (.cells [.int .i64 0,.aa,.int .i64 0,.aa] 110 true)).set (N+1) (.cells [.int .i64 0,.aa,.int .i64 0,.aa] 110 true)).set (N+1) (.cells cx 110 true)=H2 at*;refine c_ [(6,6),(14,31)] (fun e r st=>e=.exit 0/\aD N st.w=[]/\ae h N st.h st.n/\N+1<st.n/\st.h.get N=some (.cells [.int .i64 0,.aa,.int .i64 0,.aa] 110 true)/\∃cs,st.h.get (N+1)=some (.cells cs 110 true)/\dB st.h st.n cs (Ztl l (l.length-1))) (fun m r st=>aD N st.w=[]/\ae h N st.h st.n/\N+1<st.n/\st.h.get N=some (.cells [.int .i64 0,.aa,.int .i64 0,.aa] 110 true)/\∃t,t+1+m=l.length/\r.get 6=some (.int .i64 ((t:Int)+1))/\∃cs,st.h.get (N+1)=some (.cells cs 110 true)/\dB st.h st.n cs (Ztl l t)) (l.length-1) ?_ ?_ ?_
 ·exact⟨Dr fun i hi=>by simp at hi;omega,kB,by show N+1<N+1+1;omega,gR,0,by omega,by simp,cx,gM,b5.ah kB⟩
 ·rintro m r ⟨H,n2,W⟩ hr hf ⟨hW,hK',hn,gN,t,ht,h6,cs,gs,fs⟩;simp only at hW hK' hn gN gs fs;rw[dk];cases m with
  |zero=>
   have e1:l.length-1=t:=by omega
   have c3:¬(t:Int)+1<(l.length:Int):=by omega
   rw[e1];simp(disch:=first|(simp;done)|omega|rfl) [-getElem?_pos,A.zgu,hr,hf,h6,lv,c3,hW,hK',hn,gN,gs];exact fs
  |succ m=>
   have aP:t+1<l.length:=by omega
   have dE:(t:Int)+1<(l.length:Int):=by omega
   have oW:(0:Int)<=(t:Int)+1:=by omega
   have NO:((t:Int)+1).toNat=t+1:=by omega
   obtain⟨i0,o0,y0,z0,q0,cx,b1,b2,b3,b4,b5⟩:=(hs.ah hK').at (eL (p:=l) (i:=t+1) aP);obtain⟨f1,f2⟩:=b5.len;obtain⟨u1,u2⟩:=fs.len;have ss:=tI u1;have bq:=bl _ (eZ (eL (p:=l) (i:=t+1) aP));have bm:=ND bl (k:=t) (by omega);have w1:=bq.iC;have w2:=bm.iC;simp(disch:=first|(simp;done)|omega|rfl) [-getElem?_pos, -V.cells, -V.one,A.zgu,hr,hf,h6,aP,dE,oW,NO,lv,b1,b2,b3,b4,lY,f1,f2,aJ,gs,hn,ss];refine az (Iq b5.fc fs.fc (by omega) (by omega) (by omega) (by omega)) ?_;rintro _ h3 n3 k3 rfl;have xX:=k3.le;have gs3:=(k3.get (N+1) hn).trans gs;have gN3:=(k3.get N (by omega)).trans gN;have b3':=(k3.get i0 b2).trans b3;have b2':i0<n3:=by omega
   have K3:=hK'.trans k3;have l4:N+1<n3:=by omega
   have l5:4<=cs.length:=by omega
   have e5:=rT (d:=cs) f1 u1;have nuS:=fs.KZ;have nN:¬N+1<N:=by omega
   have nN2:¬N=N+1:=by omega
   by_cases hc:pg l (t+1)<Ztl l t
   ·have ef:Ztl l (t+1)=pg l (t+1):=by rw[Ztl,aQ hc]
    have s1:=Ymg.2 hc;simp(disch:=first|(simp;done)|omega|rfl) [-getElem?_pos, -V.cells, -V.one,hr,hf,h6,s1,aP,dE,oW,NO,lv,b1,b2',b3',b4,lY,f1,f2,bE,gs3,l4,e5,l5];exact⟨m,by omega,hW,K3.set (by omega),gN3,t+1,by omega,by simp,by rw[ef];exact(b5.ah k3).aG gs3 nuS (by omega)⟩
   have ef:Ztl l (t+1)=Ztl l t:=by rw[Ztl,aA hc]
   have s1:=mt Ymg.1 hc;simp(disch:=first|(simp;done)|omega|rfl) [-getElem?_pos, -V.cells, -V.one,hr,hf,h6,s1];exact⟨m,by omega,hW,K3,by omega,gN3,t+1,by omega,by simp,cs,gs3,by rw[ef];exact fs.ah k3⟩
 rintro _ r ⟨H,n2,W⟩ hr ⟨rfl,hW,hK',hn,gN,cs,gs,fs⟩;simp only at hW hK' hn gN gs fs;obtain⟨u1,u2⟩:=fs.len;have e5:=rT (d:=zF) u1 rfl;rw[e0]at e5;have ss:=tI u1;have lN:N<n2:=by omega
 simp(disch:=first|(simp;done)|omega|rfl) [-getElem?_pos, -V.cells, -V.one,hr,gs,hn,aJ,ss,lY,u1,u2,bE,gN,lN,e5,aF];exact⟨hW,hK'.set (aZ _),(fs.aG gN (by intro x hx m;simp at hx;rcases hx with rfl|rfl|rfl|rfl<;>simp) (by simp[u1])).up⟩
def Ykl{h:T O}{N:Nat}{v:V}(hs:yR h N v l)(h0:0<l.length)(bl:∀y∈l,Qb K y)(hl:l.length<1000)(hK:K<=100000000):Fn A.C 173 [v,.func 82 [] []] h N (fun x h' n'=>Fc h' n' x (Zva l (l.length-1))):=by
 intro w;have lY:∀c:List V,(V.agg c).cells=c:=fun _=>rfl;have e0:zF=[V.int .i64 0,.aa,.int .i64 0,.aa]:=rfl;have lv:=hs.len;have c1:¬(l.length:Int)<1:=by omega
 have c2:(0:Int)<(l.length:Int):=by omega
 obtain⟨i0,o0,y0,z0,q0,cx,b1,b2,b3,b4,b5⟩:=hs.at (eL (p:=l) (i:=0) h0);rw[Nat.zero_mul,tF]at b4;obtain⟨f1,f2⟩:=b5.len;have ex:=rT (d:=zF) f1 rfl;rw[e0]at ex;have kB:ae h N (((h.set N (.cells [.int .i64 0,.aa,.int .i64 0,.aa] 110 true)).set (N+1) (.cells [.int .i64 0,.aa,.int .i64 0,.aa] 110 true)).set (N+1) (.cells cx 110 true)) (N+1+1):=((ae.refl.new _).new _).set (by omega);have gR:(((h.set N (.cells [.int .i64 0,.aa,.int .i64 0,.aa] 110 true)).set (N+1) (.cells [.int .i64 0,.aa,.int .i64 0,.aa] 110 true)).set (N+1) (.cells cx 110 true)).get N=some (.cells [.int .i64 0,.aa,.int .i64 0,.aa] 110 true):=by simp
 have gM:(((h.set N (.cells [.int .i64 0,.aa,.int .i64 0,.aa] 110 true)).set (N+1) (.cells [.int .i64 0,.aa,.int .i64 0,.aa] 110 true)).set (N+1) (.cells cx 110 true)).get (N+1)=some (.cells cx 110 true):=by simp
 have NK:¬i0=N:=by omega
 rw[aV,A.k173 (by simp)];simp(disch:=first|(simp;done)|omega|rfl) [-getElem?_pos, -V.cells, -V.one,A.b173,lv,c1,c2,h0,NK,b1,b2,b3,b4,lY,f1,f2,bE,ex];generalize ((h.set N (.cells [.int .i64 0,.aa,.int .i64 0,.aa] 110 true)).set (N+1) (.cells [.int .i64 0,.aa,.int .i64 0,.aa] 110 true)).set (N+1) (.cells cx 110 true)=H2 at*;refine c_ [(6,6),(14,31)] (fun e r st=>e=.exit 0/\aD N st.w=[]/\ae h N st.h st.n/\N+1<st.n/\st.h.get N=some (.cells [.int .i64 0,.aa,.int .i64 0,.aa] 110 true)/\∃cs,st.h.get (N+1)=some (.cells cs 110 true)/\dB st.h st.n cs (Zva l (l.length-1))) (fun m r st=>aD N st.w=[]/\ae h N st.h st.n/\N+1<st.n/\st.h.get N=some (.cells [.int .i64 0,.aa,.int .i64 0,.aa] 110 true)/\∃t,t+1+m=l.length/\r.get 6=some (.int .i64 ((t:Int)+1))/\∃cs,st.h.get (N+1)=some (.cells cs 110 true)/\dB st.h st.n cs (Zva l t)) (l.length-1) ?_ ?_ ?_
 ·exact⟨Dr fun i hi=>by simp at hi;omega,kB,by show N+1<N+1+1;omega,gR,0,by omega,by simp,cx,gM,b5.ah kB⟩
 ·rintro m r ⟨H,n2,W⟩ hr hf ⟨hW,hK',hn,gN,t,ht,h6,cs,gs,fs⟩;simp only at hW hK' hn gN gs fs;rw[dk];cases m with
  |zero=>
   have e1:l.length-1=t:=by omega
   have c3:¬(t:Int)+1<(l.length:Int):=by omega
   rw[e1];simp(disch:=first|(simp;done)|omega|rfl) [-getElem?_pos,A.zgv,hr,hf,h6,lv,c3,hW,hK',hn,gN,gs];exact fs
  |succ m=>
   have aP:t+1<l.length:=by omega
   have dE:(t:Int)+1<(l.length:Int):=by omega
   have oW:(0:Int)<=(t:Int)+1:=by omega
   have NO:((t:Int)+1).toNat=t+1:=by omega
   obtain⟨i0,o0,y0,z0,q0,cx,b1,b2,b3,b4,b5⟩:=(hs.ah hK').at (eL (p:=l) (i:=t+1) aP);obtain⟨f1,f2⟩:=b5.len;obtain⟨u1,u2⟩:=fs.len;have ss:=tI u1;have bq:=bl _ (eZ (eL (p:=l) (i:=t+1) aP));have bm:=NG bl (k:=t) (by omega);have w1:=bq.iC;have w2:=bm.iC;simp(disch:=first|(simp;done)|omega|rfl) [-getElem?_pos, -V.cells, -V.one,A.zgv,hr,hf,h6,aP,dE,oW,NO,lv,b1,b2,b3,b4,lY,f1,f2,aJ,gs,hn,ss];refine az (Iq b5.fc fs.fc (by omega) (by omega) (by omega) (by omega)) ?_;rintro _ h3 n3 k3 rfl;have xX:=k3.le;have gs3:=(k3.get (N+1) hn).trans gs;have gN3:=(k3.get N (by omega)).trans gN;have b3':=(k3.get i0 b2).trans b3;have b2':i0<n3:=by omega
   have K3:=hK'.trans k3;have l4:N+1<n3:=by omega
   have l5:4<=cs.length:=by omega
   have e5:=rT (d:=cs) f1 u1;have nuS:=fs.KZ;have nN:¬N+1<N:=by omega
   have nN2:¬N=N+1:=by omega
   by_cases hc:Zva l t<pg l (t+1)
   ·have ef:Zva l (t+1)=pg l (t+1):=by rw[Zva,aQ hc]
    have s1:=Yvs.2 hc;simp(disch:=first|(simp;done)|omega|rfl) [-getElem?_pos, -V.cells, -V.one,hr,hf,h6,s1,aP,dE,oW,NO,lv,b1,b2',b3',b4,lY,f1,f2,bE,gs3,l4,e5,l5];exact⟨m,by omega,hW,K3.set (by omega),gN3,t+1,by omega,by simp,by rw[ef];exact(b5.ah k3).aG gs3 nuS (by omega)⟩
   have ef:Zva l (t+1)=Zva l t:=by rw[Zva,aA hc]
   have s1:=mt Yvs.1 hc;simp(disch:=first|(simp;done)|omega|rfl) [-getElem?_pos, -V.cells, -V.one,hr,hf,h6,s1];exact⟨m,by omega,hW,K3,by omega,gN3,t+1,by omega,by simp,cs,gs3,by rw[ef];exact fs.ah k3⟩
 rintro _ r ⟨H,n2,W⟩ hr ⟨rfl,hW,hK',hn,gN,cs,gs,fs⟩;simp only at hW hK' hn gN gs fs;obtain⟨u1,u2⟩:=fs.len;have e5:=rT (d:=zF) u1 rfl;rw[e0]at e5;have ss:=tI u1;have lN:N<n2:=by omega
 simp(disch:=first|(simp;done)|omega|rfl) [-getElem?_pos, -V.cells, -V.one,hr,gs,hn,aJ,ss,lY,u1,u2,bE,gN,lN,e5,aF];exact⟨hW,hK'.set (aZ _),(fs.aG gN (by intro x hx m;simp at hx;rcases hx with rfl|rfl|rfl|rfl<;>simp) (by simp[u1])).up⟩
variable {N:Nat} {a b:Rat} {h:T O} {x:V}
def A.b95:=A.q Tryz.f95
def A.k95:=@A.kk 95 6 [.cell 2 (some 8)] A.b95 (by kernel_rfl) rfl
def A.b96:=A.q Tryz.f96
def A.k96:=@A.kk 96 16 [.cell 4 (some 8)] A.b96 (by kernel_rfl) rfl
def A.b100:=A.q Tryz.f100
def A.k100:=@A.kk 100 16 [.cell 4 (some 8)] A.b100 (by kernel_rfl) rfl
def Bc(h:T O)(N:Nat)(x:V)(a b:Rat):Prop:=∃n1 u1 n2 u2 n3 u3 n4 u4,x=.agg [.int .i64 n1,u1,.int .i64 n2,u2,.int .i64 n3,u3,.int .i64 n4,u4]/\In h N (.agg [.int .i64 n1,u1]) a.num/\In h N (.agg [.int .i64 n2,u2]) (a.den:Nat)/\In h N (.agg [.int .i64 n3,u3]) b.num/\In h N (.agg [.int .i64 n4,u4]) (b.den:Nat)
def Bc.ah{h':T O}{N':Nat}(s:Bc h N x a b)(k:ae h N h' N'):Bc h' N' x a b:=by obtain⟨n1,u1,n2,u2,n3,u3,n4,u4,rfl,s1,s2,s3,s4⟩:=s;exact⟨n1,u1,n2,u2,n3,u3,n4,u4,rfl,s1.ah k,s2.ah k,s3.ah k,s4.ah k⟩
def nu8:sD [V.int .i64 0,.aa,.int .i64 0,.aa,.int .i64 0,.aa,.int .i64 0,.aa]:=by intro x hx m;simp at hx;rcases hx with rfl|rfl|rfl|rfl|rfl|rfl|rfl|rfl<;>simp
def Ydg(hx:Fc h N x a):Fn A.C 95 [x] h N (fun v h' n'=>Bc h' n' v a a):=by
 intro w;obtain⟨n1,u1,n2,u2,rfl,s1,s2⟩:=hx;have o1:=de s1;have o2:=de s2;unfold V.one at o1 o2;rw[aV,A.k95 (by simp)];simp(disch:=first|(simp;done)|omega|rfl) [-getElem?_pos,A.b95,o1,o2,aJ,aE,ag,bE,bU.bZ,aF];have kB:ae h N ((h.set N (.cells [.int .i64 n1,u1,.int .i64 n2,u2] 110 true)).set (N+1) (.cells [.int .i64 0,.aa,.int .i64 0,.aa,.int .i64 0,.aa,.int .i64 0,.aa] 128 true)) (N+1+1):=(ae.refl.new _).new _;have b2:((h.set N (.cells [.int .i64 n1,u1,.int .i64 n2,u2] 110 true)).set (N+1) (.cells [.int .i64 0,.aa,.int .i64 0,.aa,.int .i64 0,.aa,.int .i64 0,.aa] 128 true)).get (N+1)=some (.cells [.int .i64 0,.aa,.int .i64 0,.aa,.int .i64 0,.aa,.int .i64 0,.aa] 128 true):=by simp
 exact⟨kB.set (by omega),n1,u1,n2,u2,n1,u1,n2,u2,rfl,(s1.ah kB).aG b2 nu8 rfl,(s2.ah kB).aG b2 nu8 rfl,(s1.ah kB).aG b2 nu8 rfl,(s2.ah kB).aG b2 nu8 rfl⟩
def Yxd{K:Nat}{y:V}{c d:Rat}(hx:Bc h N x a b)(hy:Bc h N y c d)(qa:Qb K a)(qb:Qb K b)(qc:Qb K c)(qd:Qb K d)(hK:K<=100000000):Fn A.C 96 [x,y] h N (fun v h' n'=>Bc h' n' v (a+c) (b+d)):=by
 intro w;obtain⟨n1,u1,n2,u2,n3,u3,n4,u4,rfl,s1,s2,s3,s4⟩:=hx;obtain⟨m1,v1,m2,v2,m3,v3,m4,v4,rfl,t1,t2,t3,t4⟩:=hy;have o1:=de s1;have o2:=de s2;have o3:=de s3;have o4:=de s4;have p1:=de t1;have p2:=de t2;have p3:=de t3;have p4:=de t4;unfold V.one at o1 o2 o3 o4 p1 p2 p3 p4;have wa:=qa.iC;have wb:=qb.iC;have wc:=qc.iC;have wd:=qd.iC;have kB:ae h N (((h.set N (.cells [.int .i64 n1,u1,.int .i64 n2,u2,.int .i64 n3,u3,.int .i64 n4,u4] 128 true)).set (N+1) (.cells [.int .i64 m1,v1,.int .i64 m2,v2,.int .i64 m3,v3,.int .i64 m4,v4] 128 true)).set (N+1+1) (.cells [.int .i64 0,.aa,.int .i64 0,.aa,.int .i64 0,.aa,.int .i64 0,.aa] 128 true)) (N+1+1+1):=((ae.refl.new _).new _).new _;have b0:(((h.set N (.cells [.int .i64 n1,u1,.int .i64 n2,u2,.int .i64 n3,u3,.int .i64 n4,u4] 128 true)).set (N+1) (.cells [.int .i64 m1,v1,.int .i64 m2,v2,.int .i64 m3,v3,.int .i64 m4,v4] 128 true)).set (N+1+1) (.cells [.int .i64 0,.aa,.int .i64 0,.aa,.int .i64 0,.aa,.int .i64 0,.aa] 128 true)).get N=some (.cells [.int .i64 n1,u1,.int .i64 n2,u2,.int .i64 n3,u3,.int .i64 n4,u4] 128 true):=by simp
 have b1:(((h.set N (.cells [.int .i64 n1,u1,.int .i64 n2,u2,.int .i64 n3,u3,.int .i64 n4,u4] 128 true)).set (N+1) (.cells [.int .i64 m1,v1,.int .i64 m2,v2,.int .i64 m3,v3,.int .i64 m4,v4] 128 true)).set (N+1+1) (.cells [.int .i64 0,.aa,.int .i64 0,.aa,.int .i64 0,.aa,.int .i64 0,.aa] 128 true)).get (N+1)=some (.cells [.int .i64 m1,v1,.int .i64 m2,v2,.int .i64 m3,v3,.int .i64 m4,v4] 128 true):=by simp
 have b2:(((h.set N (.cells [.int .i64 n1,u1,.int .i64 n2,u2,.int .i64 n3,u3,.int .i64 n4,u4] 128 true)).set (N+1) (.cells [.int .i64 m1,v1,.int .i64 m2,v2,.int .i64 m3,v3,.int .i64 m4,v4] 128 true)).set (N+1+1) (.cells [.int .i64 0,.aa,.int .i64 0,.aa,.int .i64 0,.aa,.int .i64 0,.aa] 128 true)).get (N+1+1)=some (.cells [.int .i64 0,.aa,.int .i64 0,.aa,.int .i64 0,.aa,.int .i64 0,.aa] 128 true):=by simp
 rw[aV,A.k96 (by simp)];simp(disch:=first|(simp;done)|omega|rfl) [-getElem?_pos,A.b96,o1,o2,o3,o4,p1,p2,p3,p4,aJ,aE];generalize ((h.set N (.cells [.int .i64 n1,u1,.int .i64 n2,u2,.int .i64 n3,u3,.int .i64 n4,u4] 128 true)).set (N+1) (.cells [.int .i64 m1,v1,.int .i64 m2,v2,.int .i64 m3,v3,.int .i64 m4,v4] 128 true)).set (N+1+1) (.cells [.int .i64 0,.aa,.int .i64 0,.aa,.int .i64 0,.aa,.int .i64 0,.aa] 128 true)=HB at*;have fa:Fc HB (N+1+1+1) (.agg [.int .i64 n1,u1,.int .i64 n2,u2]) a:=⟨n1,u1,n2,u2,rfl,s1.ah kB,s2.ah kB⟩;have fb:Fc HB (N+1+1+1) (.agg [.int .i64 n3,u3,.int .i64 n4,u4]) b:=⟨n3,u3,n4,u4,rfl,s3.ah kB,s4.ah kB⟩;have fc:Fc HB (N+1+1+1) (.agg [.int .i64 m1,v1,.int .i64 m2,v2]) c:=⟨m1,v1,m2,v2,rfl,t1.ah kB,t2.ah kB⟩;have fd:Fc HB (N+1+1+1) (.agg [.int .i64 m3,v3,.int .i64 m4,v4]) d:=⟨m3,v3,m4,v4,rfl,t3.ah kB,t4.ah kB⟩;refine az (KW fa fc (by omega) (by omega) (by omega) (by omega)) ?_;rintro _ h1 Kt k1 ⟨a1,x1,a2,x2,rfl,r1,r2⟩;have b01:=(k1.get N (by omega)).trans b0;have b11:=(k1.get (N+1) (by omega)).trans b1;have b21:=(k1.get (N+1+1) (by omega)).trans b2;have l1:=k1.le;have e0:N<Kt:=by omega
 have e1:N+1<Kt:=by omega
 have e2:N+1+1<Kt:=by omega
 simp(disch:=first|(simp;done)|omega|rfl) [-getElem?_pos,b01,b11,e0,e1,aJ,aE];refine az (KW (fb.ah k1) (fd.ah k1) (by omega) (by omega) (by omega) (by omega)) ?_;rintro _ h2 wY k2 ⟨a3,x3,a4,x4,rfl,r3,r4⟩;have b22:=(k2.get (N+1+1) e2).trans b21;have l2:=k2.le;have e22:N+1+1<wY:=by omega
 have q1:=de r1;have q2:=de r2;have q3:=de r3;have q4:=de r4;unfold V.one at q1 q2 q3 q4;simp(disch:=first|(simp;done)|omega|rfl) [-getElem?_pos,b22,e22,q1,q2,q3,q4,aJ,aE,ag,bE,bU.bZ,aF];exact⟨((kB.trans k1).trans k2).set (by omega),a1,x1,a2,x2,a3,x3,a4,x4,rfl,(r1.ah k2).aG b22 nu8 rfl,(r2.ah k2).aG b22 nu8 rfl,r3.aG b22 nu8 rfl,r4.aG b22 nu8 rfl⟩
def Yxc{K:Nat}{y:V}{c d:Rat}(hx:Bc h N x a b)(hy:Bc h N y c d)(qa:Qb K a)(qb:Qb K b)(qc:Qb K c)(qd:Qb K d)(hK:K<=100000000):Fn A.C 100 [x,y] h N (fun v h' n'=>Bc h' n' v (a-d) (b-c)):=by
 intro w;obtain⟨n1,u1,n2,u2,n3,u3,n4,u4,rfl,s1,s2,s3,s4⟩:=hx;obtain⟨m1,v1,m2,v2,m3,v3,m4,v4,rfl,t1,t2,t3,t4⟩:=hy;have o1:=de s1;have o2:=de s2;have o3:=de s3;have o4:=de s4;have p1:=de t1;have p2:=de t2;have p3:=de t3;have p4:=de t4;unfold V.one at o1 o2 o3 o4 p1 p2 p3 p4;have wa:=qa.iC;have wb:=qb.iC;have wc:=qc.iC;have wd:=qd.iC;have kB:ae h N (((h.set N (.cells [.int .i64 n1,u1,.int .i64 n2,u2,.int .i64 n3,u3,.int .i64 n4,u4] 128 true)).set (N+1) (.cells [.int .i64 m1,v1,.int .i64 m2,v2,.int .i64 m3,v3,.int .i64 m4,v4] 128 true)).set (N+1+1) (.cells [.int .i64 0,.aa,.int .i64 0,.aa,.int .i64 0,.aa,.int .i64 0,.aa] 128 true)) (N+1+1+1):=((ae.refl.new _).new _).new _;have b0:(((h.set N (.cells [.int .i64 n1,u1,.int .i64 n2,u2,.int .i64 n3,u3,.int .i64 n4,u4] 128 true)).set (N+1) (.cells [.int .i64 m1,v1,.int .i64 m2,v2,.int .i64 m3,v3,.int .i64 m4,v4] 128 true)).set (N+1+1) (.cells [.int .i64 0,.aa,.int .i64 0,.aa,.int .i64 0,.aa,.int .i64 0,.aa] 128 true)).get N=some (.cells [.int .i64 n1,u1,.int .i64 n2,u2,.int .i64 n3,u3,.int .i64 n4,u4] 128 true):=by simp
 have b1:(((h.set N (.cells [.int .i64 n1,u1,.int .i64 n2,u2,.int .i64 n3,u3,.int .i64 n4,u4] 128 true)).set (N+1) (.cells [.int .i64 m1,v1,.int .i64 m2,v2,.int .i64 m3,v3,.int .i64 m4,v4] 128 true)).set (N+1+1) (.cells [.int .i64 0,.aa,.int .i64 0,.aa,.int .i64 0,.aa,.int .i64 0,.aa] 128 true)).get (N+1)=some (.cells [.int .i64 m1,v1,.int .i64 m2,v2,.int .i64 m3,v3,.int .i64 m4,v4] 128 true):=by simp
 have b2:(((h.set N (.cells [.int .i64 n1,u1,.int .i64 n2,u2,.int .i64 n3,u3,.int .i64 n4,u4] 128 true)).set (N+1) (.cells [.int .i64 m1,v1,.int .i64 m2,v2,.int .i64 m3,v3,.int .i64 m4,v4] 128 true)).set (N+1+1) (.cells [.int .i64 0,.aa,.int .i64 0,.aa,.int .i64 0,.aa,.int .i64 0,.aa] 128 true)).get (N+1+1)=some (.cells [.int .i64 0,.aa,.int .i64 0,.aa,.int .i64 0,.aa,.int .i64 0,.aa] 128 true):=by simp
 rw[aV,A.k100 (by simp)];simp(disch:=first|(simp;done)|omega|rfl) [-getElem?_pos,A.b100,o1,o2,o3,o4,p1,p2,p3,p4,aJ,aE];generalize ((h.set N (.cells [.int .i64 n1,u1,.int .i64 n2,u2,.int .i64 n3,u3,.int .i64 n4,u4] 128 true)).set (N+1) (.cells [.int .i64 m1,v1,.int .i64 m2,v2,.int .i64 m3,v3,.int .i64 m4,v4] 128 true)).set (N+1+1) (.cells [.int .i64 0,.aa,.int .i64 0,.aa,.int .i64 0,.aa,.int .i64 0,.aa] 128 true)=HB at*;have fa:Fc HB (N+1+1+1) (.agg [.int .i64 n1,u1,.int .i64 n2,u2]) a:=⟨n1,u1,n2,u2,rfl,s1.ah kB,s2.ah kB⟩;have fb:Fc HB (N+1+1+1) (.agg [.int .i64 n3,u3,.int .i64 n4,u4]) b:=⟨n3,u3,n4,u4,rfl,s3.ah kB,s4.ah kB⟩;have fc:Fc HB (N+1+1+1) (.agg [.int .i64 m1,v1,.int .i64 m2,v2]) c:=⟨m1,v1,m2,v2,rfl,t1.ah kB,t2.ah kB⟩;have fd:Fc HB (N+1+1+1) (.agg [.int .i64 m3,v3,.int .i64 m4,v4]) d:=⟨m3,v3,m4,v4,rfl,t3.ah kB,t4.ah kB⟩;refine az (Ycj fa fd (by omega) (by omega) (by omega) (by omega)) ?_;rintro _ h1 Kt k1 ⟨a1,x1,a2,x2,rfl,r1,r2⟩;have b01:=(k1.get N (by omega)).trans b0;have b11:=(k1.get (N+1) (by omega)).trans b1;have b21:=(k1.get (N+1+1) (by omega)).trans b2;have l1:=k1.le;have e0:N<Kt:=by omega
 have e1:N+1<Kt:=by omega
 have e2:N+1+1<Kt:=by omega
 simp(disch:=first|(simp;done)|omega|rfl) [-getElem?_pos,b01,b11,e0,e1,aJ,aE];refine az (Ycj (fb.ah k1) (fc.ah k1) (by omega) (by omega) (by omega) (by omega)) ?_;rintro _ h2 wY k2 ⟨a3,x3,a4,x4,rfl,r3,r4⟩;have b22:=(k2.get (N+1+1) e2).trans b21;have l2:=k2.le;have e22:N+1+1<wY:=by omega
 have q1:=de r1;have q2:=de r2;have q3:=de r3;have q4:=de r4;unfold V.one at q1 q2 q3 q4;simp(disch:=first|(simp;done)|omega|rfl) [-getElem?_pos,b22,e22,q1,q2,q3,q4,aJ,aE,ag,bE,bU.bZ,aF];exact⟨((kB.trans k1).trans k2).set (by omega),a1,x1,a2,x2,a3,x3,a4,x4,rfl,(r1.ah k2).aG b22 nu8 rfl,(r2.ah k2).aG b22 nu8 rfl,r3.aG b22 nu8 rfl,r4.aG b22 nu8 rfl⟩
end
end Go.Mx
