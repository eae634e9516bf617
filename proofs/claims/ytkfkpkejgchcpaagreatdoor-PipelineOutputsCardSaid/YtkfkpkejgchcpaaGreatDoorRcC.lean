/-lensletref01-/
import Derived.Test.YtkfkpkejgchcpaaGreatDoorRbB
set_option linter.all false
namespace Go.Mx
open Go Go.Proofs
set_option maxHeartbeats 4000000
set_option maxRecDepth 1000000
structure SuI (h:T O) (N:Nat) (la lb:List Int) (m:Nat) (r:T V) (st:St):Prop where
 w:Zad N st.w=[]
 keep:Keeps h N st.h st.n
 ex:∃k c out D,k+m=la.length∧r.get 7=some (.int .i64 k)∧r.get 6=some (.int .i64 c)∧r.get 5=some out∧0≤c∧c≤1∧Own 1 3 N st.h st.n out (Zfb D)∧D.length=k∧Di D∧vI D-pI k*c=vI (la.take k)-vI (lb.take k)
def Yac{h:T O}{N:Nat}{u v:V}{a b:Nat}(hu:Dn h N u a)(hv:Dn h N v b)(hab:b≤a)(l1:(ds a).length<1099511627776):Fn A.C 208 [u,v] h N (fun x h' n'=>Dn h' n' x (a-b)):=by
 intro w
 have l2:=Zcv hab
 have da:=Zca a
 have db:=Zca b
 have va:=Zbb a
 have vb:=Zbb b
 have lu:=Sl.len hu
 have lv:=Sl.len hv
 rw[Zat]at lu lv
 have hu:Sl h N u (dI (ds a)):=hu
 have hv:Sl h N v (dI (ds b)):=hv
 generalize hA:ds a=la at*
 generalize hB:ds b=lb at*
 rw[Zac,A.k208 (by simp)]
 simp[A.b208]
 refine Zai [(5,32)] (fun e r st=>e=.exit 0∧SuI h N la lb 0 r st) (SuI h N la lb) la.length ?_ ?_ ?_
 ·exact⟨by simp,Keeps.refl,0,0,.nilslice,[],by omega,by simp,by simp,by simp,by omega,by omega,Own.nil,rfl,Di.nil,by simp[vI]⟩
 ·rintro m r ⟨H,n1,W⟩ hr hf ⟨hW,hK,k,c,out,D,hk,h7,h6,h5,c0,c1,ho,hD,dD,hv0⟩
  simp only at hW hK ho
  rw[Zaj]
  cases m with
  |zero=>
   obtain rfl:k=la.length:=by omega
   simp[A.lb208_0,hr,hf,h7,lu]
   exact⟨hW,hK,la.length,c,out,D,by omega,by simp[h7],by simp[h6],by simp[h5],c0,c1,ho,hD,dD,hv0⟩
  |succ m=>
   have hlt:k<la.length:=by omega
   have hk1:(k:Int)<(la.length:Int):=by omega
   obtain⟨x,hx⟩:=Zag hlt
   have dx:=da.get hx
   have dy:=Yi1 db k
   obtain⟨i,o,cc,e,rw,q1,q2,q3,q4⟩:=(hu.keep hK).at (Zbe hx)
   have e2:=fun w=>Zp5 (w:=w) (i:=k) (hv.keep hK) (by omega) (by omega)
   obtain⟨y,hy⟩:∃y,zI lb k=y:=⟨_,rfl⟩
   rw[hy]at dy e2
   have t3:Zap .i64 (x-y)=x-y:=Zak (by omega) (by omega)
   have t4:Zap .i64 (x-y-c)=x-y-c:=Zak (by omega) (by omega)
   have t5:Zap .i64 (x-y-c+1000000000)=x-y-c+1000000000:=Zak (by omega) (by omega)
   have hs:∀d c':Int,d-1000000000*c'=x-y-c→vI (D++[d])-pI (k+1)*c'=vI (la.take (k+1))-vI (lb.take (k+1)):=fun d c' he=>by
    rw[Zfv,hD,Zba hx,Zl5,hy,Zc5]
    have:d=x-y-c+1000000000*c':=by omega
    subst this
    grind
   have ap:∀d:Int,∃v' h' w',Zbp ⟨H.set n1 (.cells [.int .i64 d] 3 true),n1+1,W⟩ 1 8 3 out (.slice n1 0 1 (some 1) 1)=some (v',⟨h',n1+1+1,w'⟩)∧Zad N w'=[]∧Keeps h N h' (n1+1+1)∧Own 1 3 N h' (n1+1+1) v' (Zfb (D++[d])):=fun d=>by
    have ho2:=ho.keep (Keeps.refl.new (.cells [.int .i64 d] 3 true))
    obtain⟨v',h',w',f1,f2,f3,_,f5⟩:=Zbi (x:=[.int .i64 d]) (u:=.slice n1 0 1 (some 1) 1) (bytes:=8) (w:=W) ho2 (by have:=hK.le;omega) (by decide) rfl (by simp[Zax,St.row,slc]) (by simp[Zfb];omega)
    rw[←Zde]at f5
    exact⟨v',h',w',f1,by rw[f2];exact hW,(hK.new (.cells [.int .i64 d] 3 true)).then f3,f5⟩
   by_cases hneg:x-y-c<0
   ·obtain⟨v',h',w',f1,f2,f3,f5⟩:=ap (x-y-c+1000000000)
    simp[A.lb208_0,hr,hf,h7,h6,h5,lu,hk1,hlt,q1,q2,q3,q4,e2,t3,t4,t5,hneg,splice,Zao.chk]
    simp(disch:=first|(simp;done)|omega|rfl) [f1,hr,hf,h7]
    exact⟨m,by omega,⟨f2,f3,k+1,1,v',D++[x-y-c+1000000000],by omega,by simp,by simp,by simp,by omega,by omega,f5,by simp[hD],dD.app (Di.one (by omega) (by omega)),hs _ _ (by omega)⟩⟩
   ·obtain⟨v',h',w',f1,f2,f3,f5⟩:=ap (x-y-c)
    simp[A.lb208_0,hr,hf,h7,h6,h5,lu,hk1,hlt,q1,q2,q3,q4,e2,t3,t4,hneg,splice,Zao.chk]
    simp(disch:=first|(simp;done)|omega|rfl) [f1,hr,hf,h7]
    exact⟨m,by omega,⟨f2,f3,k+1,0,v',D++[x-y-c],by omega,by simp,by simp,by simp,by omega,by omega,f5,by simp[hD],dD.app (Di.one (by omega) (by omega)),hs _ _ (by omega)⟩⟩
 ·rintro _ r ⟨H,n1,W⟩ hr ⟨rfl,hW,hK,k,c,out,D,hk,h7,h6,h5,c0,c1,ho,hD,dD,hv0⟩
  simp only at hW hK ho
  obtain rfl:k=la.length:=by omega
  rw[Zlp (Yr4 _),Zlp (by omega),va,vb]at hv0
  have hlt:=Zia dD
  rw[hD]at hlt
  have c2:c=0:=by
   apply Int.le_antisymm _ c0
   apply Yu4
   intro hc
   have:c=1:=by omega
   subst this
   omega
  subst c2
  have hvD:vI D=((a-b:Nat):Int):=by omega
  simp[hr,h5]
  refine Zaf (Zf0 ho.sl (by omega)) ?_
  rintro v2 h2 n2 k2 q2
  rw[Zfx dD hvD]at q2
  simp[Ret,hW]
  exact⟨hK.trans k2,q2⟩
def Ydh{a b:Nat}:(0≤Yd7 a b)↔b≤a:=by unfold Yd7;split<;>(try split)<;>omega
def Yjx{h:T O}{N:Nat}{x y:V}{a b:Int}(hx:Rg h N x a)(hy:Rg h N y b)(l1:(ds a.natAbs).length<500000000000)(l2:(ds b.natAbs).length<500000000000):Fn A.C 153 [x,y] h N (fun u h' n'=>Rg h' n' u (a+b)):=by
 intro w
 obtain⟨u,rfl,hu⟩:=hx
 obtain⟨v,rfl,hv⟩:=hy
 have o1:=Sl.form hu |>.one
 have o2:=Sl.form hu |>.cells
 have o3:=Sl.form hv |>.one
 have o4:=Sl.form hv |>.cells
 unfold V.one at o1 o3
 unfold V.cells at o2 o4
 have kB:=((((Keeps.refl (h:=h) (n:=N)).new (.cells [.bool (decide (a<0)),u] 176 true)).new (.cells [.bool (decide (b<0)),v] 176 true)).new (.cells [.bool false,.nilslice] 176 true))
 rw[Zac,A.k153 (by simp)]
 generalize hB:((h.set N (.cells [.bool (decide (a<0)),u] 176 true)).set (N+1) (.cells [.bool (decide (b<0)),v] 176 true)).set (N+1+1) (.cells [.bool false,.nilslice] 176 true)=HB at kB
 have gr:HB.get (N+1+1)=some (.cells [.bool false,.nilslice] 176 true):=by rw[←hB];simp
 have gx:HB.get N=some (.cells [.bool (decide (a<0)),u] 176 true):=by rw[←hB];simp
 have gy:HB.get (N+1)=some (.cells [.bool (decide (b<0)),v] 176 true):=by rw[←hB];simp
 by_cases hsg:decide (a<0)=decide (b<0)
 ·have hsb:(decide (a<0)==decide (b<0))=true:=by rw[hsg];simp
  simp[A.b153,o1,o2,o3,o4,splice,Zam,slc,Zae,hsb]
  simp only[hB]
  refine Zaf (Yju (Sl.keep hu kB) (Sl.keep hv kB) (Zca _) (Zca _) (by omega) (by omega)) ?_
  rintro v1 h1 n1 k1 ⟨l,q1,q2,q3,q4⟩
  rw[Zbb,Zbb]at q3
  have ez:(if decide (a<0)=true then -((a.natAbs+b.natAbs:Nat):Int) else ((a.natAbs+b.natAbs:Nat):Int))=a+b:=by
   by_cases h1:a<0<;>by_cases h2:b<0<;>simp[h1,h2]at hsg ⊢<;>omega
  simp[]
  refine Zaf (Zbz (b:=decide (a<0)) (n:=a.natAbs+b.natAbs) q1 q2 (by rw[q3];try simp) (by omega)) ?_
  rintro v2 h2 n2 k2 hr2
  rw[ez]at hr2
  have le1:=k1.le
  have le2:=k2.le
  have g1:=(k2.get (N+1+1) (by omega)).trans ((k1.get (N+1+1) (by omega)).trans gr)
  obtain⟨u2,rfl,hu2⟩:=hr2
  have p1:=Sl.form hu2 |>.one
  have p2:=Sl.form hu2 |>.cells
  unfold V.one at p1
  unfold V.cells at p2
  simp[g1,p1,p2,splice,Zal,Zam,slc,Ret,Zao.chk]
  exact⟨by split<;>simp[Zad],((kB.trans k1).trans k2).set (by omega),u2,rfl,Sl.setInt hu2 g1 nint rfl⟩
 ·have hsb:(decide (a<0)==decide (b<0))=false:=by simpa using hsg
  have hcm:=fun w=>Zue (w:=w) (Sl.keep hu kB) (Sl.keep hv kB) (by omega) (by omega)
  by_cases hge:b.natAbs≤a.natAbs
  ·have hge':0≤Yd7 a.natAbs b.natAbs:=Ydh.2 hge
   simp[A.b153,o1,o2,o3,o4,splice,Zam,slc,Zae,hsb]
   simp only[hB]
   simp[hcm,hge',gx,gy,Zam,splice,slc]
   refine Zaf (Yac (Sl.keep hu kB) (Sl.keep hv kB) hge (by omega)) ?_
   rintro v1 h1 n1 k1 q1
   have q2:=Zca (a.natAbs-b.natAbs)
   have q3:=Zbb (a.natAbs-b.natAbs)
   have q4:=Zcv (Nat.sub_le a.natAbs b.natAbs)
   have ez:(if decide (a<0)=true then -((a.natAbs-b.natAbs:Nat):Int) else ((a.natAbs-b.natAbs:Nat):Int))=a+b:=by
    by_cases h1:a<0<;>by_cases h2:b<0<;>simp[h1,h2]at hsg ⊢<;>omega
   simp[]
   refine Zaf (Zbz (b:=decide (a<0)) (n:=a.natAbs-b.natAbs) q1 q2 (by rw[q3];try simp) (by omega)) ?_
   rintro v2 h2 n2 k2 hr2
   rw[ez]at hr2
   have le1:=k1.le
   have le2:=k2.le
   have g1:=(k2.get (N+1+1) (by omega)).trans ((k1.get (N+1+1) (by omega)).trans gr)
   obtain⟨u2,rfl,hu2⟩:=hr2
   have p1:=Sl.form hu2 |>.one
   have p2:=Sl.form hu2 |>.cells
   unfold V.one at p1
   unfold V.cells at p2
   simp[g1,p1,p2,splice,Zal,Zam,slc,Ret,Zao.chk]
   exact⟨by split<;>simp[Zad],((kB.trans k1).trans k2).set (by omega),u2,rfl,Sl.setInt hu2 g1 nint rfl⟩
  ·have hge':¬0≤Yd7 a.natAbs b.natAbs:=fun hc=>hge (Ydh.1 hc)
   simp[A.b153,o1,o2,o3,o4,splice,Zam,slc,Zae,hsb]
   simp only[hB]
   simp[hcm,hge',gx,gy,Zam,splice,slc]
   refine Zaf (Yac (Sl.keep hv kB) (Sl.keep hu kB) (by omega) (by omega)) ?_
   rintro v1 h1 n1 k1 q1
   have q2:=Zca (b.natAbs-a.natAbs)
   have q3:=Zbb (b.natAbs-a.natAbs)
   have q4:=Zcv (Nat.sub_le b.natAbs a.natAbs)
   have ez:(if decide (b<0)=true then -((b.natAbs-a.natAbs:Nat):Int) else ((b.natAbs-a.natAbs:Nat):Int))=a+b:=by
    by_cases h1:a<0<;>by_cases h2:b<0<;>simp[h1,h2]at hsg ⊢<;>omega
   simp[]
   refine Zaf (Zbz (b:=decide (b<0)) (n:=b.natAbs-a.natAbs) q1 q2 (by rw[q3];try simp) (by omega)) ?_
   rintro v2 h2 n2 k2 hr2
   rw[ez]at hr2
   have le1:=k1.le
   have le2:=k2.le
   have g1:=(k2.get (N+1+1) (by omega)).trans ((k1.get (N+1+1) (by omega)).trans gr)
   obtain⟨u2,rfl,hu2⟩:=hr2
   have p1:=Sl.form hu2 |>.one
   have p2:=Sl.form hu2 |>.cells
   unfold V.one at p1
   unfold V.cells at p2
   simp[g1,p1,p2,splice,Zal,Zam,slc,Ret,Zao.chk]
   exact⟨by split<;>simp[Zad],((kB.trans k1).trans k2).set (by omega),u2,rfl,Sl.setInt hu2 g1 nint rfl⟩
variable {n:Nat}
def A.lb204_0:Zah:=.seq (sr [mv 6 0,bc 7 .gtr 6 0,mv 8 7,mh 9 5 8,gz 10 8 (.len 0 (tq 9)),mh 11 1 8,gz 12 8 (.bin .lss (.node []) false (tq 10) (tq 11)),pt 13 8 12]
 (cd 13
 (.skip)
 (.exit 0)))
 (.block 1 (sr [mv 14 0,bc 15 .rem 14 10,mv 16 0,bc 17 .rem 16 10,bc 18 .add 17 1,ge 19 (.sliceStr (.const (.str [48,49,50,51,52,53,54,55,56,57])) (some (tq 15)) (some (tq 18))),mv 20 5,bi 21 .add 19 20,mv 5 21]
 (.reg [mv 22 0,bc 23 .quo 22 10,mv 0 23])))
def A.b204:Zah:=sr [ge 4 (.mov (.const (.str [])))]
 (sr [ge 5 (.mov (.const (.str [])))]
 (.seq (.block 0 (.loop A.lb204_0))
 (sr [mv 24 5,mv 4 24]
 (.ret))))
def A.k204:=@A.kk 204 25 [.tmp 4] A.b204 (by kernel_rfl) rfl
def A.lb206_0:Zah:=.seq (sr [mv 22 4,bc 23 .geq 22 0]
 (cd 23
 (.skip)
 (.exit 0)))
 (.seq (.block 1 (.reg [mv 26 3,fa 27 1 1,ld 28 27,mv 29 4,ia 30 1 28 29,ld 31 30,ge 32 (.call (fq 204) [tq 31,.const (.int .i64 9)]),bi 33 .add 26 32,mv 3 33]))
 (.reg [mv 24 4,bc 25 .sub 24 1,mv 4 25]))
def A.b206:Zah:=sr [bx 1 176 0,ge 2 (.mov (.const (.str [])))]
 (.seq (sr [fa 5 1 1,ld 6 5,ln 7 6,ei 8 7 0]
 (cd 8
 (sr [ge 2 (.mov (.const (.str [48])))]
 (.ret))
 (.skip)))
 (sr [fa 9 1 1,ld 10 9,fa 11 1 1,ld 12 11,ln 13 12,bc 14 .sub 13 1,ia 15 1 10 14,ld 16 15,ge 17 (.call (fq 204) [tq 16,.const (.int .i64 1)]),mv 3 17]
 (.seq (sr [fa 18 1 1,ld 19 18,ln 20 19,bc 21 .sub 20 2,mv 4 21]
 (.block 0 (.loop A.lb206_0)))
 (.seq (sr [fa 34 0 1,ld 35 34]
 (cd 35
 (sr [mv 36 3,ge 37 (.bin .add (.node []) false (.const (.str [45])) (tq 36)),mv 2 37]
 (.ret))
 (.skip)))
 (sr [mv 38 3,mv 2 38]
 (.ret))))))
def A.k206:=@A.kk 206 39 [.tmp 2] A.b206 (by kernel_rfl) rfl
def Yc3:Zhu 0 0=[]:=by simp[Zhu,Zbg]
def Yc4{m:Nat}(h:n≠0∨0<m):Zhu n m=Zhu (n/10) (m-1)++[dch n]:=by
 unfold Zhu
 by_cases hn:n=0
 ·subst hn
  have hm:0<m:=by omega
  simp only[Zbg,Nat.zero_div,List.length_nil,Nat.sub_zero,Yuy]
  obtain⟨k,rfl⟩:∃k,m=k+1:=⟨m-1,by omega⟩
  have:dch 0=48:=by decide
  rw[this,List.replicate_succ',Nat.add_sub_cancel]
 ·rw[Zce hn]
  have:m-(Zc1 (n/10)++[dch n]).length=m-1-(Zc1 (n/10)).length:=by simp;omega
  rw[this,Yth]
def Ylg{k:Nat}(hk:k<10):(Yp0.take (k+1)).drop k=[dch k]:=by
 have:k=0∨k=1∨k=2∨k=3∨k=4∨k=5∨k=6∨k=7∨k=8∨k=9:=by omega
 rcases this with rfl|rfl|rfl|rfl|rfl|rfl|rfl|rfl|rfl|rfl<;>decide
def Ylj(n:Nat):dch (n%10)=dch n:=by unfold dch;rw[Nat.mod_mod]
def Zd2{m:Nat}{st:St}(hn:n<9223372036854775808)(hm:m<1000):A.C.call (.func 204 [] []) [.int .i64 n,.int .i64 m] st=some (.str (Zhu n m),st):=by
 apply Call.eq
 rw[Zac,A.k204 (by simp)]
 simp[A.b204]
 have hlen:(Zhu n m).length<2000:=by
  have:(Zc1 n).length≤19:=Zaw.1 (by omega)
  unfold Zhu
  simp;omega
 refine Zai [(0,0),(5,23)] (fun e r s1=>s1=⟨st.h,st.n,[]⟩∧e=.exit 0∧r.get 5=some (.str (Zhu n m))) (fun q r s1=>s1=⟨st.h,st.n,[]⟩∧∃k s,q=k+(m-s.length)∧k<9223372036854775808∧r.get 0=some (.int .i64 k)∧r.get 5=some (.str s)∧Zhu n m=Zhu k (m-s.length)++s) (n+m) ?_ ?_ ?_
 ·exact⟨rfl,n,[],by simp,hn,by simp,by simp,by simp⟩
 ·rintro q r _ hr hf ⟨rfl,k,s,rfl,hk,h0,h5,hd⟩
  rw[Zaj]
  by_cases hgo:k≠0∨0<m-s.length
  ·have hst:=Yc4 (n:=k) (m:=m-s.length) hgo
   rw[hst,Yth,Yvx]at hd
   have hsl:s.length+1<2000:=by
    have:=congrArg List.length hd
    simp at this;omega
   have t1:(k:Int).tmod 10=((k%10:Nat):Int):=by rw[Ytx (by omega)];omega
   have t2:(k:Int).tdiv 10=((k/10:Nat):Int):=by rw[Ytk (by omega)];omega
   have t3:Zap .i64 ((k/10:Nat):Int)=((k/10:Nat):Int):=Zak (by omega) (by omega)
   have t4:Zap .i64 (((k%10:Nat):Int)+1)=((k%10+1:Nat):Int):=by rw[Zak (by omega) (by omega)];omega
   have hsl2:¬(9223372036854775807:Int)<1+(s.length:Int):=by omega
   have hmx:IntKind.max .i64=9223372036854775807:=rfl
   have sl:∀st:St,Zch st (some (.str [48,49,50,51,52,53,54,55,56,57])) (some (some (.int .i64 ((k:Int)%10)))) (some (some (.int .i64 ((k:Int)%10+1))))=some (.str [dch k],st):=fun st=>by
    rw[Zoc (by omega) (by omega) (by simp;omega)]
    have e1:((k:Int)%10).toNat=k%10:=by omega
    have e2:((k:Int)%10+1).toNat=k%10+1:=by omega
    rw[e1,e2]
    have:=Ylg (k:=k%10) (by omega)
    rw[Ylj]at this
    exact congrArg (fun x=>some (V.str x,st)) this
   have hgo':0<k∨(¬0<k∧s.length<m):=by omega
   rcases hgo' with g1|⟨g1,g2⟩
   ·have i1:(0:Int)<(k:Int):=by omega
    simp(disch:=first|(simp;done)|omega|rfl) [A.lb204_0,hr,hf,h0,h5,g1,i1,t1,t2,t3,t4,Zbh,hmx,sl,hsl2]
    exact⟨k/10+(m-(s.length+1)),by omega,k/10,dch k::s,by simp,by omega,by simp,by simp,by rw[hd,Yr2,Nat.sub_sub]⟩
   ·have i1:¬(0:Int)<(k:Int):=by omega
    have i2:(s.length:Int)<(m:Int):=by omega
    simp(disch:=first|(simp;done)|omega|rfl) [A.lb204_0,hr,hf,h0,h5,g1,g2,i1,i2,t1,t2,t3,t4,Zbh,hmx,sl,hsl2]
    exact⟨k/10+(m-(s.length+1)),by omega,k/10,dch k::s,by simp,by omega,by simp,by simp,by rw[hd,Yr2,Nat.sub_sub]⟩
  ·have g1:¬0<k:=by omega
   have g2:¬s.length<m:=by omega
   have i1:¬(0:Int)<(k:Int):=by omega
   have i2:¬(s.length:Int)<(m:Int):=by omega
   obtain rfl:k=0:=by omega
   rw[show m-s.length=0 by omega,Yc3,List.nil_append]at hd
   simp[A.lb204_0,hr,hf,h0,h5,g1,g2,i1,i2,hd]
 ·rintro _ r _ hr ⟨rfl,rfl,h5⟩
  simp[hr,h5]
def Znf:(decN n).length≤9*(ds n).length+1:=by
 have h1:n<10^(9*(ds n).length):=by
  have h2:=Zia (Zca n)
  rw[Zbb,Zpp]at h2
  have h3:=Int.ofNat_lt.1 h2
  rw[Nat.pow_mul]
  exact h3
 have:=Zaw.1 h1
 unfold decN
 split<;>simp<;>omega
def Zuc{k:Nat}:(decN (n/k)).length≤9*(ds n).length+1:=by
 have h1:=Znf (n:=n/k)
 have h2:=Zcv (Ytw n k)
 omega
def Zhl{h:T O}{N:Nat}{x:V}{z:Int}(hx:Rg h N x z)(hl:(ds z.natAbs).length<100000000000):Fn A.C 206 [x] h N (fun u _ _=>u=.str (decI z)):=by
 intro w
 obtain⟨u,rfl,hu⟩:=hx
 have o1:=Sl.form hu |>.one
 have o2:=Sl.form hu |>.cells
 unfold V.one at o1
 unfold V.cells at o2
 have kB:=((Keeps.refl (h:=h) (n:=N)).new (.cells [.bool (decide (z<0)),u] 176 true))
 have hu2:Sl (h.set N (.cells [.bool (decide (z<0)),u] 176 true)) (N+1) u (dI (ds z.natAbs)):=Sl.keep hu kB
 have lu:=hu2.len
 rw[Zat]at lu
 rw[Zac,A.k206 (by simp)]
 by_cases h0:z=0
 ·subst h0
  have e0:(ds (0:Int).natAbs).length=0:=by rw[show (0:Int).natAbs=0 from rfl,Zcn];rfl
  rw[e0]at lu
  have e1:decI 0=[48]:=by decide
  simp[A.b206,o1,o2,splice,lu,Zae,Ret,e1]
  exact kB
 obtain⟨n,hn⟩:∃n,z.natAbs=n:=⟨_,rfl⟩
 rw[hn]at lu hu2 hl
 have hnz:n≠0:=by omega
 have hpos:(ds n).length≠0:=fun hc=>hnz (Zdr.1 (Ysh hc))
 obtain⟨L,hL⟩:∃L,(ds n).length=L+1:=⟨(ds n).length-1,by omega⟩
 have hdn:=fun (k:Nat)=>Zuc (n:=n) (k:=k)
 rw[hL]at lu
 obtain⟨f,hF⟩:∃f:Nat→Str,∀m,f m=decN (n/1000000000^m):=⟨_,fun _=>rfl⟩
 obtain⟨g,hG⟩:∃g:Nat→Nat,∀m,g m=n/1000000000^m%1000000000:=⟨_,fun _=>rfl⟩
 have hf0:f 0=decN n:=by rw[hF];simp
 have hgl:∀m,g m<1000000000:=fun m=>by rw[hG];exact Ys9 _ (by omega)
 have hg:∀m,m<L+1→(ds n)[m]?=some (g m):=fun m hm=>by rw[hG];exact Zv6 (by omega)
 have hft:f L=Zhu (g L) 1:=by rw[hF,hG];exact Yg1 hL.symm
 have hfs:∀m,m<L→f m=f (m+1)++Zhu (g m) 9:=fun m hm=>by rw[hF,hF,hG];exact Yc5 (by omega)
 have hfl:∀m,(f m).length≤9*(L+1)+1:=fun m=>by rw[hF,←hL];exact hdn _
 clear hF hG hdn
 obtain⟨i,o,c,e,rw,q1,q2,q3,q4⟩:=hu2.at (Zbe (hg L (by omega)))
 have c1:¬((L:Int)+1=0):=by omega
 have c2:((L:Int)+1-1)=(L:Int):=by omega
 have c3:(L:Int)<(L:Int)+1:=by omega
 have c4:((L:Int)+1-2)=(L:Int)-1:=by omega
 have c5:Zap .i64 ((L:Int)+1-1)=(L:Int):=by rw[c2];exact Zak (by omega) (by omega)
 have c6:Zap .i64 ((L:Int)+1-2)=(L:Int)-1:=by rw[c4];exact Zak (by omega) (by omega)
 have hdc:∀m st,A.C.call (.func 204 [] []) [.int .i64 (g m),.int .i64 1] st=some (.str (Zhu (g m) 1),st):=fun m st=>Zd2 (n:=g m) (m:=1) (st:=st) (by have:=hgl m;omega) (by omega)
 have hdd:∀m st,A.C.call (.func 204 [] []) [.int .i64 (g m),.int .i64 9] st=some (.str (Zhu (g m) 9),st):=fun m st=>Zd2 (n:=g m) (m:=9) (st:=st) (by have:=hgl m;omega) (by omega)
 simp(disch:=omega) [A.b206,o1,o2,splice,lu,Zae,c1,c2,c3,c5,c6,q1,q3,q4,hdc]
 rw[←hft]
 refine Zai [(3,4),(22,33)] (fun e r s1=>s1=⟨h.set N (.cells [.bool (decide (z<0)),u] 176 true),N+1,[]⟩∧e=.exit 0∧r.get 1=some (.ptr N 0)∧r.get 3=some (.str (decN n))) (fun m r s1=>s1=⟨h.set N (.cells [.bool (decide (z<0)),u] 176 true),N+1,[]⟩∧m≤L∧r.get 1=some (.ptr N 0)∧r.get 4=some (.int .i64 ((m:Int)-1))∧r.get 3=some (.str (f m))) L ?_ ?_ ?_
 ·exact⟨rfl,by omega,by simp,by simp,by simp⟩
 ·rintro m r _ hr hf ⟨rfl,hm,h1,h4,h3⟩
  rw[Zaj]
  rcases m with _|m
  ·have e1:(((0:Nat):Int)-1<0):=by omega
   rw[hf0]at h3
   simp[A.lb206_0,hr,hf,h1,h3,h4,e1]
  ·have e3:(((m+1:Nat):Int)-1)=(m:Int):=by omega
   have e4:¬((m:Int)<0):=by omega
   rw[e3]at h4
   obtain⟨i,o,c,e,rw,q1,q2,q3,q4⟩:=hu2.at (Zbe (hg m (by omega)))
   have hp:(f m).length=(f (m+1)).length+(Zhu (g m) 9).length:=by rw[hfs m (by omega),Ysn]
   have hp2:¬(9223372036854775807:Int)<((f (m+1)).length:Int)+((Zhu (g m) 9).length:Int):=by have:=hfl m;omega
   have hmx:IntKind.max .i64=9223372036854775807:=rfl
   have w1:Zap .i64 ((m:Int)-1)=(m:Int)-1:=Zak (by omega) (by omega)
   have c7:(m:Int)<(L:Int)+1:=by omega
   have f1:=(hfs m (by omega)).symm
   have f2:m<m+1∧m≤L:=by omega
   have hdm:=hdd m
   clear hp hpos hnz hn hm hl hL hfs hfl hdd hdc hft hg hgl hf0
   simp[A.lb206_0,hr,hf,h1,h3,h4,e4,o1,o2,splice,lu,c7,q1,q3,q4,hdm,Zbh,hmx,hp2,w1,f1]
   exact⟨m,f2.1,f2.2,rfl,rfl⟩
 ·rintro _ r _ hr ⟨rfl,rfl,h1,h3⟩
  have hl2:=Znf (n:=n)
  have hmx:IntKind.max .i64=9223372036854775807:=rfl
  have hsl:¬(9223372036854775807:Int)<1+((decN n).length:Int):=by omega
  by_cases hz:z<0
  ·have e1:decI z=45::decN n:=by unfold decI;rw[Yr6 hz,hn]
   clear hl2 hpos hnz hn hL hfs hfl hdd hdc hft hg hgl hf0 hl
   simp[hr,h1,h3,hz,o1,o2,splice,Zbh,hmx,hsl,Ret,e1]
   simpa[hz]using kB
  ·have e1:decI z=decN n:=by unfold decI;rw[Yr3 hz,hn]
   clear hl2 hpos hnz hn hL hfs hfl hdd hdc hft hg hgl hf0 hl
   simp[hr,h1,h3,hz,o1,o2,splice,Ret,e1]
   simpa[hz]using kB
open Go
def Ynn{P d1 d2 d3 v1 v2 U' V' t r:Int}(hP:0<P)(hU0:0≤U')(hU:U'<P)(hV0:0≤V')(hV:V'<P)(h1:0≤d1)(h1':d1<1000000000)(h2:0≤d2)(h3:0≤d3)(w1:500000000≤v1)(w2:0≤v2)(w2':v2<1000000000)
  (hW:U'+P*(d1+1000000000*(d3*1000000000+d2))<1000000000*(V'+P*(v2+1000000000*v1))) (ht:d3*1000000000+d2=t*v1+r) (hr0:0≤r) (hr1:r<v1):
  0≤t∧t≤1000000001∧U'+P*(d1+1000000000*(d3*1000000000+d2))<(t+1)*(V'+P*(v2+1000000000*v1)):=by
 generalize hT:d3*1000000000+d2=T at*
 have hT0:0≤T:=by omega
 have t0:0≤t:=by
  apply Yu4;intro hc
  have:t*v1≤(-1)*v1:=Ytq (by omega) (by omega)
  omega
 have a1:T<1000000000*(v1+1):=by
  apply Yvn;intro hc
  have b1:P*(1000000000*(v1+1))≤P*T:=Ysj hc (by omega)
  have b2:0≤P*d1:=Ytz (by omega) h1
  have b3:P*v2≤P*999999999:=Ysj (by omega) (by omega)
  have b4:P*(d1+1000000000*T)=P*d1+1000000000*(P*T):=by grind
  have b5:P*(v2+1000000000*v1)=P*v2+1000000000*(P*v1):=by grind
  have b6:P*(1000000000*(v1+1))=1000000000*(P*v1)+1000000000*P:=by grind
  omega
 have a2:t≤1000000001:=by
  apply Yu4;intro hc
  have b1:1000000002*v1≤t*v1:=Ytq (by omega) (by omega)
  omega
 refine⟨t0,a2,?_⟩
 have c1:(t+1)*v1=t*v1+v1:=by grind
 have b1:P*(T+1)≤P*((t+1)*v1):=Ysj (by omega) (by omega)
 have b2:P*d1≤P*999999999:=Ysj (by omega) (by omega)
 have b3:0≤(t+1)*V':=Ytz (by omega) hV0
 have b4:0≤(t+1)*(P*v2):=Ytz (by omega) (Ytz (by omega) w2)
 have b5:P*(d1+1000000000*T)=P*d1+1000000000*(P*T):=by grind
 have b6:(t+1)*(V'+P*(v2+1000000000*v1))=(t+1)*V'+(t+1)*(P*v2)+1000000000*(P*((t+1)*v1)):=by grind
 have b7:P*(T+1)=P*T+P:=by grind
 omega
set_option maxHeartbeats 2000000
def A.lb202_0:Zah:=.seq (.seq (.regD [mv 42 9,bc 43 .geq 42 1000000000,mv 44 43,mh 45 9 44,mh 46 1 44,mh 47 7 44,gz 48 44 (.bin .sub (.node []) false (tq 47) (kq 2)),gz 49 44 (.iaddrSl 1 (tq 46) (tq 48)),gz 50 44 (.load none (tq 49)),gz 51 44 (.bin .mul (.node []) false (tq 45) (tq 50)),mh 52 10 44,gz 53 44 (.bin .mul (.node []) false (tq 52) (kq 1000000000)),mh 54 0 44,mh 55 2 44,mh 56 7 44,gz 57 44 (.bin .add (.node []) false (tq 55) (tq 56)),gz 58 44 (.bin .sub (.node []) false (tq 57) (kq 2)),gz 59 44 (.iaddrSl 1 (tq 54) (tq 58)),gz 60 44 (.load none (tq 59)),gz 61 44 (.bin .add (.node []) false (tq 53) (tq 60)),gz 62 44 (.bin .gtr (.node []) false (tq 51) (tq 61)),pt 63 44 62] [0,1,3,7,7,7,39,119,247,511,7,1031,7,7,7,24583,57351,126983,258055,523271,1048575,2097151])
 (cd 63
 (.skip)
 (.exit 0)))
 (.block 1 (sr [mv 64 9,bc 65 .sub 64 1,mv 9 65]
 (sr [mv 66 10,mv 67 1,mv 68 7,bc 69 .sub 68 1,ia 70 1 67 69,ld 71 70,bi 72 .add 66 71,mv 10 72]
 (sr [mv 73 10,bc 74 .geq 73 1000000000]
 (cd 74
 (sr [mv 75 9,mv 6 75]
 (.ret))
 (.skip))))))
def A.b202:Zah:=sr [mc 6 0]
 (sr [mv 11 1,ln 12 11,mv 7 12]
 (.seq (.regD [mv 13 0,mv 14 2,mv 15 7,bi 16 .add 14 15,ia 17 1 13 16,ld 18 17,bc 19 .mul 18 1000000000,mv 20 0,mv 21 2,mv 22 7,bi 23 .add 21 22,bc 24 .sub 23 1,ia 25 1 20 24,ld 26 25,bi 27 .add 19 26,mv 8 27] [0,0,0,6,15,31,63,0,0,0,768,1792,3968,8064,16383,32767])
 (.seq (.regD [mv 28 8,mv 29 1,mv 30 7,bc 31 .sub 30 1,ia 32 1 29 31,ld 33 32,bi 34 .quo 28 33,mv 35 8,mv 36 1,mv 37 7,bc 38 .sub 37 1,ia 39 1 36 38,ld 40 39,bi 41 .rem 35 40,mv 9 34,mv 10 41] [0,0,0,4,14,30,63,0,0,0,512,1792,3840,8064,127,32767])
 (.seq (.block 0 (.loop A.lb202_0))
 (sr [mv 76 9,mv 6 76]
 (.ret))))))
def A.k202:=@A.kk 202 77 [.tmp 6] A.b202 (by kernel_rfl) rfl
structure GuR (W D v1 top:Int) (m:Nat) (r:T V):Prop where
 ex:∃t q:Int,t.toNat=m∧r.get 9=some (.int .i64 t)∧r.get 10=some (.int .i64 q)∧0≤t∧t≤1000000001∧0≤q∧q<1000000000∧top=t*v1+q∧W<(t+1)*D
def Ygh{h:T O}{N:Nat}{u v:V}{L Y:List Int}{j k:Nat}{d1 d2 d3 v1 v2 P U' V' W D:Int}{w:List Nat}(hu:Sl h N u (dI L))(hv:Sl h N v (dI Y))(hY:Y.length=k+2)(hL:L.length<1099511627776)(e1:L[j+k]?=some d1)(e2:L[j+k+1]?=some d2)(e3:L[j+k+2]?=some d3)(f2:Y[k]?=some v2)(f1:Y[k+1]?=some v1)
  (r1:0≤d1∧d1<1000000000) (r2:0≤d2∧d2<1000000000) (r3:0≤d3∧d3<1000000000) (r4:500000000≤v1∧v1<1000000000) (r5:0≤v2∧v2<1000000000) (hP:0<P) (hU0:0≤U') (hU:U'<P) (hV0:0≤V') (hV:V'<P) (hW:W=U'+P*(d1+1000000000*(d3*1000000000+d2))) (hD:D=V'+P*(v2+1000000000*v1)) (hWD:W<1000000000*D):
  ∃t,A.C.call (.func 202 [] []) [u,v,.int .i64 j] ⟨h,N,w⟩=some (.int .i64 t,⟨h,N,w⟩)∧0≤t∧t≤1000000000∧(t-1)*D≤W∧W<(t+1)*D:=by
 have lu:=hu.len
 have lv:=hv.len
 rw[Zat]at lu lv
 rw[hY]at lv
 have hjk:=Zaz e3
 have goal:Call A.C (.func 202 [] []) [u,v,.int .i64 j] ⟨h,N,w⟩ (fun x s=>s=⟨h,N,w⟩∧∃t,x=.int .i64 t∧0≤t∧t≤1000000000∧(t-1)*D≤W∧W<(t+1)*D):=by
  obtain⟨a1,a2,a3,a4,a5,x1,x2,x3,x4⟩:=hu.at (Zbe e1)
  obtain⟨a1',a2',a3',a4',a5',x1',x2',x3',x4'⟩:=hu.at (Zbe e2)
  obtain⟨a1'',a2'',a3'',a4'',a5'',x1'',x2'',x3'',x4''⟩:=hu.at (Zbe e3)
  rw[x1]at x1' x1''
  simp only[Yr1,Yr5]at x1' x1''
  obtain⟨rfl,rfl⟩:=x1'
  obtain⟨rfl,rfl⟩:=x1''
  rw[x3]at x3' x3''
  simp only[Yr1,O.cells.injEq]at x3' x3''
  obtain⟨rfl,rfl,rfl⟩:=x3'
  obtain⟨rfl,_,_⟩:=x3''
  obtain⟨b1,b2,b3,b4,b5,y1,y2,y3,y4⟩:=hv.at (Zbe f2)
  obtain⟨b1',b2',b3',b4',b5',y1',y2',y3',y4'⟩:=hv.at (Zbe f1)
  rw[y1]at y1'
  simp only[Yr1,Yr5]at y1'
  obtain⟨rfl,rfl⟩:=y1'
  rw[y3]at y3'
  simp only[Yr1,O.cells.injEq]at y3'
  obtain⟨rfl,_,_⟩:=y3'
  have c1:((k:Int)+2-1)=(k:Int)+1:=by omega
  have c2:((j:Int)+((k:Int)+2)-1)=(j:Int)+(k:Int)+1:=by omega
  have c3:((j:Int)+((k:Int)+2)-2)=(j:Int)+(k:Int):=by omega
  have c4:((k:Int)+2-2)=(k:Int):=by omega
  have c5:((j:Int)+((k:Int)+2))=(j:Int)+(k:Int)+2:=by omega
  have i1:(j:Int)+(k:Int)+2<(L.length:Int):=by omega
  have i2:(j:Int)+(k:Int)+1<(L.length:Int):=by omega
  have i3:(j:Int)+(k:Int)<(L.length:Int):=by omega
  have i4:(0:Int)≤(j:Int)+(k:Int)+2:=by omega
  have i5:(0:Int)≤(j:Int)+(k:Int)+1:=by omega
  have i6:(0:Int)≤(j:Int)+(k:Int):=by omega
  have n1:((j:Int)+(k:Int)+2).toNat=j+k+2:=by omega
  have n2:((j:Int)+(k:Int)+1).toNat=j+k+1:=by omega
  have n3:((j:Int)+(k:Int)).toNat=j+k:=by omega
  have n4:((k:Int)+1).toNat=k+1:=by omega
  have k1:(k:Int)+1<(k:Int)+2:=by omega
  have k2:(k:Int)<(k:Int)+2:=by omega
  have k3:(0:Int)≤(k:Int)+1:=by omega
  have u1:Zap .i64 (d3*1000000000)=d3*1000000000:=Zak (by omega) (by omega)
  have u2:Zap .i64 (d3*1000000000+d2)=d3*1000000000+d2:=Zak (by omega) (by omega)
  have s0:0≤d3*1000000000+d2:=by omega
  have v0:¬v1=0:=by omega
  have t1:(d3*1000000000+d2).tdiv v1=(d3*1000000000+d2)/v1:=Ytk s0
  have t2:(d3*1000000000+d2).tmod v1=(d3*1000000000+d2)%v1:=Ytx s0
  have t3:=Yui (d3*1000000000+d2) v1
  have t4:=Yu8 (d3*1000000000+d2) v0
  have t5:=Yus (d3*1000000000+d2) (b:=v1) (by omega)
  have gi:=Ynn (t:=(d3*1000000000+d2)/v1) (r:=(d3*1000000000+d2)%v1) hP hU0 hU hV0 hV r1.1 r1.2 r2.1 r3.1 r4.1 r5.1 r5.2 (by rw[←hW,←hD];exact hWD) (by rw[Int.mul_comm (_/_) v1];exact t3.symm) t4 t5
  rw[←hW,←hD]at gi
  obtain⟨g1,g2,g3⟩:=gi
  have t6:Zap .i64 ((d3*1000000000+d2)/v1)=(d3*1000000000+d2)/v1:=Zak (by omega) (by omega)
  rw[Zac,A.k202 (by simp)]
  simp(disch:=first|(simp;done)|omega|rfl) [A.b202,lv,lu,c1,c2,c3,c4,c5,i1,i2,i3,i4,i5,i6,n1,n2,n3,n4,k1,k2,k3,x1,x2,x3,x4,x4',x4'',y1,y2,y3,y4,y4',u1,u2,v0,t1,t2,t6]
  generalize hD1:d3*1000000000+d2=D1 at*
  refine Zai [(6,6),(9,10),(42,75)] (fun e r st=>st=⟨h,N,[]⟩∧((e=.exit 0∧∃t,r.get 9=some (.int .i64 t)∧0≤t∧t≤1000000000∧(t-1)*D≤W∧W<(t+1)*D)∨(e=.ret∧∃t,r.get 6=some (.int .i64 t)∧0≤t∧t≤1000000000∧(t-1)*D≤W∧W<(t+1)*D))) (fun m r st=>st=⟨h,N,[]⟩∧GuR W D v1 D1 m r) (D1/v1).toNat ?_ ?_ ?_
  ·exact⟨rfl,⟨D1/v1,D1%v1,rfl,by simp,by simp,g1,g2,t4,by omega,by rw[Int.mul_comm (_/_) v1];exact t3.symm,g3⟩⟩
  ·rintro m r _ hr hf ⟨rfl,⟨t,q,rfl,h9,h10,tq0,tq1,q0,q1,htop,hlt⟩⟩
   rw[Zaj]
   by_cases hA:1000000000≤t
   ·have hlt:W<t*D:=by
     have d0:0≤D:=by
      have:=Ytz (Yt4 hP) (show 0≤v2+1000000000*v1 by omega)
      omega
     have:=Ytq hA d0
     omega
    have tp:1≤t:=by omega
    have hq2:Zap .i64 (q+v1)=q+v1:=Zak (by omega) (by omega)
    have ht2:Zap .i64 (t-1)=t-1:=Zak (by omega) (by omega)
    have e5:D1=t*v1+q:=htop
    have e6:(t-1)*v1+(q+v1)=t*v1+q:=by grind
    by_cases hge:1000000000≤q+v1
    ·simp(disch:=first|(simp;done)|omega|rfl) [A.lb202_0,hr,hf,h9,h10,lv,lu,c1,c2,c3,c4,c5,i1,i2,i3,i4,i5,i6,n1,n2,n3,n4,k1,k2,k3,x1,x2,x3,x4,x4',x4'',y1,y2,y3,y4,y4',hA,hq2,ht2,hge]
     refine⟨by omega,by omega,?_,hlt⟩
     have m1:(t-1)*v2≤1000000000*v2:=Ytq (by omega) r5.1
     have:=Zt4 (t:=t-1) (r:=q+v1) (v1:=v1) (u1:=D1) hP hU0 r1.1 s0 (by omega) r5.1 hV0 hV (by omega) (by omega) (by rw[e6];exact htop) (by omega)
     rw[hW,hD]
     exact this
    ·simp(disch:=first|(simp;done)|omega|rfl) [A.lb202_0,hr,hf,h9,h10,lv,lu,c1,c2,c3,c4,c5,i1,i2,i3,i4,i5,i6,n1,n2,n3,n4,k1,k2,k3,x1,x2,x3,x4,x4',x4'',y1,y2,y3,y4,y4',hA,hq2,ht2,hge]
     exact⟨(t-1).toNat,by omega,⟨t-1,q+v1,rfl,by simp,by simp,by omega,by omega,by omega,by omega,by rw[e6];exact htop,by rw[show t-1+1=t by omega];exact hlt⟩⟩
   ·have hA':¬1000000000≤t:=hA
    have m0:0≤t*v2:=Ytz tq0 r5.1
    have m1:t*v2≤1000000000*1000000000:=Int.mul_le_mul (by omega) (by omega) r5.1 (by omega)
    have b1':Zap .i64 (t*v2)=t*v2:=Zak (by omega) (by omega)
    have b2':Zap .i64 (q*1000000000)=q*1000000000:=Zak (by omega) (by omega)
    have b3':Zap .i64 (q*1000000000+d1)=q*1000000000+d1:=Zak (by omega) (by omega)
    by_cases hB:q*1000000000+d1<t*v2
    ·have hlt:W<t*D:=by
      have:=Yky (t:=t) (r:=q) (v1:=v1) (u1:=D1) hP hU hV0 tq0 htop hB
      rw[hW,hD];exact this
     have tz:t≠0:=fun hc=>by rw[hc]at hB;simp at hB;omega
     have tp:1≤t:=by omega
     have hq2:Zap .i64 (q+v1)=q+v1:=Zak (by omega) (by omega)
     have ht2:Zap .i64 (t-1)=t-1:=Zak (by omega) (by omega)
     have e5:D1=t*v1+q:=htop
     have e6:(t-1)*v1+(q+v1)=t*v1+q:=by grind
     by_cases hge:1000000000≤q+v1
     ·simp(disch:=first|(simp;done)|omega|rfl) [A.lb202_0,hr,hf,h9,h10,lv,lu,c1,c2,c3,c4,c5,i1,i2,i3,i4,i5,i6,n1,n2,n3,n4,k1,k2,k3,x1,x2,x3,x4,x4',x4'',y1,y2,y3,y4,y4',hA',b1',b2',b3',hB,hq2,ht2,hge]
      refine⟨by omega,by omega,?_,hlt⟩
      have m1:(t-1)*v2≤1000000000*v2:=Ytq (by omega) r5.1
      have:=Zt4 (t:=t-1) (r:=q+v1) (v1:=v1) (u1:=D1) hP hU0 r1.1 s0 (by omega) r5.1 hV0 hV (by omega) (by omega) (by rw[e6];exact htop) (by omega)
      rw[hW,hD]
      exact this
     ·simp(disch:=first|(simp;done)|omega|rfl) [A.lb202_0,hr,hf,h9,h10,lv,lu,c1,c2,c3,c4,c5,i1,i2,i3,i4,i5,i6,n1,n2,n3,n4,k1,k2,k3,x1,x2,x3,x4,x4',x4'',y1,y2,y3,y4,y4',hA',b1',b2',b3',hB,hq2,ht2,hge]
      exact⟨(t-1).toNat,by omega,⟨t-1,q+v1,rfl,by simp,by simp,by omega,by omega,by omega,by omega,by rw[e6];exact htop,by rw[show t-1+1=t by omega];exact hlt⟩⟩
    ·simp(disch:=first|(simp;done)|omega|rfl) [A.lb202_0,hr,hf,h9,h10,lv,lu,c1,c2,c3,c4,c5,i1,i2,i3,i4,i5,i6,n1,n2,n3,n4,k1,k2,k3,x1,x2,x3,x4,x4',x4'',y1,y2,y3,y4,y4',hA',b1',b2',b3',hB]
     refine⟨tq0,by omega,?_,hlt⟩
     have:=Zt4 (t:=t) (r:=q) (u1:=D1) hP hU0 r1.1 s0 (by omega) r5.1 hV0 hV tq0 (by omega) htop (by omega)
     rw[hW,hD];exact this
  ·rintro e r _ hr ⟨rfl,⟨rfl,t,h9,ht⟩|⟨rfl,t,h6,ht⟩⟩
   ·simp[hr,h9];exact ht
   ·simp[hr,h6];exact ht
 obtain⟨x,s,hc,rfl,t,rfl,h1,h2,h3,h4⟩:=goal.ex
 exact⟨t,hc,h1,h2,h3,h4⟩
end Go.Mx
