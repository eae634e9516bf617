/-
  lensletlaw05.ReconstructCosts: cost, residual.
-/
import Derived.Test.YtlbophlgohokkaaGreatDoorCoI
import Derived.Test.YtlbophlgohokkaaGreatDoorMxTab
import Derived.Test.YtlbophlgohokkaaGreatDoorMxWord
import Derived.Test.YtlbophlgohokkaaGreatDoorMxLim
import Derived.Test.YtlbophlgohokkaaGreatDoorMxDec
import Derived.Deep.Slices
import Derived.Lib.LaidTab
import Derived.LaidSub
import Derived.ChangeShapes
import Derived.WideShapes
set_option linter.all false
namespace Go.Mx
open Go Go.Proofs
variable {H:T O} {dv sv u v1 v3 wv xv:V} {l:List Int} {m:List (List Str)} {n:Nat} {r0:T V} {rwB:Bool} {s ws x:List Str} {s2:Str}
set_option maxHeartbeats 2000000
set_option maxRecDepth 1000000
theorem Zqm{q:Rat}{k:Nat}(h:Qb k q)(hk:k≤400000):(Za1 q).length<1000000:=by
 have h1:=Zkw h.1
 have h2:=Ziw h.2
 unfold Za1
 split<;>simp<;>omega
theorem Zsd{B:Nat}{c1 c2 c3:Int}{u1:V}{e1:Int}{l1:List Rat}(hB:H.get B=some (.cells [wv,sv,xv] 42 rwB))(hBn:B<n)(hm:MtS H n u m)(hw:Sl H n wv (strs ws))(hs:Sl H n sv (strs s))(hx:Sl H n xv (strs x))(hd:Sl H n dv (dI l))(hP:P10 H n)(sm:Zco 6 6 m=true)(sw:Zay 6 ws=true)(ss:Zay 6 s=true)(sx:Zay 6 x=true)(hM:OkM m (hdL m))(hl:l.length<100000)(R:Rg5 r0 u dv B v1 c1 s2 c2 v3 c3)(s1:Wt e1 l1 v1 c1 u1 H n)(sN:TPN (Zv7 m ws s x) (Yc2 m ws s x) s2 c2)(s3:TPM (Znz l m.length) (Zow (Zgs m) l m.length) v3 c3 H n)(a14:r0.get 14=some (.int .i64 e1))(a15:r0.get 15=some (.int .i64 (Zv7 m ws s x)))(a16:r0.get 16=some (.int .i64 (Znz l m.length)))(a17:r0.get 17=some u1)(a18:r0.get 18=some (.str []))(a19:r0.get 19=some .nilslice):
  Code A.C none A.ta4_2 ⟨r0,153,[]⟩ ⟨H,n,[]⟩ (fun e fr st=>e=.ret∧∃r,fr=⟨r,153,[]⟩∧r.get 6=some (.bool true)∧Zac n st.w=[]∧Keeps H n st.h st.n):=by
 rw[Zah]
 by_cases hE:Zv7 m ws s x=0
 ·obtain⟨_,⟨z1,hW⟩,⟨z2,hS⟩,⟨z3,hX⟩⟩:=Yh7 hE sm sw ss sx
  have m6:=hM.le
  have cq:=Yc1 hM hW hS hX z3 (by omega)
  simp[A.ta4_2,a15,hE,R.a0,R.a4,hB]
  refine Zab (Yeo (hm.rat fun r hr=>(hM.row r hr).2) (OkL.sl hw hW) (OkL.sl hs hS) (OkL.sl hx hX) hM hW hS hX z1 z2 z3) ?_
  rintro _ H2 n2 k2 rfl
  have le2:=k2.le
  simp[]
  rw[hE]at sN
  refine Za7 (Zr5 (u:=u) (dv:=dv) (B:=B) (e2:=0) (t2:=Za1 (Yc2 m ws s x)) (hm.keep k2) (hd.keep k2) hM hl ⟨by simp[R.a0],by simp[R.a2],by simp[R.a4],by simp[R.a7],by simp[R.a8],by simp[R.a9],by simp[R.a10],by simp[R.a11],by simp[R.a12]⟩ (s1.keep k2) ⟨sN,fun _=>rfl,fun _=>Zqm cq (by decide)⟩ (s3.keep k2) (by simp[a14]) (by simp[a15,hE]) (by simp[a16]) (by simp[a17]) (by simp) (by simp[a19])) ?_
  rintro e fr st ⟨rfl,r',rfl,g4,g5,g6⟩
  simp[g4]
  exact⟨Zjq g5 (by omega),k2.trans g6⟩
 ·simp[A.ta4_2,a15,hE]
  refine Za7 (Zr5 (u:=u) (dv:=dv) (B:=B) (t2:=[]) hm hd hM hl ⟨by simp[R.a0],by simp[R.a2],by simp[R.a4],by simp[R.a7],by simp[R.a8],by simp[R.a9],by simp[R.a10],by simp[R.a11],by simp[R.a12]⟩ s1 ⟨sN,fun h=>absurd h hE,fun h=>absurd h hE⟩ s3 (by simp[a14]) (by simp[a15]) (by simp[a16]) (by simp[a17]) (by simp[a18]) (by simp[a19])) ?_
  rintro e fr st ⟨rfl,r',rfl,g4,g5,g6⟩
  simp[g4,g5]
  exact g6
theorem Zw0{B:Nat}{c1 c2 c3:Int}(hB:H.get B=some (.cells [wv,sv,xv] 42 rwB))(hBn:B<n)(hm:MtS H n u m)(hw:Sl H n wv (strs ws))(hs:Sl H n sv (strs s))(hx:Sl H n xv (strs x))(hd:Sl H n dv (dI l))(hP:P10 H n)(sm:Zco 6 6 m=true)(sw:Zay 6 ws=true)(ss:Zay 6 s=true)(sx:Zay 6 x=true)(hM:OkM m (hdL m))(hl:l.length<100000)(R:Rg5 r0 u dv B v1 c1 s2 c2 v3 c3)(s1:TP (Ztd m s x) (resQ m s x) v1 c1 H n)(sN:TPN (Zv7 m ws s x) (Yc2 m ws s x) s2 c2)(s3:TPM (Znz l m.length) (Zow (Zgs m) l m.length) v3 c3 H n)(a14:r0.get 14=some (.int .i64 (Ztd m s x)))(a15:r0.get 15=some (.int .i64 (Zv7 m ws s x)))(a16:r0.get 16=some (.int .i64 (Znz l m.length)))(a17:r0.get 17=some .nilslice)(a18:r0.get 18=some (.str []))(a19:r0.get 19=some .nilslice):
  Code A.C none A.ta4_3 ⟨r0,153,[]⟩ ⟨H,n,[]⟩ (fun e fr st=>e=.ret∧∃r,fr=⟨r,153,[]⟩∧r.get 6=some (.bool true)∧Zac n st.w=[]∧Keeps H n st.h st.n):=by
 rw[Zah]
 have l6:=(Zb4 ss).1
 have rl:(resQ m s x).length<100000:=by rw[Zjn];exact l6
 by_cases hE:Ztd m s x=0
 ·obtain⟨_,⟨z2,hS⟩,⟨z3,hX⟩⟩:=Yhh hE sm ss sx
  simp[A.ta4_3,a14,hE,R.a0,R.a4,hB]
  refine Zab (Zz2 (hm.rat fun r hr=>(hM.row r hr).2) (OkL.sl hs hS) (OkL.sl hx hX) hM hS hX z2 z3) ?_
  rintro y H2 n2 k2 hy
  have le2:=k2.le
  simp[]
  rw[hE]at s1
  have rq:=Zmi hM hS hX z3
  refine Za7 (Zsd (u:=u) (dv:=dv) (B:=B) (e1:=0) (u1:=y) (((k2).get _ hBn).trans hB) (by have:=(k2).le;omega) (hm.keep (k2)) (hw.keep (k2)) (hs.keep (k2)) (hx.keep (k2)) (hd.keep (k2)) (hP.keep (k2)) sm sw ss sx hM hl ⟨by simp[R.a0],by simp[R.a2],by simp[R.a4],by simp[R.a7],by simp[R.a8],by simp[R.a9],by simp[R.a10],by simp[R.a11],by simp[R.a12]⟩ ⟨hP.keep k2,s1.keep k2,fun _=>hy.1,rl,fun _ q hq=>Zqm (rq q hq) (by decide)⟩ sN (s3.keep k2) (by simp[a14,hE]) (by simp[a15]) (by simp[a16]) (by simp) (by simp[a18]) (by simp[a19])) ?_
  rintro e fr st ⟨rfl,r',rfl,g4,g5,g6⟩
  simp[g4]
  exact⟨Zjq g5 (by omega),k2.trans g6⟩
 ·simp[A.ta4_3,a14,hE]
  refine Za7 (Zsd (u:=u) (dv:=dv) (B:=B) (u1:=.nilslice) hB hBn hm hw hs hx hd hP sm sw ss sx hM hl ⟨by simp[R.a0],by simp[R.a2],by simp[R.a4],by simp[R.a7],by simp[R.a8],by simp[R.a9],by simp[R.a10],by simp[R.a11],by simp[R.a12]⟩ ⟨hP,s1,fun h=>absurd h hE,rl,fun h=>absurd h hE⟩ sN s3 (by simp[a14]) (by simp[a15]) (by simp[a16]) (by simp[a17]) (by simp[a18]) (by simp[a19])) ?_
  rintro e fr st ⟨rfl,r',rfl,g4,g5,g6⟩
  simp[g4,g5]
  exact g6
theorem Zu3(h:Zhh m 64 16=0):Zak [Zb1 s m.length,Zb1 x (hdL m)]=Ztd m s x:=by simp[Ztd,Zak,h]
theorem Ygl{w:List Str}(h:Zhh m 64 16=0):Zak [Zso w m.length 1,Ztd m s x]=Zv7 m w s x:=by
 have e1:Yaf m w=Zso w m.length 1:=by simp[Yaf,Zak,h];exact fun h=>h.symm
 have e2:=Zu3 (s:=s) (x:=x) h
 unfold Zv7
 rw[e1,←e2]
 simp only[Zak]
 split
 ·split
  ·split<;>simp_all
  ·simp_all
 ·rfl
theorem Zuj{B:Nat}{c1 c2 c3:Int}(hB:H.get B=some (.cells [wv,sv,xv] 42 rwB))(hBn:B<n)(hm:MtS H n u m)(hw:Sl H n wv (strs ws))(hs:Sl H n sv (strs s))(hx:Sl H n xv (strs x))(hd:Sl H n dv (dI l))(hP:P10 H n)(sm:Zco 6 6 m=true)(sw:Zay 6 ws=true)(ss:Zay 6 s=true)(sx:Zay 6 x=true)(hM:OkM m (hdL m))(hl:l.length<100000)(h0:Zhh m 64 16=0)(R:Rg5 r0 u dv B v1 c1 s2 c2 v3 c3)(s1:TP (Ztd m s x) (resQ m s x) v1 c1 H n)(sN:TPN (Zv7 m ws s x) (Yc2 m ws s x) s2 c2)(s3:TPM (Znz l m.length) (Zow (Zgs m) l m.length) v3 c3 H n):
  Code A.C none A.ta4_4 ⟨r0,153,[]⟩ ⟨H,n,[]⟩ (fun e fr st=>e=.ret∧∃r,fr=⟨r,153,[]⟩∧r.get 6=some (.bool true)∧Zac n st.w=[]∧Keeps H n st.h st.n):=by
 rw[Zah]
 have ml:=hm.len
 obtain⟨w1,w2⟩:=Zb4 sw
 obtain⟨l1,l2⟩:=Zb4 ss
 obtain⟨x1,x2⟩:=Zb4 sx
 have mp:=hM.pos
 have mp':0<(m.length:Int):=by omega
 obtain⟨row,hr0⟩:=Zag hM.pos
 have er0:row.length=hdL m:=(hM.row row (Yrv hr0)).1
 obtain⟨i0,o0,cc0,e0,rw0,u0,q1,q2,q3,q4,q5⟩:=hm.at hr0
 have q6:=q5.len
 rw[Zb3,er0]at q6
 rw[Ys9]at q4
 simp[A.ta4_4,R.a0,R.a4,hB,ml]
 refine Zab (Zp7 hs l1 l2) ?_
 rintro _ H3 n3 k3 rfl
 have le3:=k3.le
 have q7:=(k3.get i0 q2).trans q3
 have d3:i0<n3:=by omega
 have b3:=(k3.get B hBn).trans hB
 have d4:B<n3:=by omega
 simp[R.a0,R.a4,ml,mp,q1,q7,q4,q6,d3,b3]
 refine Zab (Zp7 (hx.keep k3) x1 x2) ?_
 rintro _ H4 n4 k4 rfl
 have le4:=k4.le
 simp[splice,Ybr,Zu3 h0]
 refine(Zfo (by simp[-Zac,hBn,d4]<;>omega)).2 ?_
 have kG:Keeps H4 n4 (H4.set n4 (.cells [.int .i64 (Zb1 s m.length),.int .i64 (Zb1 x (hdL m))] 3 true)) (n4+1):=Keeps.refl.new _
 generalize H4.set n4 (.cells [.int .i64 (Zb1 s m.length),.int .i64 (Zb1 x (hdL m))] 3 true)=G at*
 have kg:=(k3.trans k4).trans kG
 have bG:=(kg.get B hBn).trans hB
 simp[R.a0,R.a4,ml,bG]
 refine Zab (Yns (z:=1) (hw.keep kg) w1 w2) ?_
 rintro _ H5 n5 k5 rfl
 have le5:=k5.le
 have kG2:Keeps H5 n5 (H5.set n5 (.cells [.int .i64 (Zso ws m.length 1),.int .i64 (Ztd m s x)] 3 true)) (n5+1):=Keeps.refl.new _
 have kk:=(kg.trans k5).trans kG2
 have hcd:=fun w=>Ygv (w:=w) (u:=u) (d:=m.length) ml (hd.keep kk) hl
 simp[splice,Ybr,Ygl h0,R.a0,R.a2]
 generalize H5.set n5 (.cells [.int .i64 (Zso ws m.length 1),.int .i64 (Ztd m s x)] 3 true)=G2 at*
 simp[hcd]
 refine Za7 (Zw0 (u:=u) (dv:=dv) (B:=B) (((kk).get _ hBn).trans hB) (by have:=(kk).le;omega) (hm.keep (kk)) (hw.keep (kk)) (hs.keep (kk)) (hx.keep (kk)) (hd.keep (kk)) (hP.keep (kk)) sm sw ss sx hM hl ⟨by simp[R.a0],by simp[R.a2],by simp[R.a4],by simp[R.a7],by simp[R.a8],by simp[R.a9],by simp[R.a10],by simp[R.a11],by simp[R.a12]⟩ (s1.keep kk) sN (s3.keep kk) (by simp) (by simp) (by simp) (by simp) (by simp) (by simp)) ?_
 rintro e fr st ⟨rfl,r',rfl,g4,g5,g6⟩
 have le6:=kk.le
 simp[g4]
 exact⟨Zjq g5 (by omega),kk.trans g6⟩
set_option maxHeartbeats 4000000
theorem Yly.parts{e:Int}{m:List (List Rat)}{x:V}{h:T O}{n:Nat}(s:Yly e m x h n)(hb:e=0→Zsp m=false):∃v c,x=.tup [v,.int .i64 c]∧TPM e m v c h n:=by
 rcases s with⟨a,rfl⟩|⟨a,v,rfl,t⟩
 ·exact⟨_,_,rfl,.inl ⟨a,rfl,rfl⟩⟩
 ·exact⟨_,_,rfl,.inr ⟨a,.inr ⟨hb a,rfl,t⟩⟩⟩
theorem Zzq{r:List Str}(h:OkL r):Zcd (Ze0 r)=false:=by
 unfold Zcd
 rw[List.any_eq_false]
 intro q hq
 obtain⟨s,hs,rfl⟩:=Ysv.1 hq
 obtain⟨_,h1,h2⟩:=Zkx (h s hs).1
 unfold Zwg
 simp
 omega
theorem Yf9{m:List (List Str)}{l:List Int}{n:Nat}(hM:OkM m n):Zsp (Zow (Zgs m) l m.length)=false:=by
 unfold Zsp
 rw[List.any_eq_false]
 intro r hr
 have em:(Zgs m).length=m.length:=by simp[Zgs]
 obtain⟨t,ht,rfl⟩:=Ysv.1 (Zv1 (m:=Zgs m) (l:=l) (r:=r) (by rw[em];exact hr))
 rw[Zzq (hM.row t ht).2]
 decide
theorem Ygk{h:T O}{N:Nat}{u wv sv xv dv:V}{m:List (List Str)}{ws s x:List Str}{l:List Int}(hm0:MtS h N u m)(hw0:Sl h N wv (strs ws))(hs0:Sl h N sv (strs s))(hx0:Sl h N xv (strs x))(hd0:Sl h N dv (dI l))(hP0:P10 h N)(b1:m.length<9223372036854775808)(b2:∀x∈m,x.length<9223372036854775808)(b3:ws.length<9223372036854775808)(b4:s.length<9223372036854775808)(b5:x.length<9223372036854775808)(b6:l.length<9223372036854775808):Fn A.C 4 [u,.agg [wv,sv,xv],dv] h N (fun z _ _=>z=.bool true):=by
 intro w
 have o1:=hw0.form.one
 have o2:=hs0.form.one
 have o3:=hx0.form.one
 unfold V.one at o1 o2 o3
 have kB:Keeps h N (h.set N (.cells [wv,sv,xv] 42 true)) (N+1):=Keeps.refl.new _
 have hBx:(h.set N (.cells [wv,sv,xv] 42 true)).get N=some (.cells [wv,sv,xv] 42 true):=by simp
 have lgd:=hd0.len
 rw[Zas]at lgd
 have ml:=hm0.len
 have hm:=hm0.keep kB
 have hw:=hw0.keep kB
 have hs:=hs0.keep kB
 have hx:=hx0.keep kB
 have hd:=hd0.keep kB
 have hP:=hP0.keep kB
 rw[Zaa,A.k4 (by simp)]
 have s0:slc [wv,sv,xv] 0 3=some [wv,sv,xv]:=rfl
 simp[A.b4,o1,o2,o3]
 generalize h.set N (.cells [wv,sv,xv] 42 true)=H at*
 have hAw:=fun w=>Zlz (w:=w) hP
 have hA:∀w,A.C.call (.func 8 [] []) [u,.int .i64 6,.int .i64 6] ⟨H,N+1,w⟩=some (.bool (Zco 6 6 m),⟨H,N+1,w⟩):=fun w=>Yeb (w:=w) (n:=6) (p:=6) hm b1 b2 (by decide) (by decide)
 cases sm:Zco 6 6 m with
 |false=>
  rw[sm]at hA
  simp[hA,hAw,Ret]
  exact kB
 |true=>
  rw[sm]at hA
  simp[hA,hBx,s0]
  refine Zab (Yiy hw hs hx b3 b4 b5) ?_
  rintro _ H1 n1 k1 rfl
  have kA1:=kB.trans k1
  have hP1:=hP.keep k1
  have hAw1:=fun w=>Zlz (w:=w) hP1
  cases q:(Zay 6 ws&&Zay 6 s&&Zay 6 x)with
  |false=>
   simp[hAw1,Ret]
   exact kA1
  |true=>
   rw[Yr6,Yr6]at q
   obtain⟨⟨sw,ss⟩,sx⟩:=q
   by_cases c8:(8:Int)<(l.length:Int)
   ·have c8':8<l.length:=by omega
    simp[lgd,c8,hAw1,Ret]
    exact kA1
   ·have c8':¬8<l.length:=by omega
    have le1:=k1.le
    have hl:l.length<100000:=by omega
    have b1x:=(k1.get N (by omega)).trans hBx
    have dN:N<n1:=by omega
    simp[lgd,c8,b1x]
    refine Zab (Yen (hm.keep k1) (hs.keep k1) (hx.keep k1) hP1 sm ss sx) ?_
    rintro _ H2 n2 k2 t2
    obtain⟨v1,c1,rfl,p1⟩:=t2.parts
    have j2:=k1.trans k2
    have le2:=k2.le
    have b2x:=(k2.get N (by omega)).trans b1x
    simp[b2x]
    refine Zab (Ylf (hm.keep j2) (hw.keep j2) (hs.keep j2) (hx.keep j2) (hP.keep j2) sm sw ss sx) ?_
    rintro _ H3 n3 k3 t3
    obtain⟨sc,c2,rfl,p2⟩:=t3.parts
    have j3:=j2.trans k3
    have le3:=k3.le
    have b3x:=(k3.get N (by omega)).trans b2x
    simp[]
    refine Zab (Yk5 (hm.keep j3) (hd.keep j3) sm hl) ?_
    rintro _ H4 n4 k4 t4
    have j4:=j3.trans k4
    have le4:=k4.le
    have b4x:=(k4.get N (by omega)).trans b3x
    obtain⟨m1,m2⟩:=Zhr sm
    obtain⟨v3,c3,rfl,p3⟩:=t4.parts (fun he=>Yf9 (Zh2 (Za5 he (Zhh m 64 16) (by simp)) sm))
    simp[]
    refine Zab (Yep (hm.keep j4) m1 m2) ?_
    rintro _ H5 n5 k5 rfl
    have j5:=j4.trans k5
    have le5:=k5.le
    have b5x:=(k5.get N (by omega)).trans b4x
    have p1':=((p1.keep k3).keep k4).keep k5
    have p3':=p3.keep k5
    by_cases hE:Zhh m 64 16=0
    ·have e3:Yh1 m l=Znz l m.length:=by simp[Yh1,Zak,hE];exact fun h=>h.symm
     rw[e3]at p3'
     simp[hE]
     refine Za7 (Zuj (B:=N) b5x (by omega) (hm.keep j5) (hw.keep j5) (hs.keep j5) (hx.keep j5) (hd.keep j5) (hP.keep j5) sm sw ss sx (Zh2 hE sm) hl hE ⟨by simp,by simp,by simp,by simp,by simp,by simp,by simp,by simp,by simp⟩ p1' p2 p3') ?_
     rintro e fr ⟨H6,n6,W6⟩ ⟨rfl,r',rfl,g4,g5,g6⟩
     simp only at g5 g6
     simp[g4,Ret]
     have:=kB.le
     exact⟨Zjq g5 (by omega),(kB.trans j5).trans g6⟩
    ·have e1:Ztd m s x=Zhh m 64 16:=by simp[Ztd,Zak,hE]
     have e2:Zv7 m ws s x=Zhh m 64 16:=by
      have:Yaf m ws=Zhh m 64 16:=by simp[Yaf,Zak,hE]
      simp[Zv7,Zak,this,hE]
     have e3:Yh1 m l=Zhh m 64 16:=by simp[Yh1,Zak,hE]
     rw[e1]at p1'
     rw[e2]at p2
     rw[e3]at p3'
     have f0:=fun w=>Zlz (w:=w) (hP.keep j5)
     have f1:=fun w=>Ybo (w:=w) (u:=.nilslice) p1' (fun h=>absurd h hE) (by rw[Zjn];exact(Zb4 ss).1) (fun h=>absurd h hE)
     have f2:=fun st=>Zq7 (st:=st) (t:=[]) p2 (fun h=>absurd h hE) (fun h=>absurd h hE)
     have f3:=fun w=>Zri (w:=w) (u:=.nilslice) p3' (fun h=>absurd h hE) (by have:=Zlw (m:=Zgs m) (l:=l) (k:=m.length);omega) (fun h=>absurd h hE)
     simp[hE,f0,f1,f2,f3,Ret]
     exact kB.trans j5
open Go
inductive Zk0 where
 |nil
 |emp (b:Addr)
 |sl (b:Addr) (l c:Nat) (f:Nat→ByteArray)
def Zk0.val:Zk0→Value
 |.nil=>.slice none 0 0
 |.emp b=>.slice (some b) 0 0
 |.sl b l c f=>.slice (some b) l c
def Zk0.ok(W:World):Zk0→Prop
 |.sl b l c f=>l≤c∧0<c∧∀i,i<c→W.cell? (b.add i)=some (.string (f i))
 |_=>True
def Zk0.strs:Zk0→List Str
 |.sl b l c f=>(List.range l).map fun i=>(f i).data.toList
 |_=>[]
def eOf(W:World)(a:Addr):TypeId:=match W.heap[a.block]? with
 |some (.cells _ e _)=>e
 |_=>0
def Zk0.mv(i:Nat):Zk0→V
 |.nil=>.nilslice
 |.emp b=>.empty
 |.sl b l c f=>.slice i 0 l (some c) 1
theorem Zwb{W:World}{a:Addr}{n:Nat}{f:Nat→Value}(hn:0<n)(hc:∀i,i<n→W.cell? (a.add i)=some (f i)):
  ∃c' lo hi,W.heap[a.block]?=some (.cells c' (eOf W a) (lo,hi))∧a.spot=none∧(∀i,i<n→c'[a.off+i]?=some (f i))∧a.off+n≤c'.size∧a.block<W.heap.size:=by
 have h0:=hc 0 hn
 have ha0:a.add 0=a:=by simp[Addr.add]
 rw[ha0]at h0
 obtain⟨c',e,fr,hb⟩:∃c' e fr,W.heap[a.block]?=some (.cells c' e fr):=by
  unfold World.cell? at h0
  split at h0
  ·rename_i c' e fr hb;exact⟨c',e,fr,hb⟩
  ·cases h0
 have hs:a.spot=none:=by
  unfold World.cell? at h0
  rw[hb]at h0
  simp only at h0
  split at h0
  ·cases h0
  ·rename_i h;simpa using h
 have hcell:∀i,i<n→c'[a.off+i]?=some (f i):=fun i hi=>by
  have:=hc i hi
  unfold World.cell? at this
  have e1:(a.add i).block=a.block:=by unfold Addr.add;split<;>rfl
  have e2:(a.add i).off=a.off+i:=by unfold Addr.add;split<;>simp_all
  have e3:(a.add i).spot=none:=by unfold Addr.add;split<;>simp_all
  rw[e1,hb]at this
  simp only[e2,e3,Option.isSome_none,Yry,if_false]at this
  exact this
 have hlt:a.block<W.heap.size:=by
  rcases Nat.lt_or_ge a.block W.heap.size with h|h
  ·exact h
  ·rw[Array.getElem?_eq_none h]at hb;cases hb
 have hend:a.off+n≤c'.size:=by
  have:=hcell (n-1) (by omega)
  have h2:=(Array.getElem?_eq_some_iff.1 this).1
  omega
 obtain⟨lo,hi⟩:=fr
 exact⟨c',lo,hi,by rw[hb];simp[eOf,hb],hs,hcell,hend,hlt⟩
structure Yoh where
 a:Addr
 n:Nat
 f:Nat→Value
 g:Nat→V
def Yoh.ok(W:World)(r:Yoh):Prop:=0<r.n∧(∀i,i<r.n→W.cell? (r.a.add i)=some (r.f i))∧∀i,i<r.n→(r.f i).oneCell'=true
theorem Zqu{P:Program}{tbl:Nat→Option Zee}{G:Nat}(hP:Zld P tbl G){x:Za3}(hx:Zbx P x){F d:Nat}{f:FuncId}{mf:Zee}(hf:Zal P f=some mf){args:List V}{xs:List Value}{v:V}{y:Value}{S:St}{μ:Mu}{W:World}
  (h:Yn7 (Zgd mf (Zbi (Zgp x tbl F d) F) args S) v) (hh:Zbd P μ W S) (hS:S.w=[]) (hargs:VRs μ args xs) (hv:∀μ z,VR μ v z→z=y):
  Calls P f ⟨xs⟩ W fun e W'=>e=.returned y∧RowKit.Below W.heap.size W W':=by
 obtain⟨s,hrun,hw⟩:=h.ex
 obtain⟨fn,hfn,_⟩:=Zwd hf
 have ih:=Zjx hP.m hP.e hP.t hx F d
 have:=Yca (Yc5 ih hP.e (Yck hP.m hP.e ih) (Yhg ih hP.e) (Zu6 ih) F) hfn hf hh hargs hrun
 refine callsIn_wide.1 (CallsIn.mono (F:=Fence.wide) this fun e W' he=>?_)
 cases e with
 |returned z=>
  obtain⟨μ',ws,h1,h2⟩:=he
  have hws:ws=[]:=by have:=h2.wl;rw[hw,hS]at this;simpa using this.symm
  subst hws
  exact⟨by rw[hv _ _ h1],h2.chg.os,h2.chg.tape,h2.chg.output,h2.chg.size,fun k hk=>h2.chg.block k hk fun i hi=>by cases hi⟩
 |panicked _=>exact he.elim
 |outgrown=>exact he.elim
theorem Cx.calls{P:Program}{C:Cx}{G:Nat}(hP:Zld P C.tbl G)(hx:Zbx P C.x){f:Nat}{mf:Zee}(hf:Zal P f=some mf)(ht:C.tbl f=some mf){args:List V}{xs:List Value}{v:V}{y:Value}{S:St}{μ:Mu}{W:World}
  (hn:∀st,C.x (.func f [] []) args st=none) (h:Fn C f args S.h S.n (fun u _ _=>u=v)) (hh:Zbd P μ W S) (hS:S.w=[]) (hargs:VRs μ args xs) (hv:∀μ z,VR μ v z→z=y):
  Calls P f ⟨xs⟩ W fun e W'=>e=.returned y∧RowKit.Below W.heap.size W W':=by
 obtain⟨u,st',hc,hw,hk,hu⟩:=(h []).ex
 subst hu
 have hS':(⟨S.h,S.n,[]⟩:St)=S:=by obtain⟨a,b,c⟩:=S;simp only at hS;subst hS;rfl
 rw[hS']at hc
 rw[Cx.call_eq]at hc
 unfold Zd9 at hc
 rw[hn]at hc
 simp only at hc
 obtain⟨n,hn'⟩:=Zkb (q:=fun n=>Zbi (C.at n) n) (fun n m hnm=>Zb6 (Cx.at_mono hnm) n m hnm) (fun _ _ _ _ _ e=>Cx.code_need e) hc
 unfold Zcn at hn'
 simp only[ht,List.nil_append,Ytm]at hn'
 exact Zqu (F:=n) (d:=n) hP hx hf ⟨_,hn',hw⟩ hh hS hargs hv
variable {P:Program} {S:St} {W:World} {μ:Mu}
def gTot(tb:List (Nat×O))(i:Nat):Nat:=match lk tb i with
 |some (.cells c _ _)=>c.length
 |_=>0
def TabsIn(P:Program)(W:World)(tb:List (Nat×O)):Prop:=∀i o,lk tb i=some o→∀μ,OM P μ W o ⟨i,0,gTot tb i⟩
theorem TabsIn.one{g:Nat}{k:IntKind}{zs:List Int}{e:TypeId}{f:Nat×Nat}(h:W.heap[g]?=some (.cells (zs.map fun z=>Value.int k z).toArray e f)):TabsIn P W [(g,.cells (zs.map fun z=>V.int k z) e false)]:=by
 intro i o ho μ
 obtain⟨lo,hi⟩:=f
 simp only[lk]at ho
 split at ho
 ·rename_i hb
  have:=Za4 hb
  subst this
  simp only[Yro]at ho
  subst ho
  have hl:gTot [(g,O.cells (zs.map fun z=>V.int k z) e false)] g=zs.length:=by simp[gTot,lk,hb]
  rw[hl]
  refine⟨_,lo,hi,h,by simp,by simp,fun j v hv=>?_,fun j x hj hx=>?_,fun h=>by cases h⟩
  ·rw[Ysd]at hv
   cases hz:zs[j]? with
   |none=>rw[hz]at hv;cases hv
   |some z=>
    rw[hz]at hv
    simp only[Yt8,Yro]at hv
    subst hv
    exact⟨.int k z,by simp[hz],by simp[VR]⟩
  ·simp only[Yt3,List.getElem?_toArray,Ysd,Yrz]at hx
   obtain⟨z,_,rfl⟩:=hx
   rfl
 ·cases ho
structure Zn5 (P:Program) (W:World) (μ:Mu) (S:St):Prop where
 hr:Zbd P μ W S
 w:S.w=[]
 ro:∀i l o,μ i=some l→S.h.get i=some o→o.wr=false
structure Zgn (μ:Mu) (S:St) (μ':Mu) (S':St):Prop where
 mu:∀i l,μ i=some l→μ' i=some l
 keep:Keeps S.h S.n S'.h S'.n
theorem Zgn.refl:Zgn μ S μ S:=⟨fun _ _ h=>h,Keeps.refl⟩
theorem Zgn.trans{μ1 μ2:Mu}{S1 S2:St}(a:Zgn μ S μ1 S1)(b:Zgn μ1 S1 μ2 S2):Zgn μ S μ2 S2:=⟨fun i l h=>b.mu i l (a.mu i l h),a.keep.trans b.keep⟩
theorem Yja{tb:List (Nat×O)}{G:Nat}(hG:P.globals.size=G)(hW:G≤W.heap.size)(hok:Zqp G tb=true)(hin:TabsIn P W tb):∃μ,Zn5 P W μ (Zsh G tb):=by
 subst hG
 have get:∀i,i<P.globals.size→(Zsh P.globals.size tb).h.get i=some (match lk tb i with|some o=>o|none=>.dead):=fun i hi=>by
  show (Zd7 (Zlj P.globals.size) tb).get i=_
  rw[Zce]
  cases lk tb i with
  |some o=>rfl
  |none=>exact Zj5 _ _ hi
 have hwr:∀i o,i<P.globals.size→(Zsh P.globals.size tb).h.get i=some o→o.wr=false:=fun i o hi ho=>by
  rw[get i hi]at ho
  simp only[Yro]at ho
  cases hl:lk tb i with
  |none=>rw[hl]at ho;subst ho;rfl
  |some o'=>
   rw[hl]at ho
   simp only at ho
   subst ho
   have:=(Zmb hok hl).2
   cases o' with
   |cells c e rw=>cases rw with
    |true=>cases this
    |false=>rfl
   |_=>cases this
 have hmu:∀i l,(fun i=>if i<P.globals.size then some (⟨i,0,gTot tb i⟩:L) else none) i=some l→i<P.globals.size∧l=⟨i,0,gTot tb i⟩:=fun i l h=>by
  simp only at h
  split at h
  ·rename_i hi;simp only[Yro]at h;exact⟨hi,h.symm⟩
  ·cases h
 refine⟨fun i=>if i<P.globals.size then some ⟨i,0,gTot tb i⟩ else none,⟨fun i l hl=>?_,fun i l hl=>?_,fun i j l l' o o' hi hj hne ho ho' hw hlv=>?_,fun g hg=>⟨gTot tb g,by simp[hg]⟩⟩,rfl,fun i l o hl ho=>?_⟩
 ·obtain⟨h,rfl⟩:=hmu i l hl
  exact⟨h,by simp only;omega⟩
 ·obtain⟨h,rfl⟩:=hmu i l hl
  refine⟨_,get i h,?_⟩
  cases hlk:lk tb i with
  |none=>trivial
  |some o=>exact hin i o hlk _
 ·rw[hwr i o (hmu i l hi).1 ho]at hw;cases hw
 ·exact hwr i o (hmu i l hl).1 ho
theorem Yit{tb:List (Nat×O)}{G g:Nat}{o:O}(h:lk tb g=some o):(Zsh G tb).h.get g=some o:=by
 show (Zd7 (Zlj G) tb).get g=_
 rw[Zce,h]
theorem Zn5.row(s:Zn5 P W μ S){r:Yoh}(hok:r.ok W)(hv:∀i,i<r.n→VR μ (r.g i) (r.f i)):
  ∃μ' S',Zn5 P W μ' S'∧Zgn μ S μ' S'∧S'.n=S.n+1∧μ' S.n=some ⟨r.a.block,r.a.off,r.n⟩∧S'.h.get S.n=some (.cells ((List.range r.n).map r.g) (eOf W r.a) false):=by
 obtain⟨g1,g2,g3⟩:=hok
 obtain⟨c',lo,hi,hb,hs,hcell,hend,hlt⟩:=Zwb g1 g2
 have hmono:∀i l,μ i=some l→(fun i=>if i=S.n then some (⟨r.a.block,r.a.off,r.n⟩:L) else μ i) i=some l:=fun i l hl=>by
  have:=(s.hr.dom i l hl).1
  simp only
  rw[Yrq (by omega)];exact hl
 have hsplit:∀i l,(fun i=>if i=S.n then some (⟨r.a.block,r.a.off,r.n⟩:L) else μ i) i=some l→(i=S.n∧l=⟨r.a.block,r.a.off,r.n⟩)∨(i≠S.n∧μ i=some l):=fun i l h=>by
  simp only at h
  split at h
  ·rename_i e;simp only[Yro]at h;exact .inl ⟨e,h.symm⟩
  ·rename_i e;exact .inr ⟨e,h⟩
 have hnew:(S.h.set S.n (.cells ((List.range r.n).map r.g) (eOf W r.a) false)).get S.n=some (.cells ((List.range r.n).map r.g) (eOf W r.a) false):=by simp[T.get_set]
 have hold:∀i,i≠S.n→(S.h.set S.n (.cells ((List.range r.n).map r.g) (eOf W r.a) false)).get i=S.h.get i:=fun i hi=>by simp[T.get_set,hi]
 have hro:∀i l o,(fun i=>if i=S.n then some (⟨r.a.block,r.a.off,r.n⟩:L) else μ i) i=some l→(S.h.set S.n (.cells ((List.range r.n).map r.g) (eOf W r.a) false)).get i=some o→o.wr=false:=fun i l o hl ho=>by
  rcases hsplit i l hl with⟨rfl,rfl⟩|⟨h1,h2⟩
  ·rw[hnew]at ho;simp only[Yro]at ho;subst ho;rfl
  ·rw[hold i h1]at ho;exact s.ro i l o h2 ho
 refine⟨_,⟨S.h.set S.n (.cells ((List.range r.n).map r.g) (eOf W r.a) false),S.n+1,[]⟩,⟨⟨fun i l hl=>?_,fun i l hl=>?_,fun i j l l' o o' hi' hj hne ho ho' hw hlv=>?_,fun g hg=>?_⟩,rfl,hro⟩,⟨hmono,by simp,fun i hi=>hold i (by omega)⟩,rfl,by simp,hnew⟩
 ·rcases hsplit i l hl with⟨rfl,rfl⟩|⟨h1,h2⟩
  ·exact⟨by simp,hlt⟩
  ·obtain⟨q1,q2⟩:=s.hr.dom i l h2
   exact⟨by simp only;omega,q2⟩
 ·rcases hsplit i l hl with⟨rfl,rfl⟩|⟨h1,h2⟩
  ·refine⟨_,hnew,c',lo,hi,hb,hend,by simp,fun j v hvj=>?_,fun j x hj hx=>?_,fun h=>by cases h⟩
   ·have hj:j<r.n:=by have:=(Ys6.1 hvj).1;simpa using this
    have hv':v=r.g j:=by simpa[hj]using hvj.symm
    subst hv'
    exact⟨_,hcell j hj,VR.mono hmono _ _ (hv j hj)⟩
   ·have hj:j<r.n:=hj
    rw[hcell j hj]at hx
    simp only[Yro]at hx
    subst hx
    exact g3 j hj
  ·obtain⟨o,q1,q2⟩:=s.hr.obj i l h2
   exact⟨o,by rw[hold i h1];exact q1,q2.mono hmono⟩
 ·rw[hro i l o hi' ho]at hw;cases hw
 ·obtain⟨t,ht⟩:=s.hr.glob g hg
  exact⟨t,hmono _ _ ht⟩
theorem Zn5.slice(s:Zn5 P W μ S){r:Yoh}(hok:r.ok W)(hv:∀i,i<r.n→VR μ (r.g i) (r.f i)){len cap z:Nat}(hn:r.n=cap*z)(hl:len≤cap)(hz:0<z):
  ∃μ' S' i,Zn5 P W μ' S'∧Zgn μ S μ' S'∧VR μ' (.slice i 0 len (some cap) z) (.slice (some r.a) len cap)∧i<S'.n∧S'.h.get i=some (.cells ((List.range r.n).map r.g) (eOf W r.a) false):=by
 obtain⟨μ',S',q1,q2,q3,q4,q5⟩:=s.row hok hv
 refine⟨μ',S',S.n,q1,q2,?_,by omega,q5⟩
 obtain⟨⟨b,off,sp⟩,n,f,g⟩:=r
 obtain⟨g1,g2,_⟩:=hok
 obtain⟨_,_,_,_,hs,_,_,_⟩:=Zwb g1 g2
 simp only at hs hn q4
 subst hs
 simp only[VR]
 exact⟨⟨b,off,n⟩,cap,q4,by simp,hl,by simp[hn],fun k hk=>by simpa using hk,fun h=>by cases h⟩
theorem Zn5.list{P:Program}{W:World}{μ:Mu}{S:St}(s:Zn5 P W μ S){i:Zk0}(hi:i.ok W):
  ∃μ' S' v,Zn5 P W μ' S'∧Zgn μ S μ' S'∧VR μ' v i.val∧Sl S'.h S'.n v (strs i.strs):=by
 cases i with
 |nil=>exact⟨μ,S,.nilslice,s,Zgn.refl,by simp[Zk0.val,VR],Sl.nil⟩
 |emp b=>exact⟨μ,S,.empty,s,Zgn.refl,by simp[Zk0.val,VR],.inl ⟨rfl,.inr rfl⟩⟩
 |sl b l c f=>
  obtain⟨h1,h2,h3⟩:=hi
  obtain⟨μ',S',k,q1,q2,q3,q4,q5⟩:=s.slice (r:=⟨b,c,fun i=>.string (f i),fun i=>.str (f i).data.toList⟩) ⟨h2,h3,fun _ _=>rfl⟩ (fun i _=>by simp[VR]) (len:=l) (cap:=c) (z:=1) (by simp) h1 (by decide)
  refine⟨μ',S',_,q1,q2,q3,.inr ⟨k,0,some c,_,_,false,by simp[strs,Zk0.strs],q4,q5,fun j hj=>?_,by simp[strs,Zk0.strs];omega,fun k hk=>by simp[strs,Zk0.strs]at hk ⊢;omega⟩⟩
  have hj2:j<l:=by simpa[strs,Zk0.strs]using hj
  simp[strs,Zk0.strs,hj2,show j<c by omega]
inductive Zqg where
 |nil
 |emp (b:Addr)
 |sl (b:Addr) (l c:Nat) (f:Nat→Int)
def Zqg.val:Zqg→Value
 |.nil=>.slice none 0 0
 |.emp b=>.slice (some b) 0 0
 |.sl b l c f=>.slice (some b) l c
def Zqg.ok(W:World):Zqg→Prop
 |.sl b l c f=>l≤c∧0<c∧∀i,i<c→W.cell? (b.add i)=some (.int .i64 (f i))
 |_=>True
def Zqg.ints:Zqg→List Int
 |.sl b l c f=>(List.range l).map f
 |_=>[]
theorem Zn5.ints{P:Program}{W:World}{μ:Mu}{S:St}(s:Zn5 P W μ S){i:Zqg}(hi:i.ok W):
  ∃μ' S' v,Zn5 P W μ' S'∧Zgn μ S μ' S'∧VR μ' v i.val∧Sl S'.h S'.n v (i.ints.map fun z=>.int .i64 z):=by
 cases i with
 |nil=>exact⟨μ,S,.nilslice,s,Zgn.refl,by simp[Zqg.val,VR],Sl.nil⟩
 |emp b=>exact⟨μ,S,.empty,s,Zgn.refl,by simp[Zqg.val,VR],.inl ⟨rfl,.inr rfl⟩⟩
 |sl b l c f=>
  obtain⟨h1,h2,h3⟩:=hi
  obtain⟨μ',S',k,q1,q2,q3,q4,q5⟩:=s.slice (r:=⟨b,c,fun i=>.int .i64 (f i),fun i=>.int .i64 (f i)⟩) ⟨h2,h3,fun _ _=>rfl⟩ (fun i _=>by simp[VR]) (len:=l) (cap:=c) (z:=1) (by simp) h1 (by decide)
  refine⟨μ',S',_,q1,q2,q3,.inr ⟨k,0,some c,_,_,false,by simp[Zqg.ints],q4,q5,fun j hj=>?_,by simp[Zqg.ints];omega,fun k hk=>by simp[Zqg.ints]at hk ⊢;omega⟩⟩
  have hj2:j<l:=by simpa[Zqg.ints]using hj
  simp[Zqg.ints,hj2,show j<c by omega]
theorem Zn5.lists{P:Program}{W:World}{F:Nat→Zk0}:∀(n:Nat),(∀i,i<n→(F i).ok W)→∀{μ:Mu} {S:St},Zn5 P W μ S→
  ∃μ' S',Zn5 P W μ' S'∧Zgn μ S μ' S'∧∀i,i<n→∃v,VR μ' v (F i).val∧Sl S'.h S'.n v (strs (F i).strs)
 |0,_,μ,S,s=>⟨μ,S,s,Zgn.refl,fun i hi=>absurd hi (by omega)⟩
 |n+1,hF,μ,S,s=>by
  obtain⟨μ1,S1,s1,g1,a1⟩:=Zn5.lists n (fun i hi=>hF i (by omega)) s
  obtain⟨μ2,S2,v,s2,g2,a2,a3⟩:=s1.list (hF n (by omega))
  refine⟨μ2,S2,s2,g1.trans g2,fun i hi=>?_⟩
  by_cases e:i=n
  ·subst e;exact⟨v,a2,a3⟩
  ·obtain⟨u,b1,b2⟩:=a1 i (by omega)
   exact⟨u,VR.mono g2.mu _ _ b1,b2.keep g2.keep⟩
inductive Zo4 where
 |nil
 |emp (b:Addr)
 |sl (b:Addr) (l c:Nat) (F:Nat→Zk0)
def Zo4.val:Zo4→Value
 |.nil=>.slice none 0 0
 |.emp b=>.slice (some b) 0 0
 |.sl b l c f=>.slice (some b) l c
def Zo4.ok(W:World):Zo4→Prop
 |.sl b l c F=>l≤c∧0<c∧∀i,i<c→W.cell? (b.add i)=some (F i).val∧(F i).ok W
 |_=>True
def Zo4.rows:Zo4→List (List Str)
 |.sl b l c F=>(List.range l).map fun i=>(F i).strs
 |_=>[]
theorem Zk0.one{i:Zk0}:i.val.oneCell'=true:=by cases i<;>rfl
theorem Zn5.mat{P:Program}{W:World}{μ:Mu}{S:St}(s:Zn5 P W μ S){m:Zo4}(hm:m.ok W):
  ∃μ' S' v,Zn5 P W μ' S'∧Zgn μ S μ' S'∧VR μ' v m.val∧∃us:List V,Sl S'.h S'.n v us∧us.length=m.rows.length∧∀(j:Nat) (l:List Str),m.rows[j]?=some l→∃u,us[j]?=some u∧Sl S'.h S'.n u (strs l):=by
 cases m with
 |nil=>exact⟨μ,S,.nilslice,s,Zgn.refl,by simp[Zo4.val,VR],[],Sl.nil,rfl,fun j l h=>by simp[Zo4.rows]at h⟩
 |emp b=>exact⟨μ,S,.empty,s,Zgn.refl,by simp[Zo4.val,VR],[],.inl ⟨rfl,.inr rfl⟩,rfl,fun j l h=>by simp[Zo4.rows]at h⟩
 |sl b l c F=>
  obtain⟨h1,h2,h3⟩:=hm
  obtain⟨μ1,S1,s1,g1,a1⟩:=Zn5.lists c (fun i hi=>(h3 i hi).2) s
  have hex:∀i,∃v:V,i<c→VR μ1 v (F i).val∧Sl S1.h S1.n v (strs (F i).strs):=fun i=>by
   by_cases hi:i<c
   ·obtain⟨v,hv⟩:=a1 i hi;exact⟨v,fun _=>hv⟩
   ·exact⟨.nilslice,fun h=>absurd h hi⟩
  obtain⟨g,hg⟩:=Classical.axiomOfChoice hex
  obtain⟨μ',S',k,q1,q2,q3,q4,q5⟩:=s1.slice (r:=⟨b,c,fun i=>(F i).val,g⟩) ⟨h2,fun i hi=>(h3 i hi).1,fun _ _=>Zk0.one⟩ (fun i hi=>(hg i hi).1) (len:=l) (cap:=c) (z:=1) (by simp) h1 (by decide)
  refine⟨μ',S',_,q1,g1.trans q2,q3,(List.range l).map g,.inr ⟨k,0,some c,_,_,false,by simp,q4,q5,fun j hj=>?_,by simp;omega,fun k hk=>by simp at hk ⊢;omega⟩,by simp[Zo4.rows],fun j x hj=>?_⟩
  ·have hj2:j<l:=by simpa using hj
   simp[hj2,show j<c by omega]
  ·have hjl:j<l:=by
    apply Ys0;intro hc
    rw[Yr2 (by simp[Zo4.rows];omega)]at hj;cases hj
   have hx:x=(F j).strs:=by simpa[Zo4.rows,hjl]using hj.symm
   subst hx
   exact⟨g j,by simp[hjl],((hg j (by omega)).2).keep q2.keep⟩
open Go Go.ChangeShapes Go.WideShapes Go.RowKit Go.Deep
variable {P:Program} {s:TypeId}
theorem open_list{t:TypeId}(ht:P.underlying t=some (.slice s))(hs:P.underlying s=some .string)(hc:P.cellsOf s=1){H:Type}{enc:TypeId×Value→H}{W:World}{fuel:Nat}{c:Value}{x:DataW H×List MemPlace}
  (h:DataW.trod enc P W 0 (fun _=>true) true fuel t [c]=some x):∃i:Zk0,c=i.val∧i.ok W∧i.strs.length<9223372036854775808:=by
 rcases open_slice1 ht hc h with⟨hc,_⟩|⟨a,len,cap,m,n,Vf,D,Pl,hc,_,hl,hmx,hm,_,hx⟩
 ·have hc':c=.slice none 0 0:=by simpa using hc
  exact⟨.nil,hc',trivial,by simp[Zk0.strs]⟩
 ·simp only[if_true]at hm
  subst hm
  have hc':c=.slice (some a) len m:=by simpa using hc
  rcases Yua m with h0|h0
  ·subst h0
   have:len=0:=by omega
   subst this
   exact⟨.emp a,hc',trivial,by simp[Zk0.strs]⟩
  ·refine⟨.sl a len m fun i=>match Vf i with|.string s=>s|_=>⟨#[]⟩,hc',⟨hl,h0,fun i hi=>?_⟩,by simp only[Zk0.strs,Yt9,List.length_range];unfold maxLen at hmx;omega⟩
   obtain⟨g1,g2⟩:=hx i hi
   obtain⟨s,e0,_⟩:=DataW.trod_string hs g2
   simp only[Ysa,and_true]at e0
   rw[g1]
   simp only[e0]
theorem open_ints{t:TypeId}(ht:P.underlying t=some (.slice s))(hs:P.underlying s=some (.int .i64))(hc:P.cellsOf s=1){H:Type}{enc:TypeId×Value→H}{W:World}{fuel:Nat}{c:Value}{x:DataW H×List MemPlace}
  (h:DataW.trod enc P W 0 (fun _=>true) true fuel t [c]=some x):∃i:Zqg,c=i.val∧i.ok W∧i.ints.length<9223372036854775808:=by
 rcases open_slice1 ht hc h with⟨hc,_⟩|⟨a,len,cap,m,n,Vf,D,Pl,hc,_,hl,hmx,hm,_,hx⟩
 ·have hc':c=.slice none 0 0:=by simpa using hc
  exact⟨.nil,hc',trivial,by simp[Zqg.ints]⟩
 ·simp only[if_true]at hm
  subst hm
  have hc':c=.slice (some a) len m:=by simpa using hc
  rcases Yua m with h0|h0
  ·subst h0
   have:len=0:=by omega
   subst this
   exact⟨.emp a,hc',trivial,by simp[Zqg.ints]⟩
  ·refine⟨.sl a len m fun i=>match Vf i with|.int _ z=>z|_=>0,hc',⟨hl,h0,fun i hi=>?_⟩,by simp only[Zqg.ints,Yt9,List.length_range];unfold maxLen at hmx;omega⟩
   obtain⟨g1,g2⟩:=hx i hi
   obtain⟨z,e0,_⟩:=DataW.trod_int hs g2
   simp only[Ysa,and_true]at e0
   rw[g1]
   simp only[e0]
theorem open_mat{t l:TypeId}(ht:P.underlying t=some (.slice l))(hlt:P.underlying l=some (.slice s))(hs:P.underlying s=some .string)(hcl:P.cellsOf l=1)(hc:P.cellsOf s=1){H:Type}{enc:TypeId×Value→H}{W:World}{fuel:Nat}{c:Value}{x:DataW H×List MemPlace}
  (h:DataW.trod enc P W 0 (fun _=>true) true fuel t [c]=some x):∃m:Zo4,c=m.val∧m.ok W∧m.rows.length<9223372036854775808∧∀r∈m.rows,r.length<9223372036854775808:=by
 rcases open_slice1 ht hcl h with⟨hc,_⟩|⟨a,len,cap,m,n,Vf,D,Pl,hc',_,hl,hmx,hm,_,hx⟩
 ·have hc':c=.slice none 0 0:=by simpa using hc
  exact⟨.nil,hc',trivial,by simp[Zo4.rows],fun r hr=>by simp[Zo4.rows]at hr⟩
 ·simp only[if_true]at hm
  subst hm
  have hc':c=.slice (some a) len m:=by simpa using hc'
  rcases Yua m with h0|h0
  ·subst h0
   have:len=0:=by omega
   subst this
   exact⟨.emp a,hc',trivial,by simp[Zo4.rows],fun r hr=>by simp[Zo4.rows]at hr⟩
  ·have hst:∀i,∃s:Zk0,i<m→Vf i=s.val∧s.ok W∧s.strs.length<9223372036854775808:=fun i=>by
    by_cases hi:i<m
    ·obtain⟨g1,g2⟩:=hx i hi
     obtain⟨s,q⟩:=open_list hlt hs hc g2
     exact⟨s,fun _=>q⟩
    ·exact⟨.nil,fun h=>absurd h hi⟩
   obtain⟨F,hF⟩:=Classical.axiomOfChoice hst
   refine⟨.sl a len m F,hc',⟨hl,h0,fun i hi=>⟨?_,(hF i hi).2.1⟩⟩,by simp only[Zo4.rows,Yt9,List.length_range];unfold maxLen at hmx;omega,fun r hr=>?_⟩
   ·rw[(hx i hi).1,(hF i hi).1]
   ·obtain⟨i,hi,rfl⟩:=Ysv.1 hr
    exact(hF i (by have:=Yu6.1 hi;omega)).2.2
theorem tabs_of_laid{W:World}{laid:List (String×DataW Unit)}{name:String}{k:IntKind}{zs:List Int}{g:Nat}{t e:TypeId}{n:Nat}{z:Array Value}
  (hg:P.globalNamed name=some g) (hty:(P.globals[g]?).map (·.type)=some t) (ht:P.underlying t=some (.array n e)) (he:P.underlying e=some (.int k)) (hce:P.cellsOf e=1) (hct:P.cellsOf t=n)
  (hf:laid.filter (fun x=>x.1==name)=[(name,Lib.tabData k zs)]) (hlt:g<P.globals.size) (hz:((begin P (fun _ _=>0) default).world.heap[g]?).bind Obj.row?=some (z,t))
  (hl:laidMet P laid W) (hs:W.ShapedOpen P):TabsIn P W [(g,.cells (zs.map fun z=>V.int k z) t false)]:=by
 have h1:=laidMet.filter (fun x=>x.1==name) hl
 rw[hf]at h1
 have h2:=Lib.tabIs_of_head hg hty ht he hce hct h1
 unfold Lib.TabIs World.var? at h2
 rw[hg]at h2
 obtain⟨cs,h3,_⟩:=hs.1 g z t hlt hz
 simp only[Option.bind_some,h3,Yro]at h2
 subst h2
 exact TabsIn.one h3
end Go.Mx
