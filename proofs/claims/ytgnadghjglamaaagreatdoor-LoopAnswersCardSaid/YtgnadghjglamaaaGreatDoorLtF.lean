/-lensletlaw06-/
import Derived.Test.YtgnadghjglamaaaGreatDoorLtB
set_option linter.all false
set_option maxHeartbeats 8000000
namespace Go.Mx
open Go Go.Proofs
set_option maxRecDepth 1000000
def Ykd{h:T O}{N i:Nat}{w:List Nat}{v:V}{dl:List Rat}{q:Rat}(t:Tx h N v dl)(hl:dl.length<1000)(hi:i<N)(hg:h.get i=some (.cells [.str (Zas q)] 22 true)):
  ∃y h' N',Zbi ⟨h,N,w⟩ 1 16 22 (.slice i 0 1 (some 1) 1) v=some (y,⟨h',N',w⟩)∧Keeps h N h' N'∧Tx h' N' y (q::dl):=by
 have s1:Sn 1 h N v ((tx dl).map fun x=>[x]):=Sn.one.2 t
 have e:((tx dl).map fun x=>[x]).flatten=tx dl:=by
  generalize tx dl=z
  induction z with
  |nil=>rfl
  |cons a z ih=>simpa using ih
 have sr:=Zzx (w:=w) s1
 rw[e,Yug,Zb1]at sr
 by_cases h0:dl.length=0
 ·have:dl=[]:=Yr7 h0
  subst this
  refine⟨.slice i 0 1 (some 1) 1,h,N,by simp only[Zbi,sr];simp,Keeps.refl,Sl.row (e:=22) (rw:=true) (cp:=some 1) hi hg rfl (by simp[tx,strs])⟩
 ·refine⟨.slice N 0 (dl.length+1) none 1,h.set N (.cells (tx (q::dl)) 22 true),N+1,?_,Keeps.refl.new _,Sl.row (e:=22) (rw:=true) (cp:=none) (by omega) (by rw[T.get_set,Yrw rfl]) (by rw[Zb1];rfl) (by simp[tx,strs])⟩
  have h1:¬1+dl.length≤1:=by omega
  simp only[Zbi,sr,Zc0,St.row,hg,slc,St.alloc]
  simp[h0,h1,tx,strs,Nat.add_comm]
  omega
def Zjp{g l p:Rat}{D:Nat}{d:List Rat}:(runE g l p D d).length=d.length∧(Zw5 g l p D d).length=d.length:=@Zd8 g l p D d d.length
def Zk9{g l p:Rat}{D:Nat}{d:List Rat}{j:Nat}(h:j<d.length):pg (runE g l p D d) j=Zn3 g l p D d j∧pg (Zw5 g l p D d) j=Ya2 g l p D d j:=Ye0 h
def Ynm{al bl cl:List Rat}{g l p:Str}{D:Int}{qg ql qp:Rat}{dn:Nat}(n8:al.length≤8)(lb:bl.length=al.length)(lc:cl.length=al.length)(A0:AnL g l p D qg ql qp dn)(qa:∀q∈al,Qb 29 q)(qb:∀q∈bl,Qb 29 q)(qc:∀q∈cl,Qb 29 q)(hc:∀k,pg cl k=pg al k+pg bl k):AnD al (runE qg ql qp dn al) (Zw5 qg ql qp dn al) (runE qg ql qp dn bl) (runE qg ql qp dn cl) (runE qg ql qp dn (0::al)) where
 le:=Zjp.1
 lu:=Zjp.2
 lf:=Zjp.1.trans lb
 lg:=Zjp.1.trans lc
 ll:=Zjp.1
 n8:=n8
 hg:=fun i hi=>by
  rw[(Zk9 (by omega)).1,(Zk9 (by omega)).1,(Zk9 (by omega)).1]
  exact Yi8 hc i
 hl:=fun i hi=>by
  rw[(Zk9 (by simp only[Yrr];omega)).1,(Zk9 (by omega)).1]
  exact Yac rfl (fun k=>rfl) i
 ha:=fun i hi=>by
  rw[(Zk9 (by omega)).1,(Zk9 (by omega)).2]
  unfold Zn3
  grind
 h0:=by
  rw[(Zk9 (by simp)).1]
  unfold Zn3
  rw[Zps]
  show (0:Rat)-0=0
  grind
 be:=fun y hy=>((Zk8 (D:=dn) A0.bg A0.bl A0.bp qa (k:=al.length) (Yru _)).2 y hy).mono (by omega)
 bu:=fun y hy=>(Zpk (D:=dn) A0.bg A0.bl A0.bp qa (k:=al.length) (Yru _) y hy).mono (by omega)
 bf:=fun y hy=>((Zk8 (D:=dn) A0.bg A0.bl A0.bp qb (k:=bl.length) (Yru _)).2 y hy).mono (by omega)
def Yps{H:T O}{M n C dn:Nat}{W:List Nat}{r:T V}{va vb v8:V}{al bl cl:List Rat}{g l p:Str}{D:Int}{qg ql qp:Rat}(A0:AnL g l p D qg ql qp dn)(n8:al.length≤8)(lb:bl.length=al.length)(lc:cl.length=al.length)(qa:∀q∈al,Qb 29 q)(qb:∀q∈bl,Qb 29 q)(qc:∀q∈cl,Qb 29 q)(hc:∀k,pg cl k=pg al k+pg bl k)(ta:Tx H n va al)(tb:Tx H n vb bl)(t8:Tx H n v8 cl)(hW:Zae M W=[])(hMn:M≤n)(hP:P10 H n)(hC:H.get C=some (.cells [.str g,.str l,.str p,.int .i64 D] 24 true))(hCn:C<n)(r1:r.get 1=some va)(r2:r.get 2=some vb)(r3:r.get 3=some (.ptr C 0))(r8:r.get 8=some v8):
  Code A.C none A.ta3_5 ⟨r,298,[]⟩ ⟨H,n,W⟩ (fun e fr st=>Yd7 M e fr st H n):=by
 rw[Zai]
 simp(disch:=first|(simp;done)|omega|rfl) [-getElem?_pos,A.ta3_5,r1,r2,r3,r8,hC,hCn,Zaj,slc]
 refine Zac (Zr2 ta (by rw[Yug];omega)) ?_
 rintro v1 h1 n1 k1 tv1
 simp(disch:=first|(simp;done)|omega|rfl) [-getElem?_pos,]
 refine Zac (Yny A0 tv1 (by omega) qa (hP.keep k1)) ?_
 rintro _ h2 n2 k2 ⟨ve,vu,rfl,te,tu⟩
 have K2:=k1.trans k2
 have le2:=K2.le
 have hC2:=(K2.get C hCn).trans hC
 have lC2:C<n2:=by omega
 simp(disch:=first|(simp;done)|omega|rfl) [-getElem?_pos,r1,r2,r3,r8,hC2,lC2,Zaj,slc]
 refine Zac (Zr2 (tb.keep K2) (by rw[Yug];omega)) ?_
 rintro v3 h3 n3 k3 tv3
 simp(disch:=first|(simp;done)|omega|rfl) [-getElem?_pos,]
 refine Zac (Yny A0 tv3 (by omega) qb ((hP.keep K2).keep k3)) ?_
 rintro _ h4 n4 k4 ⟨vf,vx,rfl,tf,_⟩
 have k34:=k3.trans k4
 have K4:=K2.trans k34
 have le4:=K4.le
 have hC4:=(K4.get C hCn).trans hC
 have lC4:C<n4:=by omega
 simp(disch:=first|(simp;done)|omega|rfl) [-getElem?_pos,r1,r2,r3,r8,hC4,lC4,Zaj,slc]
 refine Zac (Yny A0 (t8.keep K4) (by omega) qc (hP.keep K4)) ?_
 rintro _ h5 n5 k5 ⟨vg,vy,rfl,tg,_⟩
 have K5:=K4.trans k5
 have le5:=K5.le
 have hC5:=(K5.get C hCn).trans hC
 have lC5:C<n5:=by omega
 have kN:Keeps h5 n5 (h5.set n5 (.cells [.str (Zas 0)] 22 true)) (n5+1):=Keeps.refl.new _
 have K6:=K5.trans kN
 obtain⟨y,h6,n6,ap,k6,t6⟩:=Ykd (w:=[]) (i:=n5) (q:=0) (ta.keep K6) (by omega) (by omega) (by rw[T.get_set,Yrw rfl])
 rw[Zwu]at ap
 simp(disch:=first|(simp;done)|omega|rfl) [-getElem?_pos,r1,r2,r3,r8,hC5,lC5,Zaj,slc,splice,ap]
 refine Zac (Yny A0 t6 (by simp only[Yrr];omega) (fun q hq=>by
  rcases Yss.1 hq with rfl|hq
  ·exact Qb.int (z:=0) (k:=29) (by decide) (by decide)
  ·exact qa q hq) ((hP.keep K6).keep k6)) ?_
 rintro _ h7 n7 k7 ⟨vl,vz,rfl,tl,_⟩
 have K7:=(K6.trans k6).trans k7
 have k57:=(kN.trans k6).trans k7
 have le7:=K7.le
 simp(disch:=first|(simp;done)|omega|rfl) [-getElem?_pos,]
 refine Za7 (Ypr (M:=M) (C:=C) A0 (Ynm n8 lb lc A0 qa qb qc hc) (ta.keep K7) ((te.1.keep (k34.trans k5)).keep k57) ((tu.1.keep (k34.trans k5)).keep k57) (tf.1.keep (k5.trans k57)) (tg.1.keep k57) tl.1 hW (by omega) (hP.keep K7) ((K7.get C hCn).trans hC) (by omega) (by simp[r1]) (by simp[r3]) (by simp) (by simp) (by simp) (by simp) (by simp) (by simp) (by simp) (by simp) (by simp)) ?_
 intro e fr st hq
 simp(disch:=first|(simp;done)|omega|rfl) [-getElem?_pos,]
 exact hq.trans K7
variable {a b:List Rat}
def Yd5(a b:List Rat):List Rat:=(List.range a.length).map fun i=>pg a i+pg b i
def Zl3:(Yd5 a b).length=a.length:=by simp[Yd5]
def Zwp{i:Nat}(h:i<a.length):(Yd5 a b)[i]?=some (pg a i+pg b i):=by simp[Yd5,h]
def Ylj(h:b.length=a.length)(k:Nat):pg (Yd5 a b) k=pg a k+pg b k:=by
 by_cases hk:k<a.length
 ·unfold pg
  rw[Zwp hk]
  rfl
 ·unfold pg
  rw[Yr6 (by rw[Zl3];omega),Yr6 (by omega),Yr6 (by omega)]
  show (0:Rat)=0+0
  grind
def Ypt{H:T O}{M n C dn:Nat}{W:List Nat}{r:T V}{va vb:V}{al bl:List Rat}{g l p:Str}{D:Int}{qg ql qp:Rat}(A0:AnL g l p D qg ql qp dn)(n8:al.length≤8)(lb:bl.length=al.length)(qa:∀q∈al,Qb 14 q)(qb:∀q∈bl,Qb 14 q)(ta:Tx H n va al)(tb:Tx H n vb bl)(hW:Zae M W=[])(hMn:M≤n)(hP:P10 H n)(hC:H.get C=some (.cells [.str g,.str l,.str p,.int .i64 D] 24 true))(hCn:C<n)(r1:r.get 1=some va)(r2:r.get 2=some vb)(r3:r.get 3=some (.ptr C 0)):
  Code A.C none A.ta3_6 ⟨r,298,[]⟩ ⟨H,n,W⟩ (fun e fr st=>Yd7 M e fr st H n):=by
 rw[Zai]
 have la:=ta.len
 try rw[Zb1]at la
 have lb':=tb.len
 try rw[Zb1]at lb'
 rw[lb]at lb'
 simp(disch:=first|(simp;done)|omega|rfl) [-getElem?_pos,A.ta3_6,r1,la]
 refine Zak [(8,9),(60,75)] (fun e r' st=>e=.exit 0∧Zae M st.w=[]∧Keeps H n st.h st.n∧∃v8,r'.get 8=some v8∧Own 1 22 n st.h st.n v8 ((tx (Yd5 al bl)).map fun y=>[y])) (fun m r' st=>Zae M st.w=[]∧Keeps H n st.h st.n∧∃t,t+m=al.length∧r'.get 60=some (.int .i64 t)∧∃v8,r'.get 8=some v8∧Own 1 22 n st.h st.n v8 ((tx ((Yd5 al bl).take t)).map fun y=>[y])) al.length ?_ ?_ ?_
 ·exact⟨hW,Keeps.refl,0,by omega,by simp,.nilslice,by simp,by simpa[tx,strs]using Own.nil⟩
 ·rintro m r' ⟨H1,n1,W1⟩ hr hf ⟨hW1,hK,t,ht,h60,v8,h8,o8⟩
  simp only at hW1 hK o8
  rw[Zai]
  have leK:=hK.le
  cases m with
  |zero=>
   obtain rfl:t=al.length:=by omega
   rw[Yr2 (by rw[Zl3];omega)]at o8
   simp(disch:=first|(simp;done)|omega|rfl) [-getElem?_pos,A.lb3_3,hr,hf,h60,h8,la,hW1,hK]
   exact o8
  |succ m=>
   have hlt:t<al.length:=by omega
   have hlt':(t:Int)<(al.length:Int):=by omega
   have lt8:((Yd5 al bl).take t).length=t:=by rw[Ysi,Zl3];omega
   obtain⟨i1,o1,c1,y1,w1,a1,a2,a3,a4⟩:=(ta.keep hK).at (Zgp (Zbk (p:=al) (i:=t) hlt))
   obtain⟨i2,o2,c2,y2,w2,b1,b2,b3,b4⟩:=(tb.keep hK).at (Zgp (Zbk (p:=bl) (i:=t) (by rw[lb];exact hlt)))
   have q1:=qa _ (Yr1 (Zbk (p:=al) (i:=t) hlt))
   have q2:=qb _ (Yr1 (Zbk (p:=bl) (i:=t) (by rw[lb];exact hlt)))
   simp(disch:=first|(simp;done)|omega|rfl) [-getElem?_pos,A.lb3_3,hr,hf,h60,h8,hlt,hlt',r1,r2,la,lb',a1,a2,a3,a4,b1,b2,b3,b4]
   refine Zac (Zny q1 q2 (by decide) (by decide)) ?_
   rintro _ h9 n9 k9 rfl
   have le9:=k9.le
   obtain⟨u',h',w',j1',j2',j3',_,j5'⟩:=Zb5 (x:=[.str (Zas (pg al t+pg bl t))]) (u:=.slice n9 0 1 (some 1) 1) (bytes:=16) (w:=[]) ((o8.keep k9).keep (Keeps.refl.new (.cells [.str (Zas (pg al t+pg bl t))] 22 true))) (by omega) (by decide) rfl (by simp[Za0,St.row,slc]) (by simp[Zb1,lt8];omega)
   have e7:((tx ((Yd5 al bl).take t)).map fun y=>[y])++[[.str (Zas (pg al t+pg bl t))]]=(tx ((Yd5 al bl).take (t+1))).map fun y=>[y]:=by
    rw[Yup,Zwp hlt];simp[tx,strs]
   rw[e7]at j5'
   have ow:Zae M w'=[]:=Zpq j2' (by omega) rfl
   simp(disch:=first|(simp;done)|omega|rfl) [-getElem?_pos, -Zae,hr,hf,h60,splice,j1']
   exact⟨m,by omega,Yjn ow hW1,((hK.trans k9).trans (Keeps.refl.new (.cells [.str (Zas (pg al t+pg bl t))] 22 true))).then j3',t+1,by omega,by simp,j5'⟩
 ·rintro _ r' ⟨H1,n1,W1⟩ hr ⟨rfl,hW1,hK,v8,h8,o8⟩
  simp only at hW1 hK o8
  have leK:=hK.le
  simp(disch:=first|(simp;done)|omega|rfl) [-getElem?_pos,hr]
  refine Za7 (Yps (M:=M) (C:=C) A0 n8 lb (Zl3) (fun q hq=>(qa q hq).mono (by decide)) (fun q hq=>(qb q hq).mono (by decide)) (fun q hq=>?_) (Ylj lb) (ta.keep hK) (tb.keep hK) (Ymg o8).1 hW1 (by omega) (hP.keep hK) ((hK.get C hCn).trans hC) (by omega) (by simp[hr,r1]) (by simp[hr,r2]) (by simp[hr,r3]) (by simp[h8])) ?_
  ·obtain⟨i,hi,rfl⟩:=Ytq.1 hq
   have hi':i<al.length:=by simpa using hi
   exact((qa _ (Yr1 (Zbk (p:=al) (i:=i) hi'))).add (qb _ (Yr1 (Zbk (p:=bl) (i:=i) (by omega))))).mono (by decide)
  ·intro e fr st hq
   simp(disch:=first|(simp;done)|omega|rfl) [-getElem?_pos,]
   exact hq.trans hK
def Zys{g l p:Str}{D:Int}{n dd:Nat}{h:T O}{N:Nat}(hg:g.length<9223372036854775808)(hl:l.length<9223372036854775808)(hp:p.length<9223372036854775808)(hc:¬(g.length≤40∧l.length≤40∧p.length≤40)):Fn A.C 8 [.agg [.str g,.str l,.str p,.int .i64 D],.int .i64 (dd:Nat),.int .i64 (n:Nat)] h N (fun u _ _=>u=.bool false):=by
 intro w
 have kB:Keeps h N (h.set N (.cells [.str g,.str l,.str p,.int .i64 D] 26 true)) (N+1):=Keeps.refl.new _
 have b0:(h.set N (.cells [.str g,.str l,.str p,.int .i64 D] 26 true)).get N=some (.cells [.str g,.str l,.str p,.int .i64 D] 26 true):=by simp
 rw[Zaf,A.k8 (by simp)]
 simp(disch:=first|(simp;done)|omega|rfl) [-getElem?_pos,A.b8,Zaj,slc]
 generalize h.set N (.cells [.str g,.str l,.str p,.int .i64 D] 26 true)=HB at*
 refine Zac (Zu3 hg hl hp) ?_
 rintro _ h1 n1 k1 rfl
 rw[decide_eq_false hc]
 simp(disch:=first|(simp;done)|omega|rfl) [-getElem?_pos,Ret]
 exact kB.trans k1
def Ym6{l:List Str}(h:Zsg l 8 4=true):l.length≤8∧strs l=tx (Zs8 l)∧∀q∈Zs8 l,Qb 14 q:=by
 simp only[Zsg,Ysd,decide_eq_true_eq,Ys5]at h
 refine⟨h.1,Yak (Zv4 fun x hx=>?_),fun q hq=>?_⟩
 ·obtain⟨s,hs,rfl⟩:=Ytq.1 hx
  simp[(Ym7 (h.2 s hs)).1]
 ·obtain⟨s,hs,rfl⟩:=Ytq.1 hq
  exact(Ym7 (h.2 s hs)).2.2
def Zzb{h:T O}{N:Nat}{g l p:Str}{D:Int}{va vb:V}{da db:List Str}(ha:Sl h N va (strs da))(hb:Sl h N vb (strs db))(hP:P10 h N)(hda:da.length<9223372036854775808)(hdb:db.length<9223372036854775808)(hg:g.length<9223372036854775808)(hl:l.length<9223372036854775808)(hp:p.length<9223372036854775808):Fn A.C 3 [.agg [.str g,.str l,.str p,.int .i64 D],va,vb] h N (fun x _ _=>x=.bool true):=by
 intro w
 rw[Zaf,A.k3 (by simp)]
 have lva:=ha.len
 rw[Zf1]at lva
 have lvb:=hb.len
 rw[Zf1]at lvb
 have kB:Keeps h N (((h.set N (.cells [.str g,.str l,.str p,.int .i64 D] 24 true)).set (N+1) (.cells [.str [],.str [],.str [],.int .i64 0] 26 true)).set (N+1) (.cells [.str g,.str l,.str p,.int .i64 D] 26 true)) (N+2):=((Keeps.refl.new _).new _).set (by omega)
 have hA:=fun w=>Zhm (w:=w) (hP.keep kB)
 have b0:(((h.set N (.cells [.str g,.str l,.str p,.int .i64 D] 24 true)).set (N+1) (.cells [.str [],.str [],.str [],.int .i64 0] 26 true)).set (N+1) (.cells [.str g,.str l,.str p,.int .i64 D] 26 true)).get N=some (.cells [.str g,.str l,.str p,.int .i64 D] 24 true):=by simp
 have b1:(((h.set N (.cells [.str g,.str l,.str p,.int .i64 D] 24 true)).set (N+1) (.cells [.str [],.str [],.str [],.int .i64 0] 26 true)).set (N+1) (.cells [.str g,.str l,.str p,.int .i64 D] 26 true)).get (N+1)=some (.cells [.str g,.str l,.str p,.int .i64 D] 26 true):=by simp
 simp(disch:=first|(simp;done)|omega|rfl) [-getElem?_pos,A.b3,Zaj,slc,splice,Zam]
 generalize ((h.set N (.cells [.str g,.str l,.str p,.int .i64 D] 24 true)).set (N+1) (.cells [.str [],.str [],.str [],.int .i64 0] 26 true)).set (N+1) (.cells [.str g,.str l,.str p,.int .i64 D] 26 true)=hB at*
 simp(disch:=first|(simp;done)|omega|rfl) [-getElem?_pos,hA,b0,b1,Zaj,slc]
 by_cases cS:g.length≤40∧l.length≤40∧p.length≤40
 ·have fl:=Zyr (h:=hB) (N:=N+2) (D:=D) (dd:=4) (n:=6) cS.1 cS.2.1 cS.2.2 (by decide) (by decide)
  refine Zac fl ?_
  rintro _ h1 n1 k1 rfl
  have le1:=k1.le
  have K1:=kB.trans k1
  have hA1:=fun w=>Zhm (w:=w) (hP.keep K1)
  by_cases cc:(decide (Za8 g l p D=0)&&(Zsg [g,l,p] 3 4&&decide (D≤((6:Nat):Int))))=true
  ·rw[cc]
   simp only[Ysd,decide_eq_true_eq]at cc
   obtain⟨c0,cf,_⟩:=cc
   by_cases ce:da.length=db.length
   ·have ce':(da.length:Int)=(db.length:Int):=by omega
    simp(disch:=first|(simp;done)|omega|rfl) [-getElem?_pos,lva,lvb,ce',Zag]
    have fa:=Zua (d:=4) (n:=8) (ha.keep K1) hda (by decide) (by decide)
    refine Zac fa ?_
    rintro _ h2 n2 k2 rfl
    have K2:=K1.trans k2
    have hA2:=fun w=>Zhm (w:=w) (hP.keep K2)
    by_cases ca:Zsg da 8 4=true
    ·rw[ca]
     simp(disch:=first|(simp;done)|omega|rfl) [-getElem?_pos,]
     have fb:=Zua (d:=4) (n:=8) (hb.keep K2) hdb (by decide) (by decide)
     refine Zac fb ?_
     rintro _ h3 n3 k3 rfl
     have K3:=K2.trans k3
     have le3:=K3.le
     have hA3:=fun w=>Zhm (w:=w) (hP.keep K3)
     by_cases cb:Zsg db 8 4=true
     ·rw[cb]
      simp(disch:=first|(simp;done)|omega|rfl) [-getElem?_pos,]
      obtain⟨a1,a2,a3⟩:=Ym6 ca
      obtain⟨e1,e2,e3⟩:=Ym6 cb
      obtain⟨cg,cl,cp,dn,hD,dl,_⟩:=Ypj c0
      simp only[Zsg,List.all_cons,List.all_nil,Bool.and_true,Ysd]at cf
      obtain⟨_,f1,f2,f3⟩:=cf
      have A0:AnL g l p D (ratS g) (ratS l) (ratS p) dn:=⟨(Zcd cg).1.symm,(Zcd cl).1.symm,(Zcd cp).1.symm,hD,dl,(Ym7 f1).2.2,(Ym7 f2).2.2,(Ym7 f3).2.2,cS.1,cS.2.1,cS.2.2,c0⟩
      have ta:Tx h3 n3 va (Zs8 da):=by have:=ha.keep K3;rw[a2]at this;exact this
      have tb:Tx h3 n3 vb (Zs8 db):=by have:=hb.keep K3;rw[e2]at this;exact this
      have gC:=((k1.trans (k2.trans k3)).get N (by omega)).trans b0
      refine Za7 (Ypt (M:=N) (C:=N) A0 (by rw[Zlt];exact a1) (by rw[Zlt,Zlt];exact ce.symm) a3 e3 ta tb (by simp) (by omega) (hP.keep K3) gC (by have:=(k1.trans (k2.trans k3)).le;omega) (by simp) (by simp) (by simp)) ?_
      rintro _ _ ⟨H,nn,WW⟩ ⟨rfl,r6',rfl,h6,hw,hk⟩
      simp only at hw hk
      simp(disch:=first|(simp;done)|omega|rfl) [-getElem?_pos,h6,hw,Ret]
      exact K3.trans hk
     ·have cb':Zsg db 8 4=false:=by simpa using cb
      rw[cb']
      simp(disch:=first|(simp;done)|omega|rfl) [-getElem?_pos,hA3,Ret]
      exact K3
    ·have ca':Zsg da 8 4=false:=by simpa using ca
     rw[ca']
     simp(disch:=first|(simp;done)|omega|rfl) [-getElem?_pos,hA2,Ret]
     exact K2
   ·have ce':¬(da.length:Int)=(db.length:Int):=by omega
    simp(disch:=first|(simp;done)|omega|rfl) [-getElem?_pos,lva,lvb,ce',Zag,hA1,Ret]
    exact K1
  ·have cc':(decide (Za8 g l p D=0)&&(Zsg [g,l,p] 3 4&&decide (D≤((6:Nat):Int))))=false:=by simpa using cc
   rw[cc']
   simp(disch:=first|(simp;done)|omega|rfl) [-getElem?_pos,hA1,Ret]
   exact K1
 ·have fl:=Zys (h:=hB) (N:=N+2) (D:=D) (dd:=4) (n:=6) hg hl hp cS
  refine Zac fl ?_
  rintro _ h1 n1 k1 rfl
  have K1:=kB.trans k1
  have hA1:=fun w=>Zhm (w:=w) (hP.keep K1)
  simp(disch:=first|(simp;done)|omega|rfl) [-getElem?_pos,hA1,Ret]
  exact K1
end Go.Mx
