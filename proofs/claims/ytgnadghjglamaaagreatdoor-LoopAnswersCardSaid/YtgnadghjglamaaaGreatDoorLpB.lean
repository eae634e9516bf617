/-loop-/
import Derived.Test.YtgnadghjglamaaaGreatDoorNfB
set_option linter.all false
namespace Go.Mx
noncomputable section
open Go Go.Proofs
variable {N:Nat} {d:Int} {g l:Str} {h:T O}
set_option maxRecDepth 1000000
def A.b69:=A.q Tryz.f69
def A.k69:=@A.kk 69 30 [.tmp 2] A.b69 (by kernel_rfl) rfl
def A.b20:=A.q Tryz.f20
def A.k20:=@A.kk 20 27 [.tmp 2] A.b20 (by kernel_rfl) rfl
def A.b18:=A.q Tryz.f18
def A.k18:=@A.kk 18 19 [.tmp 2] A.b18 (by kernel_rfl) rfl
def A.b42:=A.q Tryz.f42
def A.k42:=@A.kk 42 9 [.tmp 4] A.b42 (by kernel_rfl) rfl
def A.b48:=A.q Tryz.f48
def A.k48:=@A.kk 48 9 [.tmp 4] A.b48 (by kernel_rfl) rfl
def Yap{i:Nat}{w:List Nat}{a0 a1 a2:Int}(hi:i<N):A.C.call (.func 68 [] []) [.slice i 0 3 (some 3) 1] ⟨h.set i (.cells [.int .i64 a0,.int .i64 a1,.int .i64 a2] 31 true),N,w⟩=some (.int .i64 (Zan [a0,a1,a2]),⟨h.set i (.cells [.int .i64 a0,.int .i64 a1,.int .i64 a2] 31 true),N,w⟩):=
 Zv5 (l:=[a0,a1,a2]) (Sl.row (e:=31) (rw:=true) (cp:=some 3) hi (by simp[dI]) rfl (by simp)) (by simp)
def Ye2{a b:Rat}{j k:Nat}(ha:Qb j a)(hb:Qb k b)(hj:j≤400000000)(hk:k≤400000000)(hl:(Zas b).length<1000000000):Fn A.C 42 [.str (Zas a),.str (Zas b)] h N (fun u _ _=>u=.str (Zas (a-b))):=by
 intro w
 have hn:=fun st=>Ya9 (q:=b) (st:=st) hl
 rw[Zaf,A.k42 (by simp)]
 simp(disch:=first|(simp;done)|omega|rfl) [-getElem?_pos,A.b42,hn]
 refine Zac (Zny (a:=a) (b:= -b) ha hb.neg hj hk) ?_
 rintro _ H1 n1 k1 rfl
 rw[←Rat.sub_eq_add_neg]
 simp(disch:=first|(simp;done)|omega|rfl) [-getElem?_pos,Ret]
 exact k1
def Ye4{a b:Rat}{j k:Nat}(ha:Qb j a)(hb:Qb k b)(hj:j≤400000000)(hk:k≤400000000)(hl:(Zas b).length<1000000000):Fn A.C 48 [.str (Zas a),.str (Zas b)] h N (fun u _ _=>u=.int .i64 (sg3 (a-b).num)):=by
 intro w
 rw[Zaf,A.k48 (by simp)]
 simp(disch:=first|(simp;done)|omega|rfl) [-getElem?_pos,A.b48]
 refine Zac (Ye2 ha hb hj hk hl) ?_
 rintro _ H1 n1 k1 rfl
 have hs:=fun st=>Zlr (q:=a-b) (st:=st)
 simp(disch:=first|(simp;done)|omega|rfl) [-getElem?_pos,hs,Ret]
 exact k1
def Zz0{z:Int}:sg3 z > 0↔0<z:=by
 unfold sg3;split
 ·constructor<;>intro<;>omega
 ·split<;>constructor<;>intro<;>omega
def Ya0{q:Rat}:0<q.num↔0<q:=by rw[Rat.lt_iff (a:=0)];simp
def Yn7:Zas 1=[49]:=by decide+kernel
def Za8(g l p:Str)(d:Int):Int:=if Zan [Zjx g,Zjx l]=0 then (if 1<ratS l then 3 else Zan [Zjx p,if d<0∨6<d then 3 else 0]) else Zan [Zjx g,Zjx l]
def Zhc{a b:Int}(h:Zan [a,b]=0):a=0∧b=0:=by
 unfold Zan at h
 split at h
 ·rename_i ha;unfold Zan at h;split at h
  ·exact⟨ha,by assumption⟩
  ·omega
 ·omega
def Yba{s:Str}(h:Zjx s=0):chkNum s=0∧¬ratS s<0:=by
 unfold Zjx at h
 split at h
 ·rename_i c;split at h
  ·omega
  ·exact⟨c,by assumption⟩
 ·omega
def Ydh{p:Str}{n:Nat}(hg:g.length≤n)(hl:l.length≤n)(hp:p.length≤n)(hn:n≤20000){h:T O}{N:Nat}:Fn A.C 69 [.agg [.str g,.str l,.str p,.int .i64 d]] h N (fun u _ _=>u=.int .i64 (Za8 g l p d)):=by
 intro w
 rw[Zaf,A.k69 (by simp)]
 have kB:=kset (Keeps.refl (h:=h) (n:=N)) (.cells [.str g,.str l,.str p,.int .i64 d] 24 true)
 simp(disch:=first|(simp;done)|omega|rfl) [-getElem?_pos,A.b69]
 have b0:(h.set N (.cells [.str g,.str l,.str p,.int .i64 d] 24 true)).get N=some (.cells [.str g,.str l,.str p,.int .i64 d] 24 true):=by simp
 generalize h.set N (.cells [.str g,.str l,.str p,.int .i64 d] 24 true)=hB at*
 refine Zac (Zvm hg hn) ?_
 rintro _ h1 n1 k1 rfl
 have e1:=k1.le
 have f1:=(k1.get N (by omega)).trans b0
 have g1:N<n1:=by omega
 simp(disch:=first|(simp;done)|omega|rfl) [-getElem?_pos,f1,g1]
 refine Zac (Zvm hl hn) ?_
 rintro _ h2 n2 k2 rfl
 have e2:=k2.le
 have f2:=(k2.get N (by omega)).trans f1
 have g2:N<n2:=by omega
 have hi:n2<n2+1:=by omega
 have kC:=((kB.trans k1).trans k2).trans (kset (Keeps.refl (h:=h2) (n:=n2)) (.cells [.int .i64 (Zjx g),.int .i64 (Zjx l)] 31 true))
 simp(disch:=first|(simp;done)|omega|rfl) [-getElem?_pos,f2,g2,splice,Zal.chk,Zf7 hi]
 by_cases c:Zan [Zjx g,Zjx l]=0
 ·have c0:=Zhc c
  obtain⟨q0,q1⟩:=Yba c0.2
  have hq:=Znl q0 hl
  have e:=(Zcd q0).1
  have f3:(h2.set n2 (.cells [.int .i64 (Zjx g),.int .i64 (Zjx l)] 31 true)).get N=some (.cells [.str g,.str l,.str p,.int .i64 d] 24 true):=by
   rw[T.get_set,Yrt (by omega)];exact f2
  generalize h2.set n2 (.cells [.int .i64 (Zjx g),.int .i64 (Zjx l)] 31 true)=h3 at*
  have e3:=kC.le
  have g3:N<n2+1:=by omega
  simp(disch:=first|(simp;done)|omega|rfl) [-getElem?_pos,c,Zag,f3,g3]
  unfold Za8
  rw[Yrw c]
  generalize ratS l=q at*
  subst e
  refine Zac (Zha hq (by omega)) ?_
  rintro v4 h4 n4 k4 hv4
  simp(disch:=first|(simp;done)|omega|rfl) [-getElem?_pos,]
  refine Zac (Zt9 (z:=1) (by omega) (by omega)) ?_
  rintro v5 h5 n5 k5 hv5
  have wq:=hq.wls
  have w1:=(Qb.int (z:=1) (k:=1) (by decide) (by decide)).wls
  simp(disch:=first|(simp;done)|omega|rfl) [-getElem?_pos,]
  refine Zac (Ykq (hv4.keep k5) hv5 (by omega) (by omega) (by omega) (by omega)) ?_
  rintro _ h6 n6 k6 rfl
  have ec:(sg3 (q.num*(((1:Int):Rat).den:Nat)-((1:Int):Rat).num*(q.den:Nat)) > 0)↔1<q:=by
   have h1:1<q↔((1:Int):Rat).num*(q.den:Nat)<q.num*(((1:Int):Rat).den:Nat):=by
    rw[Rat.lt_iff];rfl
   rw[h1];unfold sg3;split
   ·constructor<;>intro<;>omega
   ·split<;>constructor<;>intro<;>omega
  generalize sg3 (q.num*(((1:Int):Rat).den:Nat)-((1:Int):Rat).num*(q.den:Nat))=cz at*
  have kD:=((kC.trans k4).trans k5).trans k6
  have e4:=k4.le
  have e5:=k5.le
  have e6:=k6.le
  have f6:=(((k4.trans k5).trans k6).get N (by omega)).trans f3
  have g6:N<n6:=by omega
  have hi6:=fun (m:Nat)=>Ys4 m
  by_cases cc:1<q
  ·have cz1:0<cz:=ec.2 cc
   simp(disch:=first|(simp;done)|omega|rfl) [-getElem?_pos,f6,g6,cz1,Zgu]
   refine Zac (Zvm hp hn) ?_
   rintro _ h7 n7 k7 rfl
   have e7:=k7.le
   have f7:=(k7.get N (by omega)).trans f6
   have g7:N<n7:=by omega
   have hi7:n7<n7+1:=by omega
   simp(disch:=first|(simp;done)|omega|rfl) [-getElem?_pos,f7,g7,Zl6,splice,Zal.chk,Yap hi7,Ret,cc,Zan]
   exact(kD.trans k7).trans (kset (Keeps.refl) _)
  ·have cz1:¬0<cz:=fun h=>cc (ec.1 h)
   simp(disch:=first|(simp;done)|omega|rfl) [-getElem?_pos,f6,g6,cz1,Zgu]
   refine Zac (Zvm hp hn) ?_
   rintro _ h7 n7 k7 rfl
   have e7:=k7.le
   have f7:=(k7.get N (by omega)).trans f6
   have g7:N<n7:=by omega
   have hi7:n7<n7+1:=by omega
   simp(disch:=first|(simp;done)|omega|rfl) [-getElem?_pos,f7,g7,Zl6,splice,Zal.chk,Yap hi7,Ret,cc]
   exact⟨(kD.trans k7).trans (kset (Keeps.refl) _),by simp[Zan]⟩
 ·simp(disch:=first|(simp;done)|omega|rfl) [-getElem?_pos,c,Zag,Za8,Ret]
  exact kC
def Yja{p:Str}(hg:g.length<100000)(hl:l.length<100000)(hp:p.length<100000){h:T O}{N:Nat}:Fn A.C 20 [.agg [.str g,.str l,.str p,.int .i64 d]] h N (fun u _ _=>u=.int .i64 (Za8 g l p d)):=by
 intro w
 rw[Zaf,A.k20 (by simp)]
 have kB:=kset (Keeps.refl (h:=h) (n:=N)) (.cells [.str g,.str l,.str p,.int .i64 d] 26 true)
 simp(disch:=first|(simp;done)|omega|rfl) [-getElem?_pos,A.b20]
 have b0:(h.set N (.cells [.str g,.str l,.str p,.int .i64 d] 26 true)).get N=some (.cells [.str g,.str l,.str p,.int .i64 d] 26 true):=by simp
 generalize h.set N (.cells [.str g,.str l,.str p,.int .i64 d] 26 true)=hB at*
 refine Zac (Zs3 (by omega)) ?_
 rintro _ h1 n1 k1 rfl
 have e1:=k1.le
 have f1:=(k1.get N (by omega)).trans b0
 have g1:N<n1:=by omega
 simp(disch:=first|(simp;done)|omega|rfl) [-getElem?_pos,f1,g1]
 refine Zac (Zs3 (by omega)) ?_
 rintro _ h2 n2 k2 rfl
 have e2:=k2.le
 have f2:=(k2.get N (by omega)).trans f1
 have g2:N<n2:=by omega
 have hi:n2<n2+1:=by omega
 have kC:=((kB.trans k1).trans k2).trans (kset (Keeps.refl (h:=h2) (n:=n2)) (.cells [.int .i64 (Zjx g),.int .i64 (Zjx l)] 3 true))
 simp(disch:=first|(simp;done)|omega|rfl) [-getElem?_pos,f2,g2,splice,Zal.chk,Zu7 hi]
 by_cases c:Zan [Zjx g,Zjx l]=0
 ·have c0:=Zhc c
  obtain⟨q0,q1⟩:=Yba c0.2
  have hq:=Znl q0 (Yru _)
  have e:=(Zcd q0).1
  have f3:(h2.set n2 (.cells [.int .i64 (Zjx g),.int .i64 (Zjx l)] 3 true)).get N=some (.cells [.str g,.str l,.str p,.int .i64 d] 26 true):=by
   rw[T.get_set,Yrt (by omega)];exact f2
  generalize h2.set n2 (.cells [.int .i64 (Zjx g),.int .i64 (Zjx l)] 3 true)=h3 at*
  have e3:=kC.le
  have g3:N<n2+1:=by omega
  simp(disch:=first|(simp;done)|omega|rfl) [-getElem?_pos,c,Zag,f3,g3]
  unfold Za8
  rw[Yrw c]
  generalize ratS l=q at*
  subst e
  have hc:=Ye4 (a:=q) (b:=1) (k:=1) (h:=h3) (N:=n2+1) hq (by unfold Qb;decide) (by have:=hl;have:=Zgl hq.1;omega) (by decide) (by rw[Yn7];decide)
  rw[Yn7]at hc
  refine Zac hc ?_
  rintro _ h6 n6 k6 rfl
  have e6:=k6.le
  have f6:=(k6.get N (by omega)).trans f3
  have g6:N<n6:=by omega
  by_cases cc:1<q
  ·have cz1:0<sg3 (q-1).num:=Zz0.2 (Ya0.2 (by have:=cc;rw[Rat.sub_eq_add_neg];rw[Rat.lt_iff_sub_pos]at this;simpa[Rat.sub_eq_add_neg]using this))
   simp(disch:=first|(simp;done)|omega|rfl) [-getElem?_pos,f6,g6,cz1,Ret,cc]
   exact kC.trans k6
  ·have cz1:¬0<sg3 (q-1).num:=fun h=>cc (by have:=Ya0.1 (Zz0.1 h);rw[Rat.lt_iff_sub_pos];exact this)
   simp(disch:=first|(simp;done)|omega|rfl) [-getElem?_pos,f6,g6,cz1]
   refine Zac (Zs3 (by omega)) ?_
   rintro _ h7 n7 k7 rfl
   have e7:=k7.le
   have f7:=(k7.get N (by omega)).trans f6
   have g7:N<n7:=by omega
   have hi7:n7<n7+1:=by omega
   simp(disch:=first|(simp;done)|omega|rfl) [-getElem?_pos,f7,g7,Zw8,splice,Zal.chk,Zu7 hi7,Ret,cc]
   exact(((kC.trans k6)).trans k7).trans (kset (Keeps.refl) _)
 ·simp(disch:=first|(simp;done)|omega|rfl) [-getElem?_pos,c,Zag,Za8,Ret]
  exact kC
def Zu3{p:Str}(hg:g.length<9223372036854775808)(hl:l.length<9223372036854775808)(hp:p.length<9223372036854775808):Fn A.C 18 [.agg [.str g,.str l,.str p,.int .i64 d]] h N (fun u _ _=>u=.bool (decide (g.length≤40∧l.length≤40∧p.length≤40))):=by
 intro w
 rw[Zaf,A.k18 (by simp)]
 by_cases c1:g.length≤40
 ·have d1:(g.length:Int)≤40:=by omega
  by_cases c2:l.length≤40
  ·have d2:(l.length:Int)≤40:=by omega
   by_cases c3:p.length≤40
   ·have d3:(p.length:Int)≤40:=by omega
    simp(disch:=first|(simp;done)|omega|rfl) [-getElem?_pos,A.b18,d1,d2,d3,c1,c2,c3,Ret]
    exact kset (Keeps.refl) _
   ·have d3:¬(p.length:Int)≤40:=by omega
    simp(disch:=first|(simp;done)|omega|rfl) [-getElem?_pos,A.b18,d1,d2,d3,c1,c2,c3,Ret]
    exact kset (Keeps.refl) _
  ·have d2:¬(l.length:Int)≤40:=by omega
   simp(disch:=first|(simp;done)|omega|rfl) [-getElem?_pos,A.b18,d1,d2,c1,c2,Ret]
   exact kset (Keeps.refl) _
 ·have d1:¬(g.length:Int)≤40:=by omega
  simp(disch:=first|(simp;done)|omega|rfl) [-getElem?_pos,A.b18,d1,c1,Ret]
  exact kset (Keeps.refl) _
variable {N R:Nat} {h:T O} {l:List Rat}
def Zsu{cs:List (List V)}{c B:List V}{j:Nat}(h4:∀x∈cs,x.length=4)(hj:j<cs.length)(hc:c.length=4):splice (cs.flatten++B) (j*4) c=(cs.set j c).flatten++B:=by
 obtain⟨x,hx⟩:=Zao hj
 have e:cs=cs.take j++x::cs.drop (j+1):=by
  have:=Ytj j cs
  rw[Zaz hx]at this
  exact this.symm
 have hl:(cs.take j).flatten.length=j*4:=by
  rw[Zbd (z:=4) (fun y hy=>h4 y (Ytx hy)),Ysi,Ysz (by omega)]
 have hs:cs.set j c=cs.take j++c::cs.drop (j+1):=by rw[List.set_eq_take_append_cons_drop,Yrw hj]
 rw[hs]
 conv=>lhs;rw[e]
 simp only[List.flatten_append,List.flatten_cons,Ysy]
 rw[Zhs hl (h4 x (Yr1 hx)) hc]
structure RwQ (h:T O) (N R:Nat) (l:List Rat) (m:Nat):Prop where
 lt:R<N
 ex:∃cs:List (List V),h.get R=some (.cells (cs.flatten++Zc8 zF m) 110 true)∧cs.length=l.length∧∀(j:Nat) (q:Rat),l[j]?=some q→∃c,cs[j]?=some c∧FcC h N c q
def RwQ.keep{h':T O}{N' m:Nat}(s:RwQ h N R l m)(k:Keeps h N h' N'):RwQ h' N' R l m:=by
 obtain⟨cs,g1,g2,g3⟩:=s.ex
 refine⟨Yr5 s.lt k.le,cs,(k.get R s.lt).trans g1,g2,fun j q hq=>?_⟩
 obtain⟨c,a,b⟩:=g3 j q hq
 exact⟨c,a,b.keep k⟩
def RwQ.fcs{cs:List (List V)}(g2:cs.length=l.length)(g3:∀(j:Nat) (q:Rat),l[j]?=some q→∃c,cs[j]?=some c∧FcC h N c q):(∀c∈cs,c.length=4)∧NoU cs.flatten∧cs.flatten.all V.one=true:=Zuc (l:=l) (by omega) fun j q _ hq=>g3 j q hq
def RwQ.next{m:Nat}{c:List V}{q:Rat}(s:RwQ h N R l (m+1))(hc:FcC h N c q):∃X,h.get R=some (.cells X 110 true)∧l.length*4+4≤X.length∧RwQ (h.set R (.cells (splice X (l.length*4) c) 110 true)) N R (l++[q]) m:=by
 obtain⟨cs,g1,g2,g3⟩:=s.ex
 obtain⟨f1,f2,_⟩:=RwQ.fcs g2 g3
 have hfl:=Zbd f1
 obtain⟨e1,_⟩:=hc.len
 have hsp:splice (cs.flatten++Zc8 zF (m+1)) (l.length*4) c=(cs++[c]).flatten++Zc8 zF m:=by
  rw[Zho,Zhs (n:=4) (by rw[hfl,g2]) rfl e1,Zl0,Ysy]
 have hnu:NoU (cs.flatten++Zc8 zF (m+1)):=f2.app Zi6
 have hln:((cs++[c]).flatten++Zc8 zF m).length=(cs.flatten++Zc8 zF (m+1)).length:=by
  rw[Zho,Zl0];simp[e1,zF];omega
 refine⟨_,g1,by rw[Yr8,hfl,g2,Yha];omega,s.lt,cs++[c],by rw[T.get_set,Yrw rfl,hsp],by simp[g2],fun j r hr=>?_⟩
 rw[hsp]
 by_cases e:j<l.length
 ·rw[Ysc e]at hr
  obtain⟨x,a,b⟩:=g3 j r hr
  exact⟨x,by rw[Ysc (by omega)];exact a,b.setNU g1 hnu hln⟩
 ·have hj:j=l.length:=by have:=Zb4 hr;simp at this;omega
  subst hj
  rw[Ysn (Yru _)]at hr
  simp at hr
  subst hr
  exact⟨c,by rw[Ysn (by omega),g2];simp,hc.setNU g1 hnu hln⟩
def RwQ.put{j:Nat}{c:List V}{q:Rat}(s:RwQ h N R l 0)(hc:FcC h N c q)(hj:j<l.length):∃X,h.get R=some (.cells X 110 true)∧j*4+4≤X.length∧RwQ (h.set R (.cells (splice X (j*4) c) 110 true)) N R (l.set j q) 0:=by
 obtain⟨cs,g1,g2,g3⟩:=s.ex
 obtain⟨f1,f2,_⟩:=RwQ.fcs g2 g3
 have hfl:=Zbd f1
 obtain⟨e1,_⟩:=hc.len
 have hsp:splice (cs.flatten++Zc8 zF 0) (j*4) c=(cs.set j c).flatten++Zc8 zF 0:=Zsu f1 (by omega) e1
 have hnu:NoU (cs.flatten++Zc8 zF 0):=f2.app Zi6
 have hln:((cs.set j c).flatten++Zc8 zF 0).length=(cs.flatten++Zc8 zF 0).length:=by
  rw[Yr8,Yr8,hfl,Zbd (z:=4) fun x hx=>?_,Yu8]
  rcases Ytn hx with hx|rfl
  ·exact f1 x hx
  ·exact e1
 refine⟨_,g1,by rw[Yr8,hfl];omega,s.lt,cs.set j c,by rw[T.get_set,Yrw rfl,hsp],by simp[g2],fun i r hr=>?_⟩
 rw[hsp]
 by_cases e:i=j
 ·subst e
  rw[Ysf hj]at hr
  simp only[Yrs]at hr
  subst hr
  exact⟨c,by rw[Ysf (by omega)],hc.setNU g1 hnu hln⟩
 ·rw[Yry (Ne.symm e)]at hr ⊢
  obtain⟨x,a,b⟩:=g3 i r hr
  exact⟨x,a,b.setNU g1 hnu hln⟩
def RwQ.frt(s:RwQ h N R l 0):FrT h N (.slice R 0 l.length (some l.length) 4) l:=by
 obtain⟨cs,g1,g2,g3⟩:=s.ex
 obtain⟨f1,f2,_⟩:=RwQ.fcs g2 g3
 have hz:Zc8 zF 0=[]:=by simp[Zc8]
 rw[hz,Ytz]at g1
 refine⟨⟨cs,.inr ⟨R,0,some l.length,cs.flatten,_,true,by rw[g2],s.lt,g1,fun j x hj=>by rw[Yt5];exact Zd1 f1 hj,by rw[Zbd f1];omega,fun k hk=>by simp at hk;omega⟩,g2,g3⟩,fun i hi=>?_⟩
 simp[Zel]at hi
 subst hi
 exact⟨_,_,g1⟩
variable {N:Nat} {h:T O}
def A.w94:=A.q Tryz.f94
def A.lb94_0:=A.ql A.w94 0 []
def A.b94:=(fun x0=>A.qb A.w94 [x0]) A.lb94_0
def A.k94:=@A.kk 94 54 [.tmp 4] A.b94 (by kernel_rfl) rfl
def A.b76:=A.q Tryz.f76
def A.k76:=@A.kk 76 8 [.tmp 2] A.b76 (by kernel_rfl) rfl
def Za5(g l p:Rat)(d:Nat):List Rat:=
 (((((List.range (d+3)).map fun _=>(0:Rat)).set (d+2) 1).set (d+1) (-l)).set 1 ((if d=0 then -l else 0)+g+p)).set 0 (-p)
def RwQ.nou{R m:Nat}{l:List Rat}(s:RwQ h N R l m){X:List V}{e:TypeId}{w:Bool}(g:h.get R=some (.cells X e w)):NoU X:=by
 obtain⟨cs,g1,g2,g3⟩:=s.ex
 obtain⟨f1,f2,_⟩:=RwQ.fcs g2 g3
 rw[g1]at g
 simp only[Yrs,O.cells.injEq]at g
 rw[←g.1];exact f2.app Zi6
def RwQ.at{R j:Nat}{l:List Rat}{q:Rat}(s:RwQ h N R l 0)(hj:l[j]?=some q){X:List V}{e:TypeId}{w:Bool}(g:h.get R=some (.cells X e w)):∃c,slc X (j*4) 4=some c∧FcC h N c q:=by
 obtain⟨cs,g1,g2,g3⟩:=s.ex
 obtain⟨f1,f2,_⟩:=RwQ.fcs g2 g3
 rw[g1]at g
 simp only[Yrs,O.cells.injEq]at g
 obtain⟨c,a,b⟩:=g3 j q hj
 have hz:Zc8 zF 0=[]:=by simp[Zc8]
 rw[←g.1,hz,Ytz]
 exact⟨c,Zd1 f1 a,b⟩
def FcC.up{c:List V}{q:Rat}(s:FcC h N c q):Fc h N (.agg c) q:=by
 obtain⟨a,b,c,d,rfl,e,f⟩:=s
 exact⟨a,b,c,d,rfl,e,f⟩
def Ydf{d k:Nat}{x:V}{g l p:Rat}{gs:Str}(hg:Fc h N x g)(bg:Qb k g)(bl:Qb k l)(bp:Qb k p)(hk:k≤50000)(hd:d≤6):Fn A.C 94 [.agg [.str gs,.str (Zas l),.str (Zas p),.int .i64 d],x] h N (fun v h' n'=>FrT h' n' v (Za5 g l p d)):=by
 intro w
 obtain⟨na,ua,nb,ub,rfl,sa,sb⟩:=hg
 have oa:=Za2 sa
 have ob:=Za2 sb
 unfold V.one at oa ob
 have fg:FcC h N [.int .i64 na,ua,.int .i64 nb,ub] g:=⟨na,ua,nb,ub,rfl,sa,sb⟩
 have c1:(64:Int)*((d:Int)+2+1)≤140737488355328:=by omega
 have c2:(d:Int)+2+1<4611686018427387904:=by omega
 have c3:(0:Int)≤(d:Int)+2+1:=by omega
 have ct:((d:Int)+2+1).toNat=d+3:=by omega
 rw[Zaf,A.k94 (by simp)]
 simp(disch:=first|(simp;done)|omega|rfl) [-getElem?_pos,A.b94,oa,ob,c1,c2,c3,ct]
 have kB:Keeps h N (((h.set N (.cells [.str gs,.str (Zas l),.str (Zas p),.int .i64 d] 24 true)).set (N+1) (.cells [.int .i64 na,ua,.int .i64 nb,ub] 110 true)).set (N+1+1) (.cells (Zc8 [V.int .i64 0,V.nilslice,V.int .i64 0,V.nilslice] (d+3)) 110 true)) (N+3):=((Keeps.refl.new _).new _).new _
 have b0:(((h.set N (.cells [.str gs,.str (Zas l),.str (Zas p),.int .i64 d] 24 true)).set (N+1) (.cells [.int .i64 na,ua,.int .i64 nb,ub] 110 true)).set (N+1+1) (.cells (Zc8 [V.int .i64 0,V.nilslice,V.int .i64 0,V.nilslice] (d+3)) 110 true)).get N=some (.cells [.str gs,.str (Zas l),.str (Zas p),.int .i64 d] 24 true):=by simp
 have b1:(((h.set N (.cells [.str gs,.str (Zas l),.str (Zas p),.int .i64 d] 24 true)).set (N+1) (.cells [.int .i64 na,ua,.int .i64 nb,ub] 110 true)).set (N+1+1) (.cells (Zc8 [V.int .i64 0,V.nilslice,V.int .i64 0,V.nilslice] (d+3)) 110 true)).get (N+1)=some (.cells [.int .i64 na,ua,.int .i64 nb,ub] 110 true):=by simp
 have b2:(((h.set N (.cells [.str gs,.str (Zas l),.str (Zas p),.int .i64 d] 24 true)).set (N+1) (.cells [.int .i64 na,ua,.int .i64 nb,ub] 110 true)).set (N+1+1) (.cells (Zc8 [V.int .i64 0,V.nilslice,V.int .i64 0,V.nilslice] (d+3)) 110 true)).get (N+2)=some (.cells (Zc8 zF (d+3)) 110 true):=by simp[zF]
 generalize (((h.set N (.cells [.str gs,.str (Zas l),.str (Zas p),.int .i64 d] 24 true)).set (N+1) (.cells [.int .i64 na,ua,.int .i64 nb,ub] 110 true)).set (N+1+1) (.cells (Zc8 [V.int .i64 0,V.nilslice,V.int .i64 0,V.nilslice] (d+3)) 110 true))=hB at*
 refine Zak [(7,7),(17,24)] (fun e r st=>e=.exit 0∧Zae N st.w=[]∧Keeps h N st.h st.n∧N+3≤st.n∧st.h.get N=hB.get N∧st.h.get (N+1)=hB.get (N+1)∧RwQ st.h st.n (N+2) ((List.range (d+3)).map fun _=>0) 0) (fun i r st=>Zae N st.w=[]∧Keeps h N st.h st.n∧N+3≤st.n∧st.h.get N=hB.get N∧st.h.get (N+1)=hB.get (N+1)∧∃t,t+i=d+3∧r.get 17=some (.int .i64 t)∧RwQ st.h st.n (N+2) ((List.range t).map fun _=>0) i) (d+3) ?_ ?_ ?_
 ·exact⟨by simp,kB,Yru (N+3),rfl,rfl,0,by omega,by simp,by show N+2<N+3;omega,[],by rw[b2];simp,rfl,fun j q hq=>by simp at hq⟩
 ·rintro i r ⟨H,n1,W⟩ hr hf ⟨hW,hK,hn,m0,m1,t,ht,h9,hQ⟩
  simp only at hW hK hQ hn m0 m1
  rw[Zai]
  cases i with
  |zero=>
   obtain rfl:t=d+3:=by omega
   simp(disch:=first|(simp;done)|omega|rfl) [-getElem?_pos,A.lb94_0,hr,hf,h9,hW,hK,hn,m0,m1]
   exact hQ
  |succ i=>
   have hlt:t<d+3:=by omega
   have hlt':(t:Int)<(d:Int)+3:=by omega
   simp(disch:=first|(simp;done)|omega|rfl) [-getElem?_pos,A.lb94_0,hr,hf,h9,hlt,hlt']
   refine Zac (Zt9 (z:=0) (by decide) (by decide)) ?_
   rintro _ H2 n2 k2 hz
   obtain⟨c,rfl,hc⟩:=hz.c
   obtain⟨e1,e2⟩:=hc.len
   have le2:=k2.le
   have hcc:(V.agg c).cells=c:=rfl
   obtain⟨X,x1,x2,x3⟩:=(hQ.keep k2).next hc
   have lN:N+2<n2:=Yr5 hQ.lt le2
   have hl:((List.range t).map fun _=>(0:Rat)).length=t:=by simp
   rw[hl]at x2 x3
   have m0':=(k2.get N (by omega)).trans m0
   have m1':=(k2.get (N+1) (by omega)).trans m1
   simp(disch:=first|(simp;done)|omega|rfl) [-getElem?_pos, -V.cells, -V.one,hr,hf,h9,hlt,hlt',Zam,hcc,e1,e2,x1,x2,lN]
   exact⟨i,by omega,by simpa[Zae]using hW,(hK.trans k2).set (by omega),by omega,m0',m1',t+1,by omega,by simp,by rw[List.range_succ,List.map_append];exact x3⟩
 ·rintro _ r ⟨H,n1,W⟩ hr ⟨rfl,hW,hK,hn,m0,m1,hQ⟩
  simp only at hW hK hQ hn m0 m1
  rw[b0]at m0
  rw[b1]at m1
  have g0:N<n1:=by omega
  simp(disch:=first|(simp;done)|omega|rfl) [-getElem?_pos,hr,m0,g0]
  refine Zac (Zha bp (by omega)) ?_
  rintro vp h2 n2 k2 hp
  obtain⟨pa,pu,pb,pv,rfl,ta,tb⟩:=hp
  have oc:=Za2 ta
  have od:=Za2 tb
  unfold V.one at oc od
  have le2:=k2.le
  have k3:Keeps h2 n2 ((h2.set n2 (.cells [.int .i64 0,.nilslice,.int .i64 0,.nilslice] 110 true)).set n2 (.cells [.int .i64 pa,pu,.int .i64 pb,pv] 110 true)) (n2+1):=(Keeps.refl.new _).set (Yru _)
  have b8:((h2.set n2 (.cells [.int .i64 0,.nilslice,.int .i64 0,.nilslice] 110 true)).set n2 (.cells [.int .i64 pa,pu,.int .i64 pb,pv] 110 true)).get n2=some (.cells [.int .i64 pa,pu,.int .i64 pb,pv] 110 true):=by simp
  have fp:FcC h2 n2 [.int .i64 pa,pu,.int .i64 pb,pv] p:=⟨pa,pu,pb,pv,rfl,ta,tb⟩
  simp(disch:=first|(simp;done)|omega|rfl) [-getElem?_pos,hr,oc,od,Zam,splice]
  generalize (h2.set n2 (.cells [.int .i64 0,.nilslice,.int .i64 0,.nilslice] 110 true)).set n2 (.cells [.int .i64 pa,pu,.int .i64 pb,pv] 110 true)=H3 at*
  refine Zac (Zt9 (z:=1) (by decide) (by decide)) ?_
  rintro _ h4 n4 k4 h1
  replace h1:Fc h4 n4 _ 1:=h1
  obtain⟨c4,rfl,hc4⟩:=h1.c
  obtain⟨e41,e42⟩:=hc4.len
  have hcc4:(V.agg c4).cells=c4:=rfl
  have lL:((List.range (d+3)).map fun _=>(0:Rat)).length=d+3:=by simp
  obtain⟨X,x1,x2,x3⟩:=(((hQ.keep k2).keep k3).keep k4).put hc4 (j:=d+2) (by rw[lL];omega)
  have d1:(d:Int)+2<(d:Int)+3:=by omega
  have d2:((d:Int)+2).toNat=d+2:=by omega
  have d3:(0:Int)≤(d:Int)+2:=by omega
  have le3:=k3.le
  have le4:=k4.le
  have lR:N+2<n4:=by omega
  have lN4:N<n4:=by omega
  have K4:=(k2.trans k3).trans k4
  have m4:=(K4.get N (by omega)).trans m0
  have m4':=(K4.get (N+1) (by omega)).trans m1
  have p4:=(k4.get n2 (by omega)).trans b8
  simp(disch:=first|(simp;done)|omega|rfl) [-getElem?_pos, -V.cells, -V.one,hr,Zam,hcc4,e41,e42,x1,x2,lR,d1,d2,d3,m4,lN4]
  have nu4:=RwQ.nou (((hQ.keep k2).keep k3).keep k4) x1
  have sl4:(splice X ((d+2)*4) c4).length=X.length:=Zb9 (by omega)
  have fg5:=((fg.keep hK).keep K4).setNU (c1:=splice X ((d+2)*4) c4) (e1:=110) (w1:=true) x1 nu4 sl4
  have fp5:=((fp.keep k3).keep k4).setNU (c1:=splice X ((d+2)*4) c4) (e1:=110) (w1:=true) x1 nu4 sl4
  have M5:(h4.set (N+2) (.cells (splice X ((d+2)*4) c4) 110 true)).get N=some (.cells [.str gs,.str (Zas l),.str (Zas p),.int .i64 d] 24 true):=by rw[T.get_set,Yrt (by omega)];exact m4
  have M5':(h4.set (N+2) (.cells (splice X ((d+2)*4) c4) 110 true)).get (N+1)=some (.cells [.int .i64 na,ua,.int .i64 nb,ub] 110 true):=by rw[T.get_set,Yrt (by omega)];exact m4'
  have P5:(h4.set (N+2) (.cells (splice X ((d+2)*4) c4) 110 true)).get n2=some (.cells [.int .i64 pa,pu,.int .i64 pb,pv] 110 true):=by rw[T.get_set,Yrt (by omega)];exact p4
  have K5:Keeps h N (h4.set (N+2) (.cells (splice X ((d+2)*4) c4) 110 true)) n4:=(hK.trans K4).set (by omega)
  generalize h4.set (N+2) (.cells (splice X ((d+2)*4) c4) 110 true)=H5 at*
  refine Zac (Zha bl (by omega)) ?_
  rintro v6 h6 n6 k6 hl6
  have wbl:=bl.wls
  simp(disch:=first|(simp;done)|omega|rfl) [-getElem?_pos,]
  refine Zac (Zt7 hl6 (by omega)) ?_
  rintro _ h7 n7 k7 hm7
  obtain⟨c7,rfl,hc7⟩:=hm7.c
  obtain⟨e71,e72⟩:=hc7.len
  have hcc7:(V.agg c7).cells=c7:=rfl
  have K7:=k6.trans k7
  have lL5:(((List.range (d+3)).map fun _=>(0:Rat)).set (d+2) 1).length=d+3:=by simp
  obtain⟨Y,y1,y2,y3⟩:=(x3.keep K7).put hc7 (j:=d+1) (by rw[lL5];omega)
  have d4:(d:Int)+2-1<(d:Int)+3:=by omega
  have d5:((d:Int)+2-1).toNat=d+1:=by omega
  have d6:(0:Int)≤(d:Int)+2-1:=by omega
  have le7:=K7.le
  have lR7:N+2<n7:=by omega
  have lN7:N<n7:=by omega
  simp(disch:=first|(simp;done)|omega|rfl) [-getElem?_pos, -V.cells, -V.one,hr,Zam,hcc7,e71,e72,y1,y2,lR7,d4,d5,d6]
  have nu7:=RwQ.nou (x3.keep K7) y1
  have sl7:(splice Y ((d+1)*4) c7).length=Y.length:=Zb9 (by omega)
  have fg8:=(fg5.keep K7).setNU (c1:=splice Y ((d+1)*4) c7) (e1:=110) (w1:=true) y1 nu7 sl7
  have fp8:=(fp5.keep K7).setNU (c1:=splice Y ((d+1)*4) c7) (e1:=110) (w1:=true) y1 nu7 sl7
  have M8':(h7.set (N+2) (.cells (splice Y ((d+1)*4) c7) 110 true)).get (N+1)=some (.cells [.int .i64 na,ua,.int .i64 nb,ub] 110 true):=by rw[T.get_set,Yrt (by omega)];exact(K7.get (N+1) (by omega)).trans M5'
  have P8:(h7.set (N+2) (.cells (splice Y ((d+1)*4) c7) 110 true)).get n2=some (.cells [.int .i64 pa,pu,.int .i64 pb,pv] 110 true):=by rw[T.get_set,Yrt (by omega)];exact(K7.get n2 (by omega)).trans P5
  have Y8:(h7.set (N+2) (.cells (splice Y ((d+1)*4) c7) 110 true)).get (N+2)=some (.cells (splice Y ((d+1)*4) c7) 110 true):=by rw[T.get_set,Yrw rfl]
  have K8:Keeps h N (h7.set (N+2) (.cells (splice Y ((d+1)*4) c7) 110 true)) n7:=(K5.trans K7).set (by omega)
  generalize h7.set (N+2) (.cells (splice Y ((d+1)*4) c7) 110 true)=H8 at*
  generalize splice Y ((d+1)*4) c7=Z at*
  have g1q:((((List.range (d+3)).map fun _=>(0:Rat)).set (d+2) 1).set (d+1) (-l))[1]?=some (if d=0 then -l else 0):=by
   by_cases hd0:d=0
   ·subst hd0;simp
   ·rw[Yry (by omega),Yry (by omega)];simp[hd0]
  obtain⟨c1v,s1,fc1⟩:=y3.at g1q Y8
  obtain⟨z1,z2⟩:=fc1.len
  have le8:=K8.le
  have lR8:N+2<n7:=by omega
  have lG8:N+1<n7:=by omega
  have lP8:n2<n7:=by omega
  have q1:(0:Int)≤(d:Int)+3:=by omega
  have q2:(1:Int)<(d:Int)+3:=by omega
  rw[show 1*4=4 from rfl]at s1
  have sg:slc [V.int .i64 na,ua,.int .i64 nb,ub] 0 4=some [.int .i64 na,ua,.int .i64 nb,ub]:=rfl
  have sp:slc [V.int .i64 pa,pu,.int .i64 pb,pv] 0 4=some [.int .i64 pa,pu,.int .i64 pb,pv]:=rfl
  simp(disch:=first|(simp;done)|omega|rfl) [-getElem?_pos, -V.cells, -V.one,hr,Zaj,Y8,M8',P8,lR8,lG8,lP8,q2,s1,sg,sp]
  have hk1:1≤k:=by
   have h1:=bg.2
   have h2:=g.den_pos
   rcases k with _|k
   ·simp at h1;omega
   ·omega
  have bz:Qb k (if d=0 then -l else 0):=by
   split
   ·exact bl.neg
   ·exact(Qb.int (z:=0) (k:=1) (by decide) (by decide)).mono hk1
  have wz:=bz.wls
  have wg:=bg.wls
  have wp:=bp.wls
  have ws:=(bz.add bg).wls
  refine Zac (Znc fc1.up fg8.up (by omega) (by omega) (by omega) (by omega)) ?_
  rintro v11 h11 n11 k11 ha
  have le11:=k11.le
  have P11:=(k11.get n2 (by omega)).trans P8
  have lP11:n2<n11:=by omega
  simp(disch:=first|(simp;done)|omega|rfl) [-getElem?_pos, -V.cells, -V.one,hr,Zaj,P11,lP11,sp]
  refine Zac (Znc ha (fp8.keep k11).up (by omega) (by omega) (by omega) (by omega)) ?_
  rintro _ h12 n12 k12 hb
  obtain⟨c12,rfl,hc12⟩:=hb.c
  obtain⟨e121,e122⟩:=hc12.len
  have hcc12:(V.agg c12).cells=c12:=rfl
  have K12:=k11.trans k12
  have le12:=K12.le
  obtain⟨U,u1,u2,u3⟩:=(y3.keep K12).put hc12 (j:=1) (by simp)
  have lR12:N+2<n12:=by omega
  rw[show 1*4=4 from rfl]at u2 u3
  have hne:¬n2=N+1+1:=by omega
  have P12:=(K12.get n2 (by omega)).trans P8
  have lP13:n2<n12:=by omega
  simp(disch:=first|(simp;done)|omega|rfl) [-getElem?_pos, -V.cells, -V.one,hr,Zaj,Zam,hcc12,e121,e122,u1,u2,lR12,q2,Zal.chk,P12,lP13,hne,sp]
  have nu12:=RwQ.nou (y3.keep K12) u1
  have sl12:(splice U 4 c12).length=U.length:=Zb9 (by omega)
  have fp13:=(fp8.keep K12).setNU (c1:=splice U 4 c12) (e1:=110) (w1:=true) u1 nu12 sl12
  have P13:(h12.set (N+2) (.cells (splice U 4 c12) 110 true)).get n2=some (.cells [.int .i64 pa,pu,.int .i64 pb,pv] 110 true):=by rw[T.get_set,Yrt (by omega)];exact(K12.get n2 (by omega)).trans P8
  have K13:Keeps h N (h12.set (N+2) (.cells (splice U 4 c12) 110 true)) n12:=(K8.trans K12).set (by omega)
  generalize h12.set (N+2) (.cells (splice U 4 c12) 110 true)=H13 at*
  refine Zac (Zt7 fp13.up (by omega)) ?_
  rintro _ h14 n14 k14 hm14
  obtain⟨c14,rfl,hc14⟩:=hm14.c
  obtain⟨e141,e142⟩:=hc14.len
  have hcc14:(V.agg c14).cells=c14:=rfl
  have le14:=k14.le
  obtain⟨S,t1,t2,t3⟩:=(u3.keep k14).put hc14 (j:=0) (by simp)
  rw[show 0*4=0 from rfl]at t2 t3
  have lR14:N+2<n14:=by omega
  have q3:(0:Int)<(d:Int)+3:=by omega
  simp(disch:=first|(simp;done)|omega|rfl) [-getElem?_pos, -V.cells, -V.one,hr,Zaj,Zam,hcc14,e141,e142,t1,t2,lR14,q3,Ret]
  have ec:(Za5 g l p d).length=d+3:=by simp[Za5]
  have fin:FrT (h14.set (N+2) (.cells (splice S 0 c14) 110 true)) n14 (.slice (N+2) 0 (Za5 g l p d).length (some (Za5 g l p d).length) 4) (Za5 g l p d):=t3.frt
  rw[ec]at fin
  exact⟨by rw[Yrt (by omega)];exact hW,(K13.trans k14).set (by omega),fin⟩
def Ymh{d k:Nat}{g l p:Rat}(bg:Qb k g)(bl:Qb k l)(bp:Qb k p)(hk:k≤50000)(hd:d≤6):Fn A.C 76 [.agg [.str (Zas g),.str (Zas l),.str (Zas p),.int .i64 d]] h N (fun v h' n'=>FrT h' n' v (Za5 g l p d)):=by
 intro w
 rw[Zaf,A.k76 (by simp)]
 have kB:=kset (Keeps.refl (h:=h) (n:=N)) (.cells [.str (Zas g),.str (Zas l),.str (Zas p),.int .i64 d] 24 true)
 simp(disch:=first|(simp;done)|omega|rfl) [-getElem?_pos,A.b76,Zaj,slc]
 generalize h.set N (.cells [.str (Zas g),.str (Zas l),.str (Zas p),.int .i64 d] 24 true)=hB at*
 refine Zac (Zha bg (by omega)) ?_
 rintro v1 h1 n1 k1 h1g
 simp(disch:=first|(simp;done)|omega|rfl) [-getElem?_pos,]
 refine Zac (Ydf h1g bg bl bp hk hd) ?_
 rintro v2 h2 n2 k2 h2g
 simp(disch:=first|(simp;done)|omega|rfl) [-getElem?_pos,Zal.chk,Ret]
 exact⟨(kB.trans k1).trans k2,h2g⟩
variable {N:Nat} {h h':T O} {v:V}
abbrev NW(y:V):Prop:=∀m,y≠.int .u64 m
def In.moved{n n':Nat}{x:V}{z:Int}{e:TypeId}(s:In h n x z)(k:Upd (fun i=>i∈Zel v) h n h' n')(hd:Ynt e NW h v):In h' n' x z:=by
 rcases s with s|⟨i,o,l,c,s1,s2,s3⟩
 ·exact .inl s
 ·refine .inr ⟨i,o,l,c,s1,Sl.moved s2 k fun j hj hjv=>?_,s3⟩
  simp[Zel]at hj
  subst hj
  obtain⟨z2,g1,_,g3⟩:=hd j hjv
  unfold Wn at s2
  have hne:wds z.natAbs≠[]:=fun h0=>by
   have:=Zbq z.natAbs
   rw[h0]at this
   simp[val]at this
   omega
  obtain⟨d,ds,hds⟩:=List.exists_cons_of_ne_nil hne
  have hat:(dg (wds z.natAbs))[0]?=some (.int .u64 d):=by rw[hds];simp[dg]
  obtain⟨i2,o2,c2,e2,rw2,q1,q2,q3,q4⟩:=Sl.at s2 hat
  simp[Zn8]at q1
  obtain⟨rfl,rfl⟩:=q1
  rw[g1]at q3
  simp only[Yrs,O.cells.injEq]at q3
  obtain⟨rfl,_⟩:=q3
  exact g3 _ (Yr1 q4) _ rfl
def FcC.moved{n n':Nat}{c:List V}{q:Rat}{e:TypeId}(s:FcC h n c q)(k:Upd (fun i=>i∈Zel v) h n h' n')(hd:Ynt e NW h v):FcC h' n' c q:=by
 obtain⟨n1,u1,n2,u2,rfl,s1,s2⟩:=s
 exact⟨n1,u1,n2,u2,rfl,s1.moved k hd,s2.moved k hd⟩
def Sn.row_lt{z:Nat}{l:List (List V)}(s:Sn z h N v l):∀i∈Zel v,i<N:=fun i hi=>by
 rcases s with⟨_,rfl|rfl⟩|⟨j,o,cp,c,e,rw,rfl,hj,_⟩
 ·simp[Zel]at hi
 ·simp[Zel]at hi
 ·simp[Zel]at hi;omega
def Sn.moved{z:Nat}{D:Nat→Prop}{N':Nat}{l:List (List V)}(s:Sn z h N v l)(k:Upd D h N h' N')(hd:∀i∈Zel v,¬D i):Sn z h' N' v l:=by
 rcases s with s|⟨i,o,cp,c,e,rw,rfl,h2,h3,h4⟩
 ·exact .inl s
 ·exact .inr ⟨i,o,cp,c,e,rw,rfl,Yr5 h2 k.le,(k.get i h2 (hd i (by simp[Zel]))).trans h3,h4⟩
def FrT.keep{N':Nat}{u:V}{l:List Rat}(s:FrT h N u l)(k:Keeps h N h' N'):FrT h' N' u l:=⟨s.1.keep k,fun i hi=>by
 obtain⟨cs,h1,_⟩:=s.1
 rw[k.get i (h1.row_lt i hi)]
 exact s.2 i hi⟩
def Zvg{N0:Nat}{out:List (List V)}{l:List Rat}(s:Own 4 110 N0 h N v out)(hl:out.length=l.length)(hc:∀(j:Nat),j<l.length→∃c,out[j]?=some c∧∀q,l[j]?=some q→FcC h N c q):FrT h N v l:=by
 refine⟨⟨out,s.sn,hl,fun j q hq=>?_⟩,fun i hi=>?_⟩
 ·obtain⟨c,g1,g2⟩:=hc j (Zb4 hq)
  exact⟨c,g1,g2 q hq⟩
 ·obtain⟨_,⟨_,rfl⟩|⟨j,rfl,_,_,hg⟩⟩:=s
  ·simp[Zel]at hi
  ·simp[Zel]at hi;subst hi;exact⟨_,_,hg⟩
set_option maxHeartbeats 4000000
def pg(p:List Rat)(i:Nat):Rat:=(p[i]?).getD 0
def Zbk{p:List Rat}{i:Nat}(h:i<p.length):p[i]?=some (pg p i):=by
 unfold pg;rw[Yrx h];rfl
end
end Go.Mx
