/-loop-/
import Derived.Test.YtgnadghjglamaaaGreatDoorLrC
set_option linter.all false
set_option maxHeartbeats 2000000
namespace Go.Mx
noncomputable section
open Go Go.Proofs
set_option maxRecDepth 1000000
def A.b11:=A.q Tryz.f11
def A.k11:=@A.kk 11 50 [.tmp 4,.tmp 5,.tmp 6] A.b11 (by kernel_rfl) rfl
def Yrk(h:T O)(n:Nat)(x:V)(E:Int)(es us:List Rat):Prop:=(E≠0∧x=.tup [.nilslice,.nilslice,.int .i64 E])∨(E=0∧(((Ze5 es=true∨Ze5 us=true)∧x=.tup [.nilslice,.nilslice,.int .i64 4])∨(Ze5 es=false∧Ze5 us=false∧∃a b,x=.tup [a,b,.int .i64 0]∧TxT h n a es∧TxT h n b us)))
def Zpk{g l p:Rat}{D kc kd:Nat}{d:List Rat}(hg:Qb kc g)(hl:Qb kc l)(hp:Qb kc p)(hd:∀q∈d,Qb kd q):∀{k:Nat},k≤d.length→∀q∈(Zdt g l p D d k).2.1,Qb ((3*kc+3)*d.length+kd*(d.length+1)+2) q
 |0,_,q,hq=>by simp[Zdt]at hq
 |k+1,hk,q,hq=>by
  have:(Zdt g l p D d (k+1)).2.1=(Zdt g l p D d k).2.1++[(Zdt g l p D d k).2.2]:=rfl
  rw[this]at hq
  rcases Ysq.1 hq with hq|hq
  ·exact Zpk hg hl hp hd (by omega) q hq
  ·simp at hq
   rw[hq]
   exact(Zk8 (D:=D) hg hl hp hd (k:=k) (by omega)).1
structure RnH (g l p:Str) (D:Int) (d:List Str):Prop where
 lg:g.length≤40
 ll:l.length≤40
 lp:p.length≤40
 ld:d.length<100000
 fd:∀s∈d,s.length≤64
 q:Za8 g l p D=0→Qb 40 (ratS g)∧Qb 40 (ratS l)∧Qb 40 (ratS p)
 s:Zgs d=0→d.length≤12
def RnH.go{g l p:Str}{D:Int}{d:List Str}(H:RnH g l p D d)(c:Zan [Za8 g l p D,Zgs d]=0):∃(qg ql qp:Rat) (n:Nat) (r:List Rat),g=Zas qg∧l=Zas ql∧p=Zas qp∧D=(n:Int)∧n≤6∧ratS g=qg∧ratS l=ql∧ratS p=qp∧Qb 40 qg∧Qb 40 ql∧Qb 40 qp∧Zs8 d=r∧strs d=tx r∧r.length≤12∧(∀y∈r,Qb 260 y):=by
 obtain⟨c1,c2⟩:=Zhc c
 obtain⟨cg,cl,cp,n,rfl,dl,_⟩:=Ypj c1
 obtain⟨q1,q2,q3⟩:=H.q c1
 have l12:=H.s c2
 have ca:Ydi d=0:=by
  unfold Zgs at c2
  rw[Yrt (by omega)]at c2
  exact c2
 exact⟨ratS g,ratS l,ratS p,n,Zs8 d,(Zcd cg).1.symm,(Zcd cl).1.symm,(Zcd cp).1.symm,rfl,dl,rfl,rfl,rfl,q1,q2,q3,rfl,Yak ca,by rw[Zlt];exact l12,Yjb ca H.fd⟩
def Ye7{h:T O}{N:Nat}{v:V}{g l p:Str}{D:Int}{d:List Str}(hs:Sl h N v (strs d))(hP:P10 h N)(H:RnH g l p D d):Fn A.C 11 [.agg [.str g,.str l,.str p,.int .i64 D],v] h N (fun x h' n'=>Yrk h' n' x (Zan [Za8 g l p D,Zgs d]) (runE (ratS g) (ratS l) (ratS p) D.toNat (Zs8 d)) (Zw5 (ratS g) (ratS l) (ratS p) D.toNat (Zs8 d))):=by
 intro w
 have kB:Keeps h N (h.set N (.cells [.str g,.str l,.str p,.int .i64 D] 24 true)) (N+1):=Keeps.refl.new _
 have b0:(h.set N (.cells [.str g,.str l,.str p,.int .i64 D] 24 true)).get N=some (.cells [.str g,.str l,.str p,.int .i64 D] 24 true):=by simp
 rw[Zaf,A.k11 (by simp)]
 simp(disch:=first|(simp;done)|omega|rfl) [-getElem?_pos,A.b11,Zaj,slc]
 generalize h.set N (.cells [.str g,.str l,.str p,.int .i64 D] 24 true)=HB at*
 refine Zac (Ydh H.lg H.ll H.lp (by omega)) ?_
 rintro _ h1 n1 k1 rfl
 simp(disch:=first|(simp;done)|omega|rfl) [-getElem?_pos,]
 refine Zac (Yme ((hs.keep kB).keep k1) H.ld fun s hs=>by have:=H.fd s hs;omega) ?_
 rintro _ h2 n2 k2 rfl
 have hi:n2<n2+1:=by omega
 have k12:=k1.trans k2
 have kS:=k12.trans (kset (Keeps.refl (h:=h2) (n:=n2)) (.cells [.int .i64 (Za8 g l p D),.int .i64 (Zgs d)] 31 true))
 have kD:=kB.trans kS
 have le12:=k12.le
 have b1:=(kS.get N (by omega)).trans b0
 have lN:N<n2+1:=by omega
 simp(disch:=first|(simp;done)|omega|rfl) [-getElem?_pos,splice,Zal.chk,Zf7 hi]
 generalize h2.set n2 (.cells [.int .i64 (Za8 g l p D),.int .i64 (Zgs d)] 31 true)=H2 at*
 by_cases c:Zan [Za8 g l p D,Zgs d]=0
 ·obtain⟨qg,ql,qp,n,r,rfl,rfl,rfl,rfl,hn,eg,el,ep,bg,bl,bp,er,ht,lr,br⟩:=H.go c
  rw[c,eg,el,ep,er,Int.toNat_natCast]
  have hvr:Sl h N v (tx r):=by rw[←ht];exact hs
  have hK:(3*40+3)*r.length+260*(r.length+1)+2≤5000:=by omega
  simp(disch:=first|(simp;done)|omega|rfl) [-getElem?_pos,c,Zag,b1,lN,Zaj,slc]
  refine Zac (Zyn (k0:=260) (hvr.keep kD) (by omega) br (by decide)) ?_
  rintro v3 h3 n3 k3 hv3
  simp(disch:=first|(simp;done)|omega|rfl) [-getElem?_pos,]
  refine Zac (Yao (K:=5000) hv3 bg bl bp br (by decide) hn (by omega) hK (by decide) (by decide)) ?_
  rintro _ h4 n4 k4 ⟨a,b,rfl,fa,fb⟩
  have rl:=@Zd8 qg ql qp n r r.length
  have rq:=Zk8 (D:=n) bg bl bp br (k:=r.length) (Yru _)
  have ru:=Zpk (D:=n) bg bl bp br (k:=r.length) (Yru _)
  have K4:=(kD.trans k3).trans k4
  simp(disch:=first|(simp;done)|omega|rfl) [-getElem?_pos,]
  refine Zac (Zjh (k:=5000) fa.1 (hP.keep K4) (by unfold runE;rw[rl.1];omega) (fun y hy=>(rq.2 y hy).mono hK) (by decide)) ?_
  rintro x5 h5 n5 k5 hx5
  have K5:=K4.trans k5
  rcases hx5 with⟨hb,rfl⟩|⟨hb,a5,rfl,ta⟩
  ·simp(disch:=first|(simp;done)|omega|rfl) [-getElem?_pos,]
   refine Zac (Zjh (k:=5000) (fb.keep k5).1 (hP.keep K5) (by unfold Zw5;rw[rl.2];omega) (fun y hy=>(ru y hy).mono hK) (by decide)) ?_
   rintro x6 h6 n6 k6 hx6
   have hi6:n6<n6+1:=by omega
   rcases hx6 with⟨hb2,rfl⟩|⟨hb2,b6,rfl,tb⟩
   ·simp(disch:=first|(simp;done)|omega|rfl) [-getElem?_pos,splice,Zal.chk,Zf7 hi6,Zan,Zag,Ret]
    exact⟨(K5.trans k6).trans (kset Keeps.refl _),.inr ⟨rfl,.inl ⟨.inl hb,rfl⟩⟩⟩
   ·simp(disch:=first|(simp;done)|omega|rfl) [-getElem?_pos,splice,Zal.chk,Zf7 hi6,Zan,Zag,Ret]
    exact⟨(K5.trans k6).trans (kset Keeps.refl _),.inr ⟨rfl,.inl ⟨.inl hb,rfl⟩⟩⟩
  ·simp(disch:=first|(simp;done)|omega|rfl) [-getElem?_pos,]
   refine Zac (Zjh (k:=5000) (fb.keep k5).1 (hP.keep K5) (by unfold Zw5;rw[rl.2];omega) (fun y hy=>(ru y hy).mono hK) (by decide)) ?_
   rintro x6 h6 n6 k6 hx6
   have hi6:n6<n6+1:=by omega
   rcases hx6 with⟨hb2,rfl⟩|⟨hb2,b6,rfl,tb⟩
   ·simp(disch:=first|(simp;done)|omega|rfl) [-getElem?_pos,splice,Zal.chk,Zf7 hi6,Zan,Zag,Ret]
    exact⟨(K5.trans k6).trans (kset Keeps.refl _),.inr ⟨rfl,.inl ⟨.inr hb2,rfl⟩⟩⟩
   ·simp(disch:=first|(simp;done)|omega|rfl) [-getElem?_pos,splice,Zal.chk,Zf7 hi6,Zan,Zag,Ret]
    have kL:=kset (Keeps.refl (h:=h6) (n:=n6)) (.cells [.int .i64 0,.int .i64 0] 31 true)
    exact⟨(K5.trans k6).trans kL,.inr ⟨rfl,.inr ⟨hb,hb2,a5,b6,rfl,(ta.keep k6).keep kL,tb.keep kL⟩⟩⟩
 ·simp(disch:=first|(simp;done)|omega|rfl) [-getElem?_pos,c,Zag,Ret]
  exact⟨kD,.inl ⟨c,rfl⟩⟩
def A.b62:=A.q Tryz.f62
def A.k62:=@A.kk 62 31 [.tmp 4] A.b62 (by kernel_rfl) rfl
def A.w9:=A.q Tryz.f9
def A.lb9_0:=A.ql A.w9 0 []
def A.b9:=(fun x0=>A.qb A.w9 [x0]) A.lb9_0
def A.k9:=@A.kk 9 25 [.tmp 6] A.b9 (by kernel_rfl) rfl
def Ym5(q:Rat)(d:Nat):Bool:=decide ((decN q.num.natAbs).length≤d)&&decide ((decN q.den).length≤d)
def Zub(s:Str)(d:Nat):Bool:=decide (s.length≤2*d+2)&&(decide (chkNum s=0)&&Ym5 (ratS s) d)
def Zsg(l:List Str)(n d:Nat):Bool:=decide (l.length≤n)&&l.all fun s=>Zub s d
def Zsm(q:Rat):(decI q.num).length≤(Zas q).length:=by
 unfold Zas
 split<;>simp
def Ym4{h:T O}{N d:Nat}{s:Str}(hd:d≤100):Fn A.C 62 [.str s,.int .i64 (d:Nat)] h N (fun u _ _=>u=.bool (Zub s d)):=by
 intro w
 rw[Zaf,A.k62 (by simp)]
 by_cases c1:s.length≤2*d+2
 ·have c1':(s.length:Int)≤2*(d:Int)+2:=by omega
  simp(disch:=first|(simp;done)|omega|rfl) [-getElem?_pos,A.b62,c1']
  refine Zac (Yaj (s:=s) (by omega)) ?_
  rintro _ h1 n1 k1 rfl
  by_cases c2:chkNum s=0
  ·have et:=(Zcd c2).1
   obtain⟨q,hq⟩:∃q,ratS s=q:=⟨_,rfl⟩
   rw[hq]at et
   have hl:(Zas q).length<1000000000:=by rw[et];omega
   have e1:=fun st=>Yjo (q:=q) (st:=st) hl
   have e2:=fun st=>Yk3 (q:=q) (st:=st) hl
   rw[et]at e1 e2
   have hln:(decI q.num).length<1000000000:=by
    have:=Zsm q
    rw[et]at this
    omega
   have e3:=fun st=>Ylk (z:=q.num) (st:=st) hln
   by_cases c3:(decN q.num.natAbs).length≤d
   ·have c3':((decN q.num.natAbs).length:Int)≤(d:Int):=by omega
    by_cases c4:(decN q.den).length≤d
    ·have c4':((decN q.den).length:Int)≤(d:Int):=by omega
     simp(disch:=first|(simp;done)|omega|rfl) [-getElem?_pos,c2,Zag,e1,e2,e3,c3',c4',Ret]
     exact⟨k1,by simp[Zub,Ym5,c1,c2,hq,c3,c4]⟩
    ·have c4':¬((decN q.den).length:Int)≤(d:Int):=by omega
     simp(disch:=first|(simp;done)|omega|rfl) [-getElem?_pos,c2,Zag,e1,e2,e3,c3',c4',Ret]
     exact⟨k1,by simp[Zub,Ym5,c1,c2,hq,c3,c4]⟩
   ·have c3':¬((decN q.num.natAbs).length:Int)≤(d:Int):=by omega
    simp(disch:=first|(simp;done)|omega|rfl) [-getElem?_pos,c2,Zag,e1,e2,e3,c3',Ret]
    exact⟨k1,by simp[Zub,Ym5,c1,c2,hq,c3]⟩
  ·have c2':¬((chkNum s:Nat):Int)=0:=by omega
   simp(disch:=first|(simp;done)|omega|rfl) [-getElem?_pos,c2,c2',Zag,Ret]
   exact⟨k1,by simp[Zub,c2]⟩
 ·have c1':¬(s.length:Int)≤2*(d:Int)+2:=by omega
  simp(disch:=first|(simp;done)|omega|rfl) [-getElem?_pos,A.b62,c1',Ret]
  exact⟨Keeps.refl,by simp[Zub,c1]⟩
def Zua{h:T O}{N d n:Nat}{v:V}{l:List Str}(hs:Sl h N v (strs l))(hl:l.length<9223372036854775808)(hd:d≤100)(hn:n≤1000):Fn A.C 9 [v,.int .i64 (n:Nat),.int .i64 (d:Nat)] h N (fun u _ _=>u=.bool (Zsg l n d)):=by
 intro w
 have hlen:=hs.len
 rw[Zf1]at hlen
 rw[Zaf,A.k9 (by simp)]
 by_cases c0:l.length≤n
 ·have c0':¬(n:Int)<(l.length:Int):=by omega
  have e0:Zsg l n d=l.all fun s=>Zub s d:=by simp[Zsg,c0]
  rw[e0]
  simp(disch:=first|(simp;done)|omega|rfl) [-getElem?_pos,A.b9,hlen,c0']
  refine Zak [(6,7),(12,24)] (fun e r st=>Zae N st.w=[]∧Keeps h N st.h st.n∧((e=.exit 0∧(l.all fun s=>Zub s d)=true)∨(e=.ret∧(l.all fun s=>Zub s d)=false∧r.get 6=some (.bool false)))) (fun m r st=>Zae N st.w=[]∧Keeps h N st.h st.n∧∃k,k+m=l.length∧r.get 7=some (.int .i64 k)∧(l.all fun s=>Zub s d)=((l.drop k).all fun s=>Zub s d)) l.length ?_ ?_ ?_
  ·exact⟨by simp,Keeps.refl,0,by omega,by simp,by simp⟩
  ·rintro m r ⟨H,n1,W⟩ hr hf ⟨hW,hK,k,hk,h7,hz⟩
   simp only at hW hK
   rw[Zai]
   cases m with
   |zero=>
    obtain rfl:k=l.length:=by omega
    rw[Yt1,List.all_nil]at hz
    simp(disch:=first|(simp;done)|omega|rfl) [-getElem?_pos,A.lb9_0,hr,hf,h7,hlen,hW,hK]
    simpa using hz
   |succ m=>
    have hlt:k<l.length:=by omega
    have hlt':(k:Int)<(l.length:Int):=by omega
    obtain⟨s,hsk⟩:=Zao hlt
    obtain⟨i,o,cc,e,rw,q1,q2,q3,q4⟩:=(hs.keep hK).at (Zpc hsk)
    rw[Zaz hsk,List.all_cons]at hz
    simp(disch:=first|(simp;done)|omega|rfl) [-getElem?_pos,A.lb9_0,hr,hf,h7,hlen,hlt,hlt',q1,q2,q3,q4]
    refine Zac (Ym4 (s:=s) hd) ?_
    rintro _ h3 n3 k3 rfl
    have kk:=hK.trans k3
    cases hfs:Zub s d with
    |true=>
     rw[hfs,Bool.true_and]at hz
     simp(disch:=first|(simp;done)|omega|rfl) [-getElem?_pos,hr,hf,h7,hW]
     exact⟨m,by omega,kk,k+1,by omega,by simp,by simpa using hz⟩
    |false=>
     rw[hfs,Bool.false_and]at hz
     simp(disch:=first|(simp;done)|omega|rfl) [-getElem?_pos,hr,hf,h7,hW]
     exact⟨kk,by simpa using hz⟩
  ·rintro e r ⟨H,n1,W⟩ hr ⟨hW,hK,⟨rfl,hz⟩|⟨rfl,hz,h6⟩⟩
   ·simp only at hW hK
    simp(disch:=first|(simp;done)|omega|rfl) [-getElem?_pos,hr,Ret,hW,hK]
    simpa using hz
   ·simp only at hW hK
    simp(disch:=first|(simp;done)|omega|rfl) [-getElem?_pos,hr,h6,Ret,hW,hK]
    simpa using hz
 ·have c0':(n:Int)<(l.length:Int):=by omega
  simp(disch:=first|(simp;done)|omega|rfl) [-getElem?_pos,A.b9,hlen,c0',Ret]
  exact⟨Keeps.refl,by simp[Zsg,c0]⟩
variable {n:Nat}
def A.b8:=A.q Tryz.f8
def A.k8:=@A.kk 8 31 [.tmp 6] A.b8 (by kernel_rfl) rfl
def A.w14:=A.q Tryz.f14
def A.lb14_0:=A.ql A.w14 0 []
def A.b14:=(fun x0=>A.qb A.w14 [x0]) A.lb14_0
def A.k14:=@A.kk 14 45 [.tmp 4,.tmp 5] A.b14 (by kernel_rfl) rfl
def Zyr{g l p:Str}{D:Int}{dd:Nat}{h:T O}{N:Nat}(hg:g.length≤40)(hl:l.length≤40)(hp:p.length≤40)(hd:dd≤100)(hn:n≤1000):Fn A.C 8 [.agg [.str g,.str l,.str p,.int .i64 D],.int .i64 (dd:Nat),.int .i64 (n:Nat)] h N (fun u _ _=>u=.bool (decide (Za8 g l p D=0)&&(Zsg [g,l,p] 3 dd&&decide (D≤(n:Int))))):=by
 intro w
 have kB:Keeps h N (h.set N (.cells [.str g,.str l,.str p,.int .i64 D] 26 true)) (N+1):=Keeps.refl.new _
 have b0:(h.set N (.cells [.str g,.str l,.str p,.int .i64 D] 26 true)).get N=some (.cells [.str g,.str l,.str p,.int .i64 D] 26 true):=by simp
 rw[Zaf,A.k8 (by simp)]
 simp(disch:=first|(simp;done)|omega|rfl) [-getElem?_pos,A.b8,Zaj,slc]
 generalize h.set N (.cells [.str g,.str l,.str p,.int .i64 D] 26 true)=HB at*
 refine Zac (Zu3 (by omega) (by omega) (by omega)) ?_
 rintro _ h1 n1 k1 rfl
 have le1:=k1.le
 have b1:=(k1.get N (by omega)).trans b0
 have l1:N<n1:=by omega
 simp(disch:=first|(simp;done)|omega|rfl) [-getElem?_pos,hg,hl,hp,b1,l1,Zaj,slc]
 refine Zac (Yja (by omega) (by omega) (by omega)) ?_
 rintro _ h2 n2 k2 rfl
 have le2:=k2.le
 have b2:=(k2.get N (by omega)).trans b1
 have l2:N<n2:=by omega
 by_cases c:Za8 g l p D=0
 ·have kS:Keeps h2 n2 (h2.set n2 (.cells [.str g,.str l,.str p] 22 true)) (n2+1):=Keeps.refl.new _
  have sl3:Sl (h2.set n2 (.cells [.str g,.str l,.str p] 22 true)) (n2+1) (.slice n2 0 3 (some 3) 1) (strs [g,l,p]):=Sl.row (e:=22) (rw:=true) (cp:=some 3) (by omega) (by simp[strs]) rfl (by simp)
  have b3:=(kS.get N (by omega)).trans b2
  simp(disch:=first|(simp;done)|omega|rfl) [-getElem?_pos,c,Zag,b2,l2,splice]
  have fl:=Zua (d:=dd) (n:=3) sl3 (by simp) hd (by decide)
  refine Zac fl ?_
  rintro _ h3 n3 k3 rfl
  have le3:=k3.le
  have b4:=(k3.get N (by omega)).trans b3
  have l3:N<n3:=by omega
  by_cases c2:Zsg [g,l,p] 3 dd=true
  ·simp(disch:=first|(simp;done)|omega|rfl) [-getElem?_pos,c2,b4,l3,Ret]
   exact((kB.trans k1).trans k2).trans (kS.trans k3)
  ·have c2':Zsg [g,l,p] 3 dd=false:=by simpa using c2
   simp(disch:=first|(simp;done)|omega|rfl) [-getElem?_pos,c2',b4,l3,Ret]
   exact((kB.trans k1).trans k2).trans (kS.trans k3)
 ·simp(disch:=first|(simp;done)|omega|rfl) [-getElem?_pos,c,Zag,Ret]
  exact(kB.trans k1).trans k2
def Zib(n:Nat):List Rat:=(List.range n).map fun i=>if i=0 then 1 else 0
def Zmn{n:Nat}:(Zib n).length=n:=by simp[Zib]
def Zpm{j:Nat}(h:j<n):pg (Zib n) j=if j=0 then 1 else 0:=by simp[pg,Zib,h]
def Yan{n:Nat}:∀y∈Zib n,Qb 1 y:=fun y hy=>by
 obtain⟨j,_,rfl⟩:=Ytq.1 hy
 split
 ·exact Qb.int (z:=1) (k:=1) (by decide) (by decide)
 ·exact Qb.int (z:=0) (k:=1) (by decide) (by decide)
def Yjg{h:T O}{N:Nat}{g l p:Str}{D z:Int}(hP:P10 h N)(lg:g.length≤40)(ll:l.length≤40)(lp:p.length≤40)(hq:Za8 g l p D=0→Qb 40 (ratS g)∧Qb 40 (ratS l)∧Qb 40 (ratS p))(hz:0≤z→z≤64→z≤12):Fn A.C 14 [.agg [.str g,.str l,.str p,.int .i64 D],.int .i64 z] h N (fun x h' n'=>Yrl h' n' x (Zan [Za8 g l p D,if z<0∨64<z then 3 else 0]) (runE (ratS g) (ratS l) (ratS p) D.toNat (Zib z.toNat))):=by
 intro w
 have e0:zF=[V.int .i64 0,.nilslice,.int .i64 0,.nilslice]:=rfl
 have hcc:∀c:List V,(V.agg c).cells=c:=fun _=>rfl
 have kB:Keeps h N (h.set N (.cells [.str g,.str l,.str p,.int .i64 D] 24 true)) (N+1):=Keeps.refl.new _
 have b0:(h.set N (.cells [.str g,.str l,.str p,.int .i64 D] 24 true)).get N=some (.cells [.str g,.str l,.str p,.int .i64 D] 24 true):=by simp
 rw[Zaf,A.k14 (by simp)]
 simp(disch:=first|(simp;done)|omega|rfl) [-getElem?_pos,A.b14,Zaj,slc]
 generalize h.set N (.cells [.str g,.str l,.str p,.int .i64 D] 24 true)=HB at*
 refine Zac (Ydh lg ll lp (by omega)) ?_
 rintro _ h2 n2 k2 rfl
 have hi:n2<n2+1:=by omega
 have kS:Keeps HB (N+1) (h2.set n2 (.cells [.int .i64 (Za8 g l p D),.int .i64 (if z<0∨64<z then 3 else 0)] 31 true)) (n2+1):=k2.trans (kset Keeps.refl _)
 have kD:=kB.trans kS
 have le2:=k2.le
 have b1:=(kS.get N (by omega)).trans b0
 have lN:N<n2+1:=by omega
 simp(disch:=first|(simp;done)|omega|rfl) [-getElem?_pos,Zl6,splice,Zal.chk,Zf7 hi]
 generalize h2.set n2 (.cells [.int .i64 (Za8 g l p D),.int .i64 (if z<0∨64<z then 3 else 0)] 31 true)=H2 at*
 by_cases c:Zan [Za8 g l p D,if z<0∨64<z then 3 else 0]=0
 ·obtain⟨c1,c2⟩:=Zhc c
  have hzr:0≤z∧z≤64:=by
   split at c2
   ·omega
   ·rename_i hc;omega
  obtain⟨n,rfl⟩:∃n:Nat,z=(n:Int):=⟨z.toNat,by omega⟩
  have hn12:n≤12:=by have:=hz hzr.1 hzr.2;omega
  obtain⟨cg,cl,cp,dn,rfl,dl,_⟩:=Ypj c1
  obtain⟨bg,bl,bp⟩:=hq c1
  have eg:=(Zcd cg).1
  have el:=(Zcd cl).1
  have ep:=(Zcd cp).1
  rw[c,Int.toNat_natCast,Int.toNat_natCast]
  simp(disch:=first|(simp;done)|omega|rfl) [-getElem?_pos,c,Zag]
  generalize ratS g=qg at*
  generalize ratS l=ql at*
  generalize ratS p=qp at*
  subst eg el ep
  refine Zak [(7,8),(21,34)] (fun e r st=>e=.exit 0∧Zae N st.w=[]∧Keeps h N st.h st.n∧N<st.n∧st.h.get N=some (.cells [.str (Zas qg),.str (Zas ql),.str (Zas qp),.int .i64 dn] 24 true)∧∃vu,r.get 7=some vu∧FrT st.h st.n vu (Zib n)) (fun m r st=>Zae N st.w=[]∧Keeps h N st.h st.n∧N<st.n∧st.h.get N=some (.cells [.str (Zas qg),.str (Zas ql),.str (Zas qp),.int .i64 dn] 24 true)∧∃t,t+m=n∧r.get 21=some (.int .i64 t)∧∃vu,r.get 7=some vu∧∃out:List (List V),Own 4 110 (N+1) st.h st.n vu out∧out.length=t∧(out=[]→vu=.nilslice)∧(∀c∈out,∀y∈c,NW y)∧∀j,j<t→∃c,out[j]?=some c∧FcC st.h st.n c (pg (Zib n) j)) n ?_ ?_ ?_
  ·exact⟨by simp,kD,lN,b1,0,by omega,by simp,.nilslice,by simp,[],Own.nil,rfl,fun _=>rfl,by simp,fun j hj=>by omega⟩
  ·rintro m r ⟨H,n1,W⟩ hr hf ⟨hW,hK',hn1,m0,t,ht,h21,vu,h7,out,o1,o2,o3,o4,o5⟩
   simp only at hW hK' hn1 m0 o1 o5
   rw[Zai]
   cases m with
   |zero=>
    obtain rfl:t=n:=by omega
    have fu:FrT H n1 vu (Zib t):=Zvg o1 (by rw[o2,Zmn]) fun j hj=>by
     rw[Zmn]at hj
     obtain⟨c,x1,x2⟩:=o5 j hj
     refine⟨c,x1,fun q hq=>?_⟩
     rw[Zbk (by rw[Zmn];exact hj)]at hq
     simp only[Yrs]at hq
     rw[←hq];exact x2
    simp(disch:=first|(simp;done)|omega|rfl) [-getElem?_pos,A.lb14_0,hr,hf,h21,h7,hW,hK',hn1,m0]
    exact fu
   |succ m=>
    have hlt:t<n:=by omega
    have hlt':(t:Int)<(n:Int):=by omega
    have leK:=hK'.le
    have hru:=o1.lt
    have pgt:=Zpm hlt
    have step:∀(zz:Int),FcC H n1 [] 0∨((zz:Int):Rat)=pg (Zib n) t→True:=fun _ _=>trivial
    clear step
    by_cases t0:t=0
    ·have t0':(t:Int)=0:=by omega
     have n0:0<n:=by omega
     simp(disch:=first|(simp;done)|omega|rfl) [-getElem?_pos,A.lb14_0,hr,hf,h21,h7,hlt,hlt',t0,t0',n0,Zag]
     refine Zac (Zt9 (z:=1) (by decide) (by decide)) ?_
     rintro _ h3 n3 k3 hz3
     obtain⟨c3,rfl,f3⟩:=hz3.c
     obtain⟨g1,g2⟩:=f3.len
     have le3:=k3.le
     have e4:=Zjm (d:=zF) g1 rfl
     rw[e0]at e4
     have kN:Keeps h3 n3 (h3.set n3 (.cells c3 110 true)) (n3+1):=Keeps.refl.new _
     have k3N:=k3.trans kN
     have gN3:(h3.set n3 (.cells c3 110 true)).get n3=some (.cells c3 110 true):=by rw[T.get_set,Yrw rfl]
     obtain⟨vu',h4,w4,j1,j2,j3,j4,jD,j5⟩:=Zgo (Y:=NW) (x:=c3) (u:=.slice n3 0 1 (some 1) 4) (bytes:=64) (w:=W) (o1.keep k3N) o3 o4 (by omega) (by decide) g1 (by simp only[Za0,St.row,gN3,if_true];unfold slc;simp[g1];exact Yr2 (by omega)) (by omega)
     have ow:Zae N w4=[]:=Zpq j2 (by omega) hW
     simp(disch:=first|(simp;done)|omega|rfl) [-getElem?_pos, -Zae, -V.cells, -V.one,hr,hf,h21,h7,hcc,g1,g2,e4,j1]
     refine⟨m,by omega,ow,⟨by omega,fun i hi=>by rw[j4.get i (by omega) (fun hc=>by have:=hru _ hc;omega),k3N.get i (by omega),hK'.get i hi]⟩,by omega,by rw[j4.get N (by omega) (fun hc=>by have:=hru _ hc;omega),k3N.get N (by omega)];exact m0,t+1,by omega,by first|(simp;done)|omega|(simp;omega),out++[c3],j5,by simp[o2],by simp,fun c hc y hy=>?_,fun j hj=>?_⟩
     ·rcases Ysq.1 hc with hc|hc
      ·exact o4 c hc y hy
      ·simp only[Yte]at hc;subst hc;exact f3.noU y hy
     ·by_cases hjt:j<t
      ·obtain⟨c,x1,x2⟩:=o5 j hjt
       exact⟨c,by rw[Ysc (by omega)];exact x1,(x2.keep k3N).moved j4 jD⟩
      ·obtain rfl:j=t:=by omega
       refine⟨c3,by rw[Ysn (by omega),o2];simp,?_⟩
       rw[pgt,Yrw t0]
       exact(f3.keep kN).moved j4 jD
    ·have t0':¬(t:Int)=0:=by omega
     simp(disch:=first|(simp;done)|omega|rfl) [-getElem?_pos,A.lb14_0,hr,hf,h21,h7,hlt,hlt',t0,t0',Zag]
     refine Zac (Zt9 (z:=0) (by decide) (by decide)) ?_
     rintro _ h3 n3 k3 hz3
     obtain⟨c3,rfl,f3⟩:=hz3.c
     obtain⟨g1,g2⟩:=f3.len
     have le3:=k3.le
     have e4:=Zjm (d:=zF) g1 rfl
     rw[e0]at e4
     have kN:Keeps h3 n3 (h3.set n3 (.cells c3 110 true)) (n3+1):=Keeps.refl.new _
     have k3N:=k3.trans kN
     have gN3:(h3.set n3 (.cells c3 110 true)).get n3=some (.cells c3 110 true):=by rw[T.get_set,Yrw rfl]
     obtain⟨vu',h4,w4,j1,j2,j3,j4,jD,j5⟩:=Zgo (Y:=NW) (x:=c3) (u:=.slice n3 0 1 (some 1) 4) (bytes:=64) (w:=W) (o1.keep k3N) o3 o4 (by omega) (by decide) g1 (by simp only[Za0,St.row,gN3,if_true];unfold slc;simp[g1];exact Yr2 (by omega)) (by omega)
     have ow:Zae N w4=[]:=Zpq j2 (by omega) hW
     simp(disch:=first|(simp;done)|omega|rfl) [-getElem?_pos, -Zae, -V.cells, -V.one,hr,hf,h21,h7,hcc,g1,g2,e4,j1]
     refine⟨m,by omega,ow,⟨by omega,fun i hi=>by rw[j4.get i (by omega) (fun hc=>by have:=hru _ hc;omega),k3N.get i (by omega),hK'.get i hi]⟩,by omega,by rw[j4.get N (by omega) (fun hc=>by have:=hru _ hc;omega),k3N.get N (by omega)];exact m0,t+1,by omega,by first|(simp;done)|omega|(simp;omega),out++[c3],j5,by simp[o2],by simp,fun c hc y hy=>?_,fun j hj=>?_⟩
     ·rcases Ysq.1 hc with hc|hc
      ·exact o4 c hc y hy
      ·simp only[Yte]at hc;subst hc;exact f3.noU y hy
     ·by_cases hjt:j<t
      ·obtain⟨c,x1,x2⟩:=o5 j hjt
       exact⟨c,by rw[Ysc (by omega)];exact x1,(x2.keep k3N).moved j4 jD⟩
      ·obtain rfl:j=t:=by omega
       refine⟨c3,by rw[Ysn (by omega),o2];simp,?_⟩
       rw[pgt,Yrt t0]
       exact(f3.keep kN).moved j4 jD
  ·rintro _ r ⟨H,n1,W⟩ hr ⟨rfl,hW,hK',hn1,m0,vu,h7,fu⟩
   simp only at hW hK' hn1 m0 fu
   have pl:=@Zmn n
   have hK:(3*40+3)*(Zib n).length+1*((Zib n).length+1)+2≤5000:=by rw[pl];omega
   simp(disch:=first|(simp;done)|omega|rfl) [-getElem?_pos,hr,m0,hn1,h7,Zaj,slc]
   refine Zac (Yao (K:=5000) fu bg bl bp Yan (by decide) dl (by rw[pl];omega) hK (by decide) (by decide)) ?_
   rintro _ h4 n4 k4 ⟨a,b,rfl,fa,fb⟩
   have rl:=@Zd8 qg ql qp dn (Zib n) (Zib n).length
   have rq:=Zk8 (D:=dn) bg bl bp (@Yan n) (k:=(Zib n).length) (Yru _)
   have K4:=hK'.trans k4
   simp(disch:=first|(simp;done)|omega|rfl) [-getElem?_pos,]
   refine Zac (Zjh (k:=5000) fa.1 (hP.keep K4) (by unfold runE;rw[rl.1,pl];omega) (fun y hy=>(rq.2 y hy).mono hK) (by decide)) ?_
   rintro x5 h5 n5 k5 hx5
   rcases hx5 with⟨hb,rfl⟩|⟨hb,a5,rfl,ta⟩
   ·simp(disch:=first|(simp;done)|omega|rfl) [-getElem?_pos,hW,Ret]
    exact⟨K4.trans k5,.inr ⟨rfl,.inl ⟨hb,rfl⟩⟩⟩
   ·simp(disch:=first|(simp;done)|omega|rfl) [-getElem?_pos,hW,Ret]
    exact⟨K4.trans k5,.inr ⟨rfl,.inr ⟨hb,a5,rfl,ta⟩⟩⟩
 ·simp(disch:=first|(simp;done)|omega|rfl) [-getElem?_pos,c,Zag,Ret]
  exact⟨kD,.inl ⟨c,rfl⟩⟩
variable {D:Nat} {a d:List Rat} {g l:Rat}
def Ya2(g l p:Rat)(D:Nat)(d:List Rat)(k:Nat):Rat:=(Zdt g l p D d k).2.2
def Zn3(g l p:Rat)(D:Nat)(d:List Rat)(k:Nat):Rat:=pg d k-Ya2 g l p D d k
def Zqb(g l p:Rat)(D:Nat)(d:List Rat)(E k:Nat):Rat:=if E≤k then Zn3 g l p D d (k-E) else 0
def Ye0{g l p:Rat}{D:Nat}{d:List Rat}:∀{k j:Nat},j<k→pg (Zdt g l p D d k).1 j=Zn3 g l p D d j∧pg (Zdt g l p D d k).2.1 j=Ya2 g l p D d j
 |0,j,h=>by omega
 |k+1,j,h=>by
  have rl:=@Zd8 g l p D d k
  have e1:(Zdt g l p D d (k+1)).1=(Zdt g l p D d k).1++[pg d k-(Zdt g l p D d k).2.2]:=rfl
  have e2:(Zdt g l p D d (k+1)).2.1=(Zdt g l p D d k).2.1++[(Zdt g l p D d k).2.2]:=rfl
  rw[e1,e2]
  by_cases hj:j<k
  ·have ih:=Ye0 (g:=g) (l:=l) (p:=p) (D:=D) (d:=d) hj
   unfold pg at ih ⊢
   rw[Ysc (by omega),Ysc (by omega)]
   exact ih
  ·obtain rfl:j=k:=by omega
   unfold pg
   rw[Ysn (by omega),Ysn (by omega),rl.1,rl.2,Nat.sub_self]
   exact⟨rfl,rfl⟩
def Zps{p:Rat}:Ya2 g l p D d 0=0:=rfl
def Ztk{p:Rat}{k:Nat}:Ya2 g l p D d (k+1)=l*Ya2 g l p D d k+(g*Zqb g l p D d D k+p*(Zqb g l p D d D k-Zqb g l p D d (D+1) k)):=by
 have e:∀E,Zg7 ((Zdt g l p D d k).1++[pg d k-(Zdt g l p D d k).2.2]) E k=Zqb g l p D d E k:=fun E=>by
  unfold Zg7 Zqb
  split
  ·exact(Ye0 (g:=g) (l:=l) (p:=p) (D:=D) (d:=d) (k:=k+1) (j:=k-E) (by omega)).1
  ·rfl
 show l*(Zdt g l p D d k).2.2+(g*Zg7 _ D k+p*(Zg7 _ D k-Zg7 _ (D+1) k))=_
 rw[e,e]
 rfl
def Ztl{g l p:Rat}{D:Nat}{a b c:List Rat}(h:∀k,pg c k=pg a k+pg b k):∀k,∀j,j≤k→Ya2 g l p D c j=Ya2 g l p D a j+Ya2 g l p D b j
 |0,j,hj=>by
  obtain rfl:j=0:=by omega
  rw[Zps,Zps,Zps];grind
 |k+1,j,hj=>by
  by_cases hjk:j≤k
  ·exact Ztl h k j hjk
  ·obtain rfl:j=k+1:=by omega
   have ih:=Ztl (g:=g) (l:=l) (p:=p) (D:=D) h k
   have hl:∀E,Zqb g l p D c E k=Zqb g l p D a E k+Zqb g l p D b E k:=fun E=>by
    unfold Zqb
    split
    ·unfold Zn3
     rw[h,ih _ (by omega)]
     grind
    ·grind
   rw[Ztk,Ztk,Ztk,hl,hl,ih k (Yru _)]
   grind
def Yi8{p:Rat}{b c:List Rat}(h:∀k,pg c k=pg a k+pg b k)(k:Nat):Zn3 g l p D c k=Zn3 g l p D a k+Zn3 g l p D b k:=by
 unfold Zn3
 rw[h,Ztl h k k (Yru _)]
 grind
def Zm2{g l p:Rat}{D:Nat}{a c:List Rat}(h0:pg c 0=0)(h:∀k,pg c (k+1)=pg a k):∀k,∀j,j≤k→Ya2 g l p D c (j+1)=Ya2 g l p D a j
 |0,j,hj=>by
  obtain rfl:j=0:=by omega
  have hl:∀E,Zqb g l p D c E 0=0:=fun E=>by
   unfold Zqb
   split
   ·unfold Zn3
    rw[Nat.zero_sub,h0,Zps];grind
   ·rfl
  rw[Ztk,hl,hl,Zps,Zps]
  grind
 |k+1,j,hj=>by
  by_cases hjk:j≤k
  ·exact Zm2 h0 h k j hjk
  ·obtain rfl:j=k+1:=by omega
   have ih:=Zm2 (g:=g) (l:=l) (p:=p) (D:=D) h0 h k
   have hl:∀E,Zqb g l p D c E (k+1)=Zqb g l p D a E k:=fun E=>by
    unfold Zqb
    by_cases h1:E≤k
    ·rw[Yrw (by omega),Yrw h1,show k+1-E=(k-E)+1 by omega]
     unfold Zn3
     rw[h,ih _ (by omega)]
    ·rw[Yrt h1]
     by_cases h2:E≤k+1
     ·rw[Yrw h2,show k+1-E=0 by omega]
      unfold Zn3
      rw[h0,Zps];grind
     ·rw[Yrt h2]
   rw[Ztk,hl,hl,ih k (Yru _),←Ztk]
def Yac{p:Rat}{c:List Rat}(h0:pg c 0=0)(h:∀k,pg c (k+1)=pg a k)(k:Nat):Zn3 g l p D c (k+1)=Zn3 g l p D a k:=by
 unfold Zn3
 rw[h,Zm2 h0 h k k (Yru _)]
def Ydg{p:Rat}{k:Nat}(hk:k≤D+2):pg (Za5 g l p D) (D+2-k)=(if k=0 then 1 else 0)+(if k=1 then -l else 0)+(if k=D+1 then g+p else 0)+(if k=D+2 then -p else 0):=by
 unfold Za5 pg
 by_cases h2:k=D+2
 ·subst h2
  rw[show D+2-(D+2)=0 by omega,Ysf (by simp)]
  rw[Yrt (by omega),Yrt (by omega),Yrt (by omega),Yrw rfl]
  simp only[Yux];grind
 ·rw[Yry (by omega)]
  by_cases h1:k=D+1
  ·subst h1
   rw[show D+2-(D+1)=1 by omega,Ysf (by simp)]
   simp only[Yux]
   by_cases hD:D=0
   ·subst hD
    simp
    grind
   ·rw[Yrt hD,Yrt (show ¬D+1=0 by omega),Yrt (show ¬D+1=1 by omega),Yrw True.intro,Yrt (show ¬D+1=D+2 by omega)]
    grind
  ·rw[Yry (by omega),Yrt h1,Yrt h2]
   by_cases hk1:k=1
   ·subst hk1
    rw[show D+2-1=D+1 by omega,Ysf (by simp),Yrt (by omega),Yrw rfl]
    simp only[Yux];grind
   ·rw[Yry (by omega),Yrt hk1]
    by_cases hk0:k=0
    ·subst hk0
     rw[Nat.sub_zero,Ysf (by simp),Yrw rfl]
     simp only[Yux];grind
    ·rw[Yry (by omega),Yrt hk0]
     have hlt:D+2-k<D+3:=by omega
     simp[hlt]
     grind
def Zy6(P h:List Rat)(i:Nat):Nat→Rat
 |0=>0
 |k+1=>Zy6 P h i k+pg P (P.length-1-k)*pg h (i-k)
def Yh5{g l p:Rat}{D i:Nat}{h:List Rat}:∀{m:Nat},m≤D+3→Zy6 (Za5 g l p D) h i m=(if 0<m then pg h i else 0)+(if 1<m then -l*pg h (i-1) else 0)+(if D+1<m then (g+p)*pg h (i-(D+1)) else 0)+(if D+2<m then -p*pg h (i-(D+2)) else 0)
 |0,_=>by simp[Zy6];grind
 |m+1,hm=>by
  have ih:=Yh5 (g:=g) (l:=l) (p:=p) (D:=D) (i:=i) (h:=h) (m:=m) (by omega)
  have cl:=(@Zi1 g l p D).1
  rw[Zy6,ih,cl,show D+3-1-m=D+2-m by omega,Ydg (by omega)]
  by_cases a0:m=0
  ·subst a0
   simp
   grind
  ·rw[Yrw (show 0<m by omega),Yrw (show 0<m+1 by omega),Yrt a0]
   by_cases a1:m=1
   ·subst a1
    rw[Yrt (show ¬1<1 by omega),Yrw (show 1<1+1 by omega),Yrw rfl]
    by_cases a2:1=D+1
    ·have hD:D=0:=by omega
     subst hD
     simp
     grind
    ·rw[Yrt a2,Yrt (show ¬D+1<1 by omega),Yrt (show ¬D+1<1+1 by omega),Yrt (show ¬1=D+2 by omega),Yrt (show ¬D+2<1 by omega),Yrt (show ¬D+2<1+1 by omega)]
     grind
   ·rw[Yrw (show 1<m by omega),Yrw (show 1<m+1 by omega),Yrt a1]
    by_cases a2:m=D+1
    ·subst a2
     rw[Yrt (show ¬D+1<D+1 by omega),Yrw (show D+1<D+1+1 by omega),Yrw rfl,Yrt (show ¬D+1=D+2 by omega),Yrt (show ¬D+2<D+1 by omega),Yrt (show ¬D+2<D+1+1 by omega)]
     grind
    ·rw[Yrt a2]
     by_cases a3:m=D+2
     ·subst a3
      rw[Yrw rfl,Yrw (show D+1<D+2 by omega),Yrw (show D+1<D+2+1 by omega),Yrt (show ¬D+2<D+2 by omega),Yrw (show D+2<D+2+1 by omega)]
      grind
     ·rw[Yrt a3,Yrt (show ¬D+1<m by omega),Yrt (show ¬D+1<m+1 by omega),Yrt (show ¬D+2<m by omega),Yrt (show ¬D+2<m+1 by omega)]
      grind
def Ykl{g l p:Rat}{D n i:Nat}{h:List Rat}(hi:i<n)(hh:∀j,j<n→pg h j=Zn3 g l p D (Zib n) j):Zy6 (Za5 g l p D) h i (min (i+1) (D+3))=if i=0 then 1 else if i=1 then -l else 0:=by
 rw[Yh5 (by omega)]
 cases i with
 |zero=>
  rw[Yrw (by omega),Yrt (by omega),Yrt (by omega),Yrt (by omega),Yrw rfl,hh 0 hi]
  unfold Zn3
  rw[Zpm hi,Yrw rfl,Zps]
  grind
 |succ i=>
  rw[Yrw (show 0<min (i+1+1) (D+3) by omega),Yrw (show 1<min (i+1+1) (D+3) by omega),hh (i+1) hi,show i+1-1=i by omega,hh i (by omega),Yrt (show ¬i+1=0 by omega)]
  have L1:(if D+1<min (i+1+1) (D+3) then (g+p)*pg h (i+1-(D+1)) else 0)=(g+p)*Zqb g l p D (Zib n) D i:=by
   unfold Zqb
   by_cases c:D≤i
   ·rw[Yrw (by omega),Yrw c,show i+1-(D+1)=i-D by omega,hh _ (by omega)]
   ·rw[Yrt (by omega),Yrt c];grind
  have L2:(if D+2<min (i+1+1) (D+3) then -p*pg h (i+1-(D+2)) else 0)= -p*Zqb g l p D (Zib n) (D+1) i:=by
   unfold Zqb
   by_cases c:D+1≤i
   ·rw[Yrw (by omega),Yrw c,show i+1-(D+2)=i-(D+1) by omega,hh _ (by omega)]
   ·rw[Yrt (by omega),Yrt c];grind
  rw[L1,L2]
  unfold Zn3
  rw[Ztk,Zpm hi,Zpm (show i<n by omega),Yrt (show ¬i+1=0 by omega)]
  by_cases c:i=0
  ·subst c
   rw[Yrw rfl,Yrw rfl]
   grind
  ·rw[Yrt c,Yrt (show ¬i+1=1 by omega)]
   grind
end
end Go.Mx
