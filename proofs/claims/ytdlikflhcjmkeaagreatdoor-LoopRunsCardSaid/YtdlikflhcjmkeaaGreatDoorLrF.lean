/-loop-/
import Derived.Test.YtdlikflhcjmkeaaGreatDoorLrD
set_option linter.all false
set_option maxHeartbeats 2000000
namespace Go.Mx
noncomputable section
open Go Go.Proofs
variable {D:Int} {d:List Str} {g l:Str}
set_option maxRecDepth 1000000
def A.b33:=A.q Tryz.f33
def A.k33:=@A.kk 33 50 [.tmp 4,.tmp 5,.tmp 6] A.b33 (by kernel_rfl) rfl
def A.b35:=A.q Tryz.f35
def A.k35:=@A.kk 35 23 [.tmp 4,.tmp 5] A.b35 (by kernel_rfl) rfl
def Yx7(h:T O)(n:Nat)(x:V)(E:Int)(es us:List Rat):Prop:=(E≠0∧x=.tup [.nilslice,.nilslice,.int .i64 E])∨(E=0∧(((Zcy es=true∨Zcy us=true)∧x=.tup [.nilslice,.nilslice,.int .i64 4])∨(Zcy es=false∧Zcy us=false∧∃a b,x=.tup [a,b,.int .i64 0]∧TxT h n a es∧TxT h n b us)))
def Ywy{g l p:Rat}{D kc kd:Nat}{d:List Rat}(hg:Qb kc g)(hl:Qb kc l)(hp:Qb kc p)(hd:∀q∈d,Qb kd q):∀{k:Nat},k≤d.length→∀q∈(Ywh g l p D d k).2.1,Qb ((3*kc+3)*d.length+kd*(d.length+1)+2) q
 |0,_,q,hq=>by simp[Ywh]at hq
 |k+1,hk,q,hq=>by
  have:(Ywh g l p D d (k+1)).2.1=(Ywh g l p D d k).2.1++[(Ywh g l p D d k).2.2]:=rfl
  rw[this]at hq
  rcases Yry.1 hq with hq|hq
  ·exact Ywy hg hl hp hd (by omega) q hq
  ·simp at hq
   rw[hq]
   exact(Ywn (D:=D) hg hl hp hd (k:=k) (by omega)).1
structure RnH (g l p:Str) (D:Int) (d:List Str):Prop where
 lg:g.length≤40
 ll:l.length≤40
 lp:p.length≤40
 ld:d.length<100000
 fd:∀s∈d,s.length≤64
 q:Zbj g l p D=0→Qb 40 (ratS g)∧Qb 40 (ratS l)∧Qb 40 (ratS p)
 s:Ywg d=0→d.length≤12
def RnH.go{p:Str}(H:RnH g l p D d)(c:Zau [Zbj g l p D,Ywg d]=0):∃(qg ql qp:Rat) (n:Nat) (r:List Rat),g=Zaq qg∧l=Zaq ql∧p=Zaq qp∧D=(n:Int)∧n≤6∧ratS g=qg∧ratS l=ql∧ratS p=qp∧Qb 40 qg∧Qb 40 ql∧Qb 40 qp∧Ywv d=r∧strs d=tx r∧r.length≤12∧(∀y∈r,Qb 260 y):=by
 obtain⟨c1,c2⟩:=Zio c
 obtain⟨cg,cl,cp,n,rfl,dl,_⟩:=Yn9 c1
 obtain⟨q1,q2,q3⟩:=H.q c1
 have l12:=H.s c2
 have ca:Yu3 d=0:=by
  unfold Ywg at c2
  rw[Yqe (by omega)]at c2
  exact c2
 exact⟨ratS g,ratS l,ratS p,n,Ywv d,(Zco cg).1.symm,(Zco cl).1.symm,(Zco cp).1.symm,rfl,dl,rfl,rfl,rfl,q1,q2,q3,rfl,Yuc ca,by rw[Yt6];exact l12,Yt9 ca H.fd⟩
def Yxu{h:T O}{N:Nat}{v:V}{p:Str}(hs:Sl h N v (strs d))(hP:P10 h N)(H:RnH g l p D d):Fn A.C 33 [.agg [.str g,.str l,.str p,.int .i64 D],v] h N (fun x h' n'=>Yx7 h' n' x (Zau [Zbj g l p D,Ywg d]) (Ywo (ratS g) (ratS l) (ratS p) D.toNat (Ywv d)) (Yw5 (ratS g) (ratS l) (ratS p) D.toNat (Ywv d))):=by
 intro w
 have kB:Keeps h N (h.set N (.cells [.str g,.str l,.str p,.int .i64 D] 48 true)) (N+1):=Keeps.refl.new _
 have b0:(h.set N (.cells [.str g,.str l,.str p,.int .i64 D] 48 true)).get N=some (.cells [.str g,.str l,.str p,.int .i64 D] 48 true):=by simp
 rw[Zab,A.k33 (by simp)]
 simp(disch:=first|(simp;done)|omega|rfl) [-getElem?_pos,A.b33,Zah,slc]
 generalize h.set N (.cells [.str g,.str l,.str p,.int .i64 D] 48 true)=HB at*
 refine Zaa (Ycf H.lg H.ll H.lp (by omega)) ?_
 rintro _ h1 n1 k1 rfl
 simp(disch:=first|(simp;done)|omega|rfl) [-getElem?_pos,]
 refine Zaa (Yxz ((hs.keep kB).keep k1) H.ld fun s hs=>by have:=H.fd s hs;omega) ?_
 rintro _ h2 n2 k2 rfl
 have hi:n2<n2+1:=by omega
 have k12:=k1.trans k2
 have kS:=k12.trans (kset (Keeps.refl (h:=h2) (n:=n2)) (.cells [.int .i64 (Zbj g l p D),.int .i64 (Ywg d)] 26 true))
 have kD:=kB.trans kS
 have le12:=k12.le
 have b1:=(kS.get N (by omega)).trans b0
 have lN:N<n2+1:=by omega
 simp(disch:=first|(simp;done)|omega|rfl) [-getElem?_pos,splice,Zam.chk,Zzo hi]
 generalize h2.set n2 (.cells [.int .i64 (Zbj g l p D),.int .i64 (Ywg d)] 26 true)=H2 at*
 by_cases c:Zau [Zbj g l p D,Ywg d]=0
 ·obtain⟨qg,ql,qp,n,r,rfl,rfl,rfl,rfl,hn,eg,el,ep,bg,bl,bp,er,ht,lr,br⟩:=H.go c
  rw[c,eg,el,ep,er,Int.toNat_natCast]
  have hvr:Sl h N v (tx r):=by rw[←ht];exact hs
  have hK:(3*40+3)*r.length+260*(r.length+1)+2≤5000:=by omega
  simp(disch:=first|(simp;done)|omega|rfl) [-getElem?_pos,c,Zak,b1,lN,Zah,slc]
  refine Zaa (Yws (k0:=260) (hvr.keep kD) (by omega) br (by decide)) ?_
  rintro v3 h3 n3 k3 hv3
  simp(disch:=first|(simp;done)|omega|rfl) [-getElem?_pos,]
  refine Zaa (Yw0 (K:=5000) hv3 bg bl bp br (by decide) hn (by omega) hK (by decide) (by decide)) ?_
  rintro _ h4 n4 k4 ⟨a,b,rfl,fa,fb⟩
  have rl:=@Ywi qg ql qp n r r.length
  have rq:=Ywn (D:=n) bg bl bp br (k:=r.length) (Yqg _)
  have ru:=Ywy (D:=n) bg bl bp br (k:=r.length) (Yqg _)
  have K4:=(kD.trans k3).trans k4
  simp(disch:=first|(simp;done)|omega|rfl) [-getElem?_pos,]
  refine Zaa (Yda (k:=5000) fa.1 (hP.keep K4) (by unfold Ywo;rw[rl.1];omega) (fun y hy=>(rq.2 y hy).mono hK) (by decide)) ?_
  rintro x5 h5 n5 k5 hx5
  have K5:=K4.trans k5
  rcases hx5 with⟨hb,rfl⟩|⟨hb,a5,rfl,ta⟩
  ·simp(disch:=first|(simp;done)|omega|rfl) [-getElem?_pos,]
   refine Zaa (Yda (k:=5000) (fb.keep k5).1 (hP.keep K5) (by unfold Yw5;rw[rl.2];omega) (fun y hy=>(ru y hy).mono hK) (by decide)) ?_
   rintro x6 h6 n6 k6 hx6
   have hi6:n6<n6+1:=by omega
   rcases hx6 with⟨hb2,rfl⟩|⟨hb2,b6,rfl,tb⟩
   ·simp(disch:=first|(simp;done)|omega|rfl) [-getElem?_pos,splice,Zam.chk,Zzo hi6,Zau,Zak,Ret]
    exact⟨(K5.trans k6).trans (kset Keeps.refl _),.inr ⟨rfl,.inl ⟨.inl hb,rfl⟩⟩⟩
   ·simp(disch:=first|(simp;done)|omega|rfl) [-getElem?_pos,splice,Zam.chk,Zzo hi6,Zau,Zak,Ret]
    exact⟨(K5.trans k6).trans (kset Keeps.refl _),.inr ⟨rfl,.inl ⟨.inl hb,rfl⟩⟩⟩
  ·simp(disch:=first|(simp;done)|omega|rfl) [-getElem?_pos,]
   refine Zaa (Yda (k:=5000) (fb.keep k5).1 (hP.keep K5) (by unfold Yw5;rw[rl.2];omega) (fun y hy=>(ru y hy).mono hK) (by decide)) ?_
   rintro x6 h6 n6 k6 hx6
   have hi6:n6<n6+1:=by omega
   rcases hx6 with⟨hb2,rfl⟩|⟨hb2,b6,rfl,tb⟩
   ·simp(disch:=first|(simp;done)|omega|rfl) [-getElem?_pos,splice,Zam.chk,Zzo hi6,Zau,Zak,Ret]
    exact⟨(K5.trans k6).trans (kset Keeps.refl _),.inr ⟨rfl,.inl ⟨.inr hb2,rfl⟩⟩⟩
   ·simp(disch:=first|(simp;done)|omega|rfl) [-getElem?_pos,splice,Zam.chk,Zzo hi6,Zau,Zak,Ret]
    have kL:=kset (Keeps.refl (h:=h6) (n:=n6)) (.cells [.int .i64 0,.int .i64 0] 26 true)
    exact⟨(K5.trans k6).trans kL,.inr ⟨rfl,.inr ⟨hb,hb2,a5,b6,rfl,(ta.keep k6).keep kL,tb.keep kL⟩⟩⟩
 ·simp(disch:=first|(simp;done)|omega|rfl) [-getElem?_pos,c,Zak,Ret]
  exact⟨kD,.inl ⟨c,rfl⟩⟩
def Yxh{h:T O}{N:Nat}{v:V}{p:Str}(hs:Sl h N v (strs d))(hP:P10 h N)(H:RnH g l p D d):Fn A.C 35 [.agg [.str g,.str l,.str p,.int .i64 D],v] h N (fun x _ _=>Ywe x (Zau [Zbj g l p D,Ywg d]) (sqQ (Ywo (ratS g) (ratS l) (ratS p) D.toNat (Ywv d)))):=by
 intro w
 have kB:Keeps h N (h.set N (.cells [.str g,.str l,.str p,.int .i64 D] 48 true)) (N+1):=Keeps.refl.new _
 have b0:(h.set N (.cells [.str g,.str l,.str p,.int .i64 D] 48 true)).get N=some (.cells [.str g,.str l,.str p,.int .i64 D] 48 true):=by simp
 rw[Zab,A.k35 (by simp)]
 simp(disch:=first|(simp;done)|omega|rfl) [-getElem?_pos,A.b35,Zah,slc]
 generalize h.set N (.cells [.str g,.str l,.str p,.int .i64 D] 48 true)=HB at*
 refine Zaa (Ycf H.lg H.ll H.lp (by omega)) ?_
 rintro _ h1 n1 k1 rfl
 simp(disch:=first|(simp;done)|omega|rfl) [-getElem?_pos,]
 refine Zaa (Yxz ((hs.keep kB).keep k1) H.ld fun s hs=>by have:=H.fd s hs;omega) ?_
 rintro _ h2 n2 k2 rfl
 have hi:n2<n2+1:=by omega
 have k12:=k1.trans k2
 have kS:=k12.trans (kset (Keeps.refl (h:=h2) (n:=n2)) (.cells [.int .i64 (Zbj g l p D),.int .i64 (Ywg d)] 26 true))
 have kD:=kB.trans kS
 have le12:=k12.le
 have b1:=(kS.get N (by omega)).trans b0
 have lN:N<n2+1:=by omega
 simp(disch:=first|(simp;done)|omega|rfl) [-getElem?_pos,splice,Zam.chk,Zzo hi]
 generalize h2.set n2 (.cells [.int .i64 (Zbj g l p D),.int .i64 (Ywg d)] 26 true)=H2 at*
 by_cases c:Zau [Zbj g l p D,Ywg d]=0
 ·obtain⟨qg,ql,qp,n,r,rfl,rfl,rfl,rfl,hn,eg,el,ep,bg,bl,bp,er,ht,lr,br⟩:=H.go c
  rw[c,eg,el,ep,er,Int.toNat_natCast]
  have hvr:Sl h N v (tx r):=by rw[←ht];exact hs
  have hK:(3*40+3)*r.length+260*(r.length+1)+2≤5000:=by omega
  simp(disch:=first|(simp;done)|omega|rfl) [-getElem?_pos,c,Zak,b1,lN,Zah,slc]
  refine Zaa (Yws (k0:=260) (hvr.keep kD) (by omega) br (by decide)) ?_
  rintro v3 h3 n3 k3 hv3
  simp(disch:=first|(simp;done)|omega|rfl) [-getElem?_pos,]
  refine Zaa (Yxv (K:=5000) hv3 bg bl bp br (by decide) hn (by omega) hK (by decide) (by decide)) ?_
  rintro _ h4 n4 k4 hx
  have rl:=@Ywi qg ql qp n r r.length
  have rq:=Ywn (D:=n) bg bl bp br (k:=r.length) (Yqg _)
  have K4:=(kD.trans k3).trans k4
  have bs:=Ywu (K:=5000) (l:=Ywo qg ql qp n r) (fun y hy=>(rq.2 y hy).mono hK) (Yqg _)
  have rl1:(Ywo qg ql qp n r).length=r.length:=rl.1
  have bs':Qb 200000 (sqQ (Ywo qg ql qp n r)):=bs.mono (by rw[rl1];have:=Yqz (5000+5000+1) lr;omega)
  simp(disch:=first|(simp;done)|omega|rfl) [-getElem?_pos,]
  refine Zaa (Zze hx (hP.keep K4) bs' (by decide)) ?_
  rintro _ h5 n5 k5 rfl
  by_cases hb:Zrn (sqQ (Ywo qg ql qp n r))=true
  ·rw[Yqi hb]
   simp(disch:=first|(simp;done)|omega|rfl) [-getElem?_pos,Ret]
   exact⟨K4.trans k5,.inr ⟨rfl,by rw[Yqi hb]⟩⟩
  ·rw[Yqe hb]
   simp(disch:=first|(simp;done)|omega|rfl) [-getElem?_pos,Ret]
   exact⟨K4.trans k5,.inr ⟨rfl,by rw[Yqe hb]⟩⟩
 ·simp(disch:=first|(simp;done)|omega|rfl) [-getElem?_pos,c,Zak,Ret]
  exact⟨kD,.inl ⟨c,rfl⟩⟩
def A.b60:=A.q Tryz.f60
def A.k60:=@A.kk 60 31 [.tmp 4] A.b60 (by kernel_rfl) rfl
def A.w10:=A.q Tryz.f10
def A.lb10_0:=A.ql A.w10 0 []
def A.b10:=(fun x0=>A.qb A.w10 [x0]) A.lb10_0
def A.k10:=@A.kk 10 25 [.tmp 6] A.b10 (by kernel_rfl) rfl
def Yyd(q:Rat)(d:Nat):Bool:=decide ((decN q.num.natAbs).length≤d)&&decide ((decN q.den).length≤d)
def Yw2(s:Str)(d:Nat):Bool:=decide (s.length≤2*d+2)&&(decide (chkNum s=0)&&Yyd (ratS s) d)
def Yxa(l:List Str)(n d:Nat):Bool:=decide (l.length≤n)&&l.all fun s=>Yw2 s d
def Ywx(q:Rat):(decI q.num).length≤(Zaq q).length:=by
 unfold Zaq
 split<;>simp
def Yyc{h:T O}{N d:Nat}{s:Str}(hd:d≤100):Fn A.C 60 [.str s,.int .i64 (d:Nat)] h N (fun u _ _=>u=.bool (Yw2 s d)):=by
 intro w
 rw[Zab,A.k60 (by simp)]
 by_cases c1:s.length≤2*d+2
 ·have c1':(s.length:Int)≤2*(d:Int)+2:=by omega
  simp(disch:=omega) [A.b60,c1']
  refine Zaa (Yvj (s:=s) (by omega)) ?_
  rintro _ h1 n1 k1 rfl
  by_cases c2:chkNum s=0
  ·have et:=(Zco c2).1
   obtain⟨q,hq⟩:∃q,ratS s=q:=⟨_,rfl⟩
   rw[hq]at et
   have hl:(Zaq q).length<1000000000:=by rw[et];omega
   have e1:=fun st=>Yij (q:=q) (st:=st) hl
   have e2:=fun st=>Yjy (q:=q) (st:=st) hl
   rw[et]at e1 e2
   have hln:(decI q.num).length<1000000000:=by
    have:=Ywx q
    rw[et]at this
    omega
   have e3:=fun st=>Ykf (z:=q.num) (st:=st) hln
   by_cases c3:(decN q.num.natAbs).length≤d
   ·have c3':((decN q.num.natAbs).length:Int)≤(d:Int):=by omega
    by_cases c4:(decN q.den).length≤d
    ·have c4':((decN q.den).length:Int)≤(d:Int):=by omega
     simp[c2,e1,e2,e3,c3',c4',Ret]
     exact⟨k1,by simp[Yw2,Yyd,c1,c2,hq,c3,c4]⟩
    ·have c4':¬((decN q.den).length:Int)≤(d:Int):=by omega
     simp[c2,e1,e2,e3,c3',c4',Ret]
     exact⟨k1,by simp[Yw2,Yyd,c1,c2,hq,c3,c4]⟩
   ·have c3':¬((decN q.num.natAbs).length:Int)≤(d:Int):=by omega
    simp[c2,e1,e3,c3',Ret]
    exact⟨k1,by simp[Yw2,Yyd,c1,c2,hq,c3]⟩
  ·have c2':¬((chkNum s:Nat):Int)=0:=by omega
   simp[c2,Ret]
   exact⟨k1,by simp[Yw2,c2]⟩
 ·have c1':¬(s.length:Int)≤2*(d:Int)+2:=by omega
  simp(disch:=omega) [A.b60,c1',Ret]
  exact⟨Keeps.refl,by simp[Yw2,c1]⟩
def Yx4{h:T O}{N d n:Nat}{v:V}{l:List Str}(hs:Sl h N v (strs l))(hl:l.length<9223372036854775808)(hd:d≤100)(hn:n≤1000):Fn A.C 10 [v,.int .i64 (n:Nat),.int .i64 (d:Nat)] h N (fun u _ _=>u=.bool (Yxa l n d)):=by
 intro w
 have hlen:=hs.len
 rw[Zt1]at hlen
 rw[Zab,A.k10 (by simp)]
 by_cases c0:l.length≤n
 ·have c0':¬(n:Int)<(l.length:Int):=by omega
  have e0:Yxa l n d=l.all fun s=>Yw2 s d:=by simp[Yxa,c0]
  rw[e0]
  simp[A.b10,hlen,c0']
  refine Zaj [(6,7),(12,24)] (fun e r st=>Zac N st.w=[]∧Keeps h N st.h st.n∧((e=.exit 0∧(l.all fun s=>Yw2 s d)=true)∨(e=.ret∧(l.all fun s=>Yw2 s d)=false∧r.get 6=some (.bool false)))) (fun m r st=>Zac N st.w=[]∧Keeps h N st.h st.n∧∃k,k+m=l.length∧r.get 7=some (.int .i64 k)∧(l.all fun s=>Yw2 s d)=((l.drop k).all fun s=>Yw2 s d)) l.length ?_ ?_ ?_
  ·exact⟨by simp,Keeps.refl,0,by omega,by simp,by simp⟩
  ·rintro m r ⟨H,n1,W⟩ hr hf ⟨hW,hK,k,hk,h7,hz⟩
   simp only at hW hK
   rw[Zai]
   cases m with
   |zero=>
    obtain rfl:k=l.length:=by omega
    rw[Ysx,List.all_nil]at hz
    simp[A.lb10_0,hr,hf,h7,hlen,hW,hK]
    simpa using hz
   |succ m=>
    have hlt:k<l.length:=by omega
    have hlt':(k:Int)<(l.length:Int):=by omega
    obtain⟨s,hsk⟩:=Zan hlt
    obtain⟨i,o,cc,e,rw,q1,q2,q3,q4⟩:=(hs.keep hK).at (Zt2 hsk)
    rw[Za2 hsk,List.all_cons]at hz
    simp[A.lb10_0,hr,h7,hlen,hlt',q1,q3,q4]
    refine Zaa (Yyc (s:=s) hd) ?_
    rintro _ h3 n3 k3 rfl
    have kk:=hK.trans k3
    cases hfs:Yw2 s d with
    |true=>
     rw[hfs,Bool.true_and]at hz
     simp(disch:=first|(simp;done)|omega|rfl) [hf,h7,hW]
     exact⟨m,by omega,kk,k+1,by omega,by simp,by simpa using hz⟩
    |false=>
     rw[hfs,Yye]at hz
     simp[hf,hW]
     exact⟨kk,by simpa using hz⟩
  ·rintro e r ⟨H,n1,W⟩ hr ⟨hW,hK,⟨rfl,hz⟩|⟨rfl,hz,h6⟩⟩
   ·simp only at hW hK
    simp[Ret,hW,hK]
    simpa using hz
   ·simp only at hW hK
    simp[h6,Ret,hW,hK]
    simpa using hz
 ·have c0':(n:Int)<(l.length:Int):=by omega
  simp[A.b10,hlen,c0',Ret]
  exact⟨Keeps.refl,by simp[Yxa,c0]⟩
variable {N n:Nat} {h:T O}
def A.b32:=A.q Tryz.f32
def A.k32:=@A.kk 32 31 [.tmp 6] A.b32 (by kernel_rfl) rfl
def A.b40:=A.q Tryz.f40
def A.k40:=@A.kk 40 11 [.tmp 2] A.b40 (by kernel_rfl) rfl
def A.w34:=A.q Tryz.f34
def A.lb34_0:=A.ql A.w34 0 []
def A.b34:=(fun x0=>A.qb A.w34 [x0]) A.lb34_0
def A.k34:=@A.kk 34 45 [.tmp 4,.tmp 5] A.b34 (by kernel_rfl) rfl
def Yx8:Fn A.C 93 [.int .i64 0] h N (fun x _ _=>x=.nilslice):=by
 intro w
 rw[Zab,A.k93 (by simp)]
 simp(disch:=first|(simp;done)|omega|rfl) [-getElem?_pos,A.b93]
 refine Zaj [(3,12)] (fun e r st=>e=.exit 0∧Zac N st.w=[]∧Keeps h N st.h st.n∧r.get 3=some .nilslice) (fun m r st=>m=0∧Zac N st.w=[]∧Keeps h N st.h st.n∧r.get 4=some (.int .i64 0)∧r.get 3=some .nilslice) 0 ?_ ?_ ?_
 ·exact⟨rfl,by simp,Keeps.refl,by simp,by simp⟩
 ·rintro m r ⟨H,n1,W⟩ hr hf ⟨rfl,hW,hK,h4,h3⟩
  simp only at hW hK
  rw[Zai]
  simp(disch:=first|(simp;done)|omega|rfl) [-getElem?_pos,A.lb93_0,hr,hf,h3,h4,hW,hK]
 ·rintro _ r ⟨H,n1,W⟩ hr ⟨rfl,hW,hK,h3⟩
  simp only at hW hK
  simp(disch:=first|(simp;done)|omega|rfl) [-getElem?_pos,hr,h3,Ret,hW,hK]
def Yxb{s:Str}(h:Yw2 s 12=true):chkNum s=0∧Qb 40 (ratS s):=by
 simp only[Yw2,Yyd,Yq1,decide_eq_true_eq]at h
 obtain⟨_,h1,h2,h3⟩:=h
 rw[Zis (by decide)]at h2 h3
 have e:(10:Nat)^12<2^40:=by decide
 exact⟨h1,by omega,by omega⟩
def Ywt{g l p:Str}{D:Int}{dd:Nat}(hg:g.length≤40)(hl:l.length≤40)(hp:p.length≤40)(hd:dd≤100)(hn:n≤1000):Fn A.C 32 [.agg [.str g,.str l,.str p,.int .i64 D],.int .i64 (dd:Nat),.int .i64 (n:Nat)] h N (fun u _ _=>u=.bool (decide (Zbj g l p D=0)&&(Yxa [g,l,p] 3 dd&&decide (D≤(n:Int))))):=by
 intro w
 have kB:Keeps h N (h.set N (.cells [.str g,.str l,.str p,.int .i64 D] 49 true)) (N+1):=Keeps.refl.new _
 have b0:(h.set N (.cells [.str g,.str l,.str p,.int .i64 D] 49 true)).get N=some (.cells [.str g,.str l,.str p,.int .i64 D] 49 true):=by simp
 rw[Zab,A.k32 (by simp)]
 simp(disch:=first|(simp;done)|omega|rfl) [-getElem?_pos,A.b32,Zah,slc]
 generalize h.set N (.cells [.str g,.str l,.str p,.int .i64 D] 49 true)=HB at*
 refine Zaa (Ydk (by omega) (by omega) (by omega)) ?_
 rintro _ h1 n1 k1 rfl
 have le1:=k1.le
 have b1:=(k1.get N (by omega)).trans b0
 have l1:N<n1:=by omega
 simp(disch:=first|(simp;done)|omega|rfl) [-getElem?_pos,hg,hl,hp,b1,l1,Zah,slc]
 refine Zaa (Yh6 (by omega) (by omega) (by omega)) ?_
 rintro _ h2 n2 k2 rfl
 have le2:=k2.le
 have b2:=(k2.get N (by omega)).trans b1
 have l2:N<n2:=by omega
 by_cases c:Zbj g l p D=0
 ·have kS:Keeps h2 n2 (h2.set n2 (.cells [.str g,.str l,.str p] 30 true)) (n2+1):=Keeps.refl.new _
  have sl3:Sl (h2.set n2 (.cells [.str g,.str l,.str p] 30 true)) (n2+1) (.slice n2 0 3 (some 3) 1) (strs [g,l,p]):=Sl.row (e:=30) (rw:=true) (cp:=some 3) (by omega) (by simp[strs]) rfl (by simp)
  have b3:=(kS.get N (by omega)).trans b2
  simp(disch:=first|(simp;done)|omega|rfl) [-getElem?_pos,c,Zak,b2,l2,splice]
  have fl:=Yx4 (d:=dd) (n:=3) sl3 (by simp) hd (by decide)
  refine Zaa fl ?_
  rintro _ h3 n3 k3 rfl
  have le3:=k3.le
  have b4:=(k3.get N (by omega)).trans b3
  have l3:N<n3:=by omega
  by_cases c2:Yxa [g,l,p] 3 dd=true
  ·simp(disch:=first|(simp;done)|omega|rfl) [-getElem?_pos,c2,b4,l3,Ret]
   exact((kB.trans k1).trans k2).trans (kS.trans k3)
  ·have c2':Yxa [g,l,p] 3 dd=false:=by simpa using c2
   simp(disch:=first|(simp;done)|omega|rfl) [-getElem?_pos,c2',b4,l3,Ret]
   exact((kB.trans k1).trans k2).trans (kS.trans k3)
 ·simp(disch:=first|(simp;done)|omega|rfl) [-getElem?_pos,c,Zak,Ret]
  exact(kB.trans k1).trans k2
def Ywp(n:Nat):List Rat:=(List.range n).map fun i=>if i=0 then 1 else 0
def Ywk{n:Nat}:(Ywp n).length=n:=by simp[Ywp]
def Yx1{j:Nat}(h:j<n):pg (Ywp n) j=if j=0 then 1 else 0:=by simp[pg,Ywp,h]
def Yw7{n:Nat}:∀y∈Ywp n,Qb 1 y:=fun y hy=>by
 obtain⟨j,_,rfl⟩:=Yts.1 hy
 split
 ·exact Qb.int (z:=1) (k:=1) (by decide) (by decide)
 ·exact Qb.int (z:=0) (k:=1) (by decide) (by decide)
def Yxg(hn:n≤64):Fn A.C 40 [.int .i64 n] h N (fun x h' n'=>Tx h' n' x (Ywp n)):=by
 intro w
 rw[Zab,A.k40 (by simp)]
 by_cases h0:0<n
 ·have h0':(0:Int)<(n:Int):=by omega
  simp(disch:=first|(simp;done)|omega|rfl) [-getElem?_pos,A.b40]
  refine Zaa (Zy8 h0 (by omega)) ?_
  rintro _ h1 n1 k1 ⟨R,rfl,hR,s1⟩
  obtain⟨x1,x2⟩:=s1.put (j:=0) (q:=1) (by simp;omega)
  rw[Ykr]at x1
  have r1:=s1.get
  have lR:=s1.lt
  have nRN:¬R<N:=by omega
  have h1':1≤n:=h0
  simp(disch:=first|(simp;done)|omega|rfl) [-getElem?_pos,h0,h0',r1,lR,Zal,x1,Zfc,h1',nRN,Ret]
  have e:((List.range n).map fun _=>(0:Rat)).set 0 1=Ywp n:=by
   apply Yq9
   intro i
   by_cases hi:i=0
   ·subst hi
    simp[Ywp,h0]
   ·rw[Yqj (by omega)]
    by_cases hin:i<n
    ·simp[Ywp,hin,hi]
    ·simp[Ywp,hin]
  rw[e]at x2 ⊢
  have fin:=x2.txt.1
  rw[Ywk]at fin
  exact⟨k1.set (by omega),fin⟩
 ·obtain rfl:n=0:=by omega
  simp(disch:=first|(simp;done)|omega|rfl) [-getElem?_pos,A.b40]
  refine Zaa Yx8 ?_
  rintro _ h1 n1 k1 rfl
  simp(disch:=first|(simp;done)|omega|rfl) [-getElem?_pos,Ret]
  exact⟨k1,by simpa[Ywp,Tx,tx,strs]using Sl.nil⟩
def Yx2{g l p:Str}{D z:Int}(hP:P10 h N)(lg:g.length≤40)(ll:l.length≤40)(lp:p.length≤40)(hq:Zbj g l p D=0→Qb 40 (ratS g)∧Qb 40 (ratS l)∧Qb 40 (ratS p))(hz:0≤z→z≤64→z≤12):Fn A.C 34 [.agg [.str g,.str l,.str p,.int .i64 D],.int .i64 z] h N (fun x h' n'=>Ywc h' n' x (Zau [Zbj g l p D,if z<0∨64<z then 3 else 0]) (Ywo (ratS g) (ratS l) (ratS p) D.toNat (Ywp z.toNat))):=by
 intro w
 have e0:zF=[V.int .i64 0,.nilslice,.int .i64 0,.nilslice]:=rfl
 have hcc:∀c:List V,(V.agg c).cells=c:=fun _=>rfl
 have kB:Keeps h N (h.set N (.cells [.str g,.str l,.str p,.int .i64 D] 48 true)) (N+1):=Keeps.refl.new _
 have b0:(h.set N (.cells [.str g,.str l,.str p,.int .i64 D] 48 true)).get N=some (.cells [.str g,.str l,.str p,.int .i64 D] 48 true):=by simp
 rw[Zab,A.k34 (by simp)]
 simp(disch:=first|(simp;done)|omega|rfl) [-getElem?_pos,A.b34,Zah,slc]
 generalize h.set N (.cells [.str g,.str l,.str p,.int .i64 D] 48 true)=HB at*
 refine Zaa (Ycf lg ll lp (by omega)) ?_
 rintro _ h2 n2 k2 rfl
 have hi:n2<n2+1:=by omega
 have kS:Keeps HB (N+1) (h2.set n2 (.cells [.int .i64 (Zbj g l p D),.int .i64 (if z<0∨64<z then 3 else 0)] 26 true)) (n2+1):=k2.trans (kset Keeps.refl _)
 have kD:=kB.trans kS
 have le2:=k2.le
 have b1:=(kS.get N (by omega)).trans b0
 have lN:N<n2+1:=by omega
 simp(disch:=first|(simp;done)|omega|rfl) [-getElem?_pos,Zpx,splice,Zam.chk,Zzo hi]
 generalize h2.set n2 (.cells [.int .i64 (Zbj g l p D),.int .i64 (if z<0∨64<z then 3 else 0)] 26 true)=H2 at*
 by_cases c:Zau [Zbj g l p D,if z<0∨64<z then 3 else 0]=0
 ·obtain⟨c1,c2⟩:=Zio c
  have hzr:0≤z∧z≤64:=by
   split at c2
   ·omega
   ·rename_i hc;omega
  obtain⟨n,rfl⟩:∃n:Nat,z=(n:Int):=⟨z.toNat,by omega⟩
  have hn12:n≤12:=by have:=hz hzr.1 hzr.2;omega
  obtain⟨cg,cl,cp,dn,rfl,dl,_⟩:=Yn9 c1
  obtain⟨bg,bl,bp⟩:=hq c1
  have eg:=(Zco cg).1
  have el:=(Zco cl).1
  have ep:=(Zco cp).1
  rw[c,Int.toNat_natCast,Int.toNat_natCast]
  simp(disch:=first|(simp;done)|omega|rfl) [-getElem?_pos,c,Zak]
  generalize ratS g=qg at*
  generalize ratS l=ql at*
  generalize ratS p=qp at*
  subst eg el ep
  refine Zaj [(7,8),(21,34)] (fun e r st=>e=.exit 0∧Zac N st.w=[]∧Keeps h N st.h st.n∧N<st.n∧st.h.get N=some (.cells [.str (Zaq qg),.str (Zaq ql),.str (Zaq qp),.int .i64 dn] 48 true)∧∃vu,r.get 7=some vu∧FrT st.h st.n vu (Ywp n)) (fun m r st=>Zac N st.w=[]∧Keeps h N st.h st.n∧N<st.n∧st.h.get N=some (.cells [.str (Zaq qg),.str (Zaq ql),.str (Zaq qp),.int .i64 dn] 48 true)∧∃t,t+m=n∧r.get 21=some (.int .i64 t)∧∃vu,r.get 7=some vu∧∃out:List (List V),Own 4 102 (N+1) st.h st.n vu out∧out.length=t∧(out=[]→vu=.nilslice)∧(∀c∈out,∀y∈c,NW y)∧∀j,j<t→∃c,out[j]?=some c∧FcC st.h st.n c (pg (Ywp n) j)) n ?_ ?_ ?_
  ·exact⟨by simp,kD,lN,b1,0,by omega,by simp,.nilslice,by simp,[],Own.nil,rfl,fun _=>rfl,by simp,fun j hj=>by omega⟩
  ·rintro m r ⟨H,n1,W⟩ hr hf ⟨hW,hK',hn1,m0,t,ht,h21,vu,h7,out,o1,o2,o3,o4,o5⟩
   simp only at hW hK' hn1 m0 o1 o5
   rw[Zai]
   cases m with
   |zero=>
    obtain rfl:t=n:=by omega
    have fu:FrT H n1 vu (Ywp t):=Ylg o1 (by rw[o2,Ywk]) fun j hj=>by
     rw[Ywk]at hj
     obtain⟨c,x1,x2⟩:=o5 j hj
     refine⟨c,x1,fun q hq=>?_⟩
     rw[Zce (by rw[Ywk];exact hj)]at hq
     simp only[Yqc]at hq
     rw[←hq];exact x2
    simp(disch:=first|(simp;done)|omega|rfl) [-getElem?_pos,A.lb34_0,hr,hf,h21,h7,hW,hK',hn1,m0]
    exact fu
   |succ m=>
    have hlt:t<n:=by omega
    have hlt':(t:Int)<(n:Int):=by omega
    have leK:=hK'.le
    have hru:=o1.lt
    have pgt:=Yx1 hlt
    have step:∀(zz:Int),FcC H n1 [] 0∨((zz:Int):Rat)=pg (Ywp n) t→True:=fun _ _=>trivial
    clear step
    by_cases t0:t=0
    ·have t0':(t:Int)=0:=by omega
     have n0:0<n:=by omega
     simp(disch:=first|(simp;done)|omega|rfl) [-getElem?_pos,A.lb34_0,hr,hf,h21,h7,hlt,hlt',t0,t0',n0,Zak]
     refine Zaa (Ybl (z:=1) (by decide) (by decide)) ?_
     rintro _ h3 n3 k3 hz3
     obtain⟨c3,rfl,f3⟩:=hz3.c
     obtain⟨g1,g2⟩:=f3.len
     have le3:=k3.le
     have e4:=Yuq (d:=zF) g1 rfl
     rw[e0]at e4
     have kN:Keeps h3 n3 (h3.set n3 (.cells c3 102 true)) (n3+1):=Keeps.refl.new _
     have k3N:=k3.trans kN
     have gN3:(h3.set n3 (.cells c3 102 true)).get n3=some (.cells c3 102 true):=by rw[T.get_set,Yqi rfl]
     obtain⟨vu',h4,w4,j1,j2,j3,j4,jD,j5⟩:=Zts (Y:=NW) (x:=c3) (u:=.slice n3 0 1 (some 1) 4) (bytes:=64) (w:=W) (o1.keep k3N) o3 o4 (by omega) (by decide) g1 (by simp only[Zbc,St.row,gN3,if_true];unfold slc;simp[g1];exact Yqp (by omega)) (by omega)
     have ow:Zac N w4=[]:=Zum j2 (by omega) hW
     simp(disch:=first|(simp;done)|omega|rfl) [-getElem?_pos, -Zac, -V.cells, -V.one,hr,hf,h21,h7,hcc,g1,g2,e4,j1]
     refine⟨m,by omega,ow,⟨by omega,fun i hi=>by rw[j4.get i (by omega) (fun hc=>by have:=hru _ hc;omega),k3N.get i (by omega),hK'.get i hi]⟩,by omega,by rw[j4.get N (by omega) (fun hc=>by have:=hru _ hc;omega),k3N.get N (by omega)];exact m0,t+1,by omega,by first|(simp;done)|omega|(simp;omega),out++[c3],j5,by simp[o2],by simp,fun c hc y hy=>?_,fun j hj=>?_⟩
     ·rcases Yry.1 hc with hc|hc
      ·exact o4 c hc y hy
      ·simp only[Ysf]at hc;subst hc;exact f3.noU y hy
     ·by_cases hjt:j<t
      ·obtain⟨c,x1,x2⟩:=o5 j hjt
       exact⟨c,by rw[Yrp (by omega)];exact x1,(x2.keep k3N).moved j4 jD⟩
      ·obtain rfl:j=t:=by omega
       refine⟨c3,by rw[Ytd (by omega),o2];simp,?_⟩
       rw[pgt,Yqi t0]
       exact(f3.keep kN).moved j4 jD
    ·have t0':¬(t:Int)=0:=by omega
     simp(disch:=first|(simp;done)|omega|rfl) [-getElem?_pos,A.lb34_0,hr,hf,h21,h7,hlt,hlt',t0,t0',Zak]
     refine Zaa (Ybl (z:=0) (by decide) (by decide)) ?_
     rintro _ h3 n3 k3 hz3
     obtain⟨c3,rfl,f3⟩:=hz3.c
     obtain⟨g1,g2⟩:=f3.len
     have le3:=k3.le
     have e4:=Yuq (d:=zF) g1 rfl
     rw[e0]at e4
     have kN:Keeps h3 n3 (h3.set n3 (.cells c3 102 true)) (n3+1):=Keeps.refl.new _
     have k3N:=k3.trans kN
     have gN3:(h3.set n3 (.cells c3 102 true)).get n3=some (.cells c3 102 true):=by rw[T.get_set,Yqi rfl]
     obtain⟨vu',h4,w4,j1,j2,j3,j4,jD,j5⟩:=Zts (Y:=NW) (x:=c3) (u:=.slice n3 0 1 (some 1) 4) (bytes:=64) (w:=W) (o1.keep k3N) o3 o4 (by omega) (by decide) g1 (by simp only[Zbc,St.row,gN3,if_true];unfold slc;simp[g1];exact Yqp (by omega)) (by omega)
     have ow:Zac N w4=[]:=Zum j2 (by omega) hW
     simp(disch:=first|(simp;done)|omega|rfl) [-getElem?_pos, -Zac, -V.cells, -V.one,hr,hf,h21,h7,hcc,g1,g2,e4,j1]
     refine⟨m,by omega,ow,⟨by omega,fun i hi=>by rw[j4.get i (by omega) (fun hc=>by have:=hru _ hc;omega),k3N.get i (by omega),hK'.get i hi]⟩,by omega,by rw[j4.get N (by omega) (fun hc=>by have:=hru _ hc;omega),k3N.get N (by omega)];exact m0,t+1,by omega,by first|(simp;done)|omega|(simp;omega),out++[c3],j5,by simp[o2],by simp,fun c hc y hy=>?_,fun j hj=>?_⟩
     ·rcases Yry.1 hc with hc|hc
      ·exact o4 c hc y hy
      ·simp only[Ysf]at hc;subst hc;exact f3.noU y hy
     ·by_cases hjt:j<t
      ·obtain⟨c,x1,x2⟩:=o5 j hjt
       exact⟨c,by rw[Yrp (by omega)];exact x1,(x2.keep k3N).moved j4 jD⟩
      ·obtain rfl:j=t:=by omega
       refine⟨c3,by rw[Ytd (by omega),o2];simp,?_⟩
       rw[pgt,Yqe t0]
       exact(f3.keep kN).moved j4 jD
  ·rintro _ r ⟨H,n1,W⟩ hr ⟨rfl,hW,hK',hn1,m0,vu,h7,fu⟩
   simp only at hW hK' hn1 m0 fu
   have pl:=@Ywk n
   have hK:(3*40+3)*(Ywp n).length+1*((Ywp n).length+1)+2≤5000:=by rw[pl];omega
   simp(disch:=first|(simp;done)|omega|rfl) [-getElem?_pos,hr,m0,hn1,h7,Zah,slc]
   refine Zaa (Yw0 (K:=5000) fu bg bl bp Yw7 (by decide) dl (by rw[pl];omega) hK (by decide) (by decide)) ?_
   rintro _ h4 n4 k4 ⟨a,b,rfl,fa,fb⟩
   have rl:=@Ywi qg ql qp dn (Ywp n) (Ywp n).length
   have rq:=Ywn (D:=dn) bg bl bp (@Yw7 n) (k:=(Ywp n).length) (Yqg _)
   have K4:=hK'.trans k4
   simp(disch:=first|(simp;done)|omega|rfl) [-getElem?_pos,]
   refine Zaa (Yda (k:=5000) fa.1 (hP.keep K4) (by unfold Ywo;rw[rl.1,pl];omega) (fun y hy=>(rq.2 y hy).mono hK) (by decide)) ?_
   rintro x5 h5 n5 k5 hx5
   rcases hx5 with⟨hb,rfl⟩|⟨hb,a5,rfl,ta⟩
   ·simp(disch:=first|(simp;done)|omega|rfl) [-getElem?_pos,hW,Ret]
    exact⟨K4.trans k5,.inr ⟨rfl,.inl ⟨hb,rfl⟩⟩⟩
   ·simp(disch:=first|(simp;done)|omega|rfl) [-getElem?_pos,hW,Ret]
    exact⟨K4.trans k5,.inr ⟨rfl,.inr ⟨hb,a5,rfl,ta⟩⟩⟩
 ·simp(disch:=first|(simp;done)|omega|rfl) [-getElem?_pos,c,Zak,Ret]
  exact⟨kD,.inl ⟨c,rfl⟩⟩
variable {N:Nat} {h:T O}
def Yxc{v:V}{l:List Str}(hs:Sl h N v (strs l))(hl:l.length<100000):Fn A.C 12 [v] h N (fun u h' n'=>Cw 1 30 N h' n' u ((strs l).map fun x=>[x])):=by
 intro w
 rw[Zab,A.k12 (by simp)]
 have k0:Keeps h N (h.set N (.cells [] 30 true)) (N+1):=Keeps.refl.new _
 have s1:Sn 1 (h.set N (.cells [] 30 true)) (N+1) v ((strs l).map fun x=>[x]):=Sn.one.2 (hs.keep k0)
 obtain⟨y,h',N',ap,kk,cw⟩:=Yvr (z:=1) (bytes:=16) (e:=30) (N0:=N) (i:=N) (w:=[]) (by decide) s1 (by simp) (by omega) (Yqg _) (by rw[T.get_set,Yqi rfl]) (by simp[strs];omega)
 simp(disch:=first|(simp;done)|omega|rfl) [-getElem?_pos,A.b12,ap,Ret]
 exact⟨k0.trans kk,cw⟩
def Yxw{N0:Nat}{w:List Nat}{y v:V}{l m:List (List V)}(s:Cw 1 30 N0 h N y l)(hv:Sn 1 h N v m)(h1:∀x∈m,x.length=1)(h0:N0≤N)(hl:l.length<1000)(hm:m.length<1000):
  ∃y' h' N' w',Zc7 ⟨h,N,w⟩ 1 16 30 y v=some (y',⟨h',N',w'⟩)∧Keeps h N0 h' N'∧Sn 1 h' N' y' (l++m)∧∀i∈w',i∈w∨N0≤i:=by
 obtain⟨hl1,hs⟩:=s
 have hfl:=Zb6 hl1
 have hfm:=Zb6 h1
 have hsrc:=Yve (w:=w) hv
 by_cases hm0:m.length=0
 ·have:m=[]:=Yqw hm0
  subst this
  refine⟨y,h,N,w,?_,⟨h0,fun i _=>rfl⟩,by rw[Ysm];exact Cw.sn ⟨hl1,hs⟩,fun i hi=>.inl hi⟩
  rcases hs with⟨rfl,i,rfl,_⟩|⟨i,rfl,_⟩<;>simp[Zc7,hsrc]
 ·have hne:¬m=[]:=fun hc=>hm0 (by rw[hc];rfl)
  rcases hs with⟨rfl,i,rfl,a1,a2,a3⟩|⟨i,rfl,a1,a2,a3⟩
  ·refine⟨.slice N 0 m.length none 1,h.set N (.cells m.flatten 30 true),N+1,w,?_,⟨by omega,fun i hi=>by rw[T.get_set,Yqe (by omega)]⟩,.inr ⟨N,0,none,m.flatten,30,true,by simp,by omega,by rw[T.get_set,Yqi rfl],fun j x hj=>by rw[Yst];exact Zf9 h1 (by simpa using hj),by rw[hfm];simp,fun k hk=>by cases hk⟩,fun i hi=>.inl hi⟩
   simp only[Zc7,hsrc,Zd5,St.row,a3,slc,St.alloc]
   simp[hne]
   omega
  ·refine⟨.slice N 0 (l.length+m.length) none 1,(h.set i .dead).set N (.cells (l.flatten++m.flatten) 30 true),N+1,i::w,?_,⟨by omega,fun j hj=>by rw[T.get_set,Yqe (by omega),T.get_set,Yqe (by omega)]⟩,.inr ⟨N,0,none,l.flatten++m.flatten,30,true,by simp,by omega,by rw[T.get_set,Yqi rfl],fun j x hj=>?_,by have:=hfl;have:=hfm;simp only[Yqr];omega,fun k hk=>by cases hk⟩,fun j hj=>?_⟩
   ·simp only[Zc7,hsrc,Zd5,St.row,a3]
    rw[Yqe hm0,Yqe (by rintro(h|h|h)<;>omega)]
    simp only[if_true]
    rw[Yqe (by rw[hfl];omega),Yqi ⟨by rw[hfl];omega,trivial,trivial⟩]
    rfl
   ·rw[Yst,←List.flatten_append]
    exact Zf9 (fun y hy=>by
     rcases Yry.1 hy with hy|hy
     ·exact hl1 y hy
     ·exact h1 y hy) hj
   ·rcases Yrd.1 hj with rfl|hj
    ·exact .inr a1
    ·exact .inl hj
def Yxn{a b:List Rat}:Zcy (a++b)=(Zcy a||Zcy b):=by simp[Zcy]
def Yx7.three{x:V}{E:Int}{es us:List Rat}(s:Yx7 h N x E es us):∃a b c,x=.tup [a,b,c]:=by
 rcases s with⟨_,h⟩|⟨_,⟨_,h⟩|⟨_,_,a,b,h,_⟩⟩<;>exact⟨_,_,_,h⟩
end
end Go.Mx
