/-number-/
import Derived.Test.YtgnadghjglamaaaGreatDoorPaD
set_option linter.all false
namespace Go.Mx
open Go Go.Proofs
variable {s:Str}
set_option maxHeartbeats 1000000
set_option maxRecDepth 1000000
noncomputable def A.w134:=A.q Tryz.f134
noncomputable def A.ta134_0:=A.qt A.w134 [] [] [1,1,1,1,1]
noncomputable def A.b134:=(fun y0=>A.qt A.w134 [] [([1,1,1,1,1],y0)] []) A.ta134_0
def A.k134:=@A.kk 134 76 [.tmp 2] A.b134 (by kernel_rfl) rfl
def Zrk{s:Str}(h:Zcs s=true):Zb7 s=true∧1≤s.length:=by
 cases s with
 |nil=>cases h
 |cons c s=>
  unfold Zcs at h
  rw[Ysd]at h
  exact⟨h.1,by simp⟩
def chkT(form br:Bool)(p d:Str):Nat:=if form=false then 1 else if 600<p.length∨600<d.length then 4 else if br=true∧Nat.gcd (numV p) (numV d)≠1 then 1 else 0
def Yfk{s:Str}(h:Zb7 s=true):negS s=false∧Zaq s=s:=by
 cases s with
 |nil=>exact⟨rfl,rfl⟩
 |cons c s=>
  have hc:Zko c=true:=by simp[Zb7]at h;exact h.1
  unfold Zko at hc
  simp only[decide_eq_true_eq]at hc
  have:negS (c::s)=false:=by simp[negS];omega
  refine⟨this,?_⟩
  unfold Zaq;rw[this];rfl
def Zu5{h:T O}{N:Nat}(hd:Zb7 s=true)(hl:s.length≤100000):Fn A.C 169 [.str s] h N (fun v h' n'=>In h' n' v (numV s:Nat)):=by
 obtain⟨h1,h2⟩:=Yfk hd
 have:=Yai (s:=s) (h:=h) (N:=N) (by rw[h2];exact hd) (by rw[h2];exact hl)
 rw[h1,h2]at this
 exact this
def Yk7{H:T O}{n:Nat}{r0:T V}{p d:Str}{form br:Bool}(hp:form=true→Zb7 p=true)(hd:form=true→br=true→Zb7 d=true)(lp:p.length≤100000)(ld:d.length≤100000)(a5:r0.get 5=some (.str p))(a6:r0.get 6=some (.str d))(a7:r0.get 7=some (.bool br))(a8:r0.get 8=some (.bool form)):
  Code A.C none A.ta134_0 ⟨r0,76,[]⟩ ⟨H,n,[]⟩ (fun e fr st=>e=.ret∧∃r,fr=⟨r,76,[]⟩∧r.get 2=some (.int .i64 (chkT form br p d:Nat))∧Zae n st.w=[]∧Keeps H n st.h st.n):=by
 rw[Zai]
 cases form with
 |false=>
  by_cases c1:600<p.length
  ·have c1':(600:Int)<(p.length:Int):=by omega
   simp(disch:=first|(simp;done)|omega|(simp only[Zab,Zaa,Yrr];omega)|rfl) [-getElem?_pos,A.ta134_0,a5,a6,a7,a8,Zd9,c1',splice,Zir,Zan,Zag,chkT]
   exact kset Keeps.refl _
  ·have c1':¬(600:Int)<(p.length:Int):=by omega
   by_cases c2:600<d.length
   ·have c2':(600:Int)<(d.length:Int):=by omega
    simp(disch:=first|(simp;done)|omega|(simp only[Zab,Zaa,Yrr];omega)|rfl) [-getElem?_pos,A.ta134_0,a5,a6,a7,a8,Zd9,c1',c2',splice,Zir,Zan,Zag,chkT]
    exact kset Keeps.refl _
   ·have c2':¬(600:Int)<(d.length:Int):=by omega
    simp(disch:=first|(simp;done)|omega|(simp only[Zab,Zaa,Yrr];omega)|rfl) [-getElem?_pos,A.ta134_0,a5,a6,a7,a8,Zd9,c1',c2',splice,Zir,Zan,Zag,chkT]
    exact kset Keeps.refl _
 |true=>
  by_cases c1:600<p.length
  ·have c1':(600:Int)<(p.length:Int):=by omega
   simp(disch:=first|(simp;done)|omega|(simp only[Zab,Zaa,Yrr];omega)|rfl) [-getElem?_pos,A.ta134_0,a5,a6,a7,a8,Zd9,c1,c1',splice,Zir,Zan,Zag,chkT]
   exact kset Keeps.refl _
  ·have c1':¬(600:Int)<(p.length:Int):=by omega
   by_cases c2:600<d.length
   ·have c2':(600:Int)<(d.length:Int):=by omega
    simp(disch:=first|(simp;done)|omega|(simp only[Zab,Zaa,Yrr];omega)|rfl) [-getElem?_pos,A.ta134_0,a5,a6,a7,a8,Zd9,c1,c2,c1',c2',splice,Zir,Zan,Zag,chkT]
    exact kset Keeps.refl _
   ·have c2':¬(600:Int)<(d.length:Int):=by omega
    have c3:¬(600<p.length∨600<d.length):=by omega
    cases br with
    |false=>
     simp(disch:=first|(simp;done)|omega|(simp only[Zab,Zaa,Yrr];omega)|rfl) [-getElem?_pos,A.ta134_0,a5,a6,a7,a8,Zd9,c1,c2,c1',c2',splice,Zir,Zan,Zag,chkT]
     exact kset Keeps.refl _
    |true=>
     have lwp:wl ((numV p:Nat):Int)≤100000:=Ytp (Ze7 (Zea (hp rfl))) lp
     have lwd:wl ((numV d:Nat):Int)≤100000:=Ytp (Ze7 (Zea (hd rfl rfl))) ld
     simp(disch:=first|(simp;done)|omega|(simp only[Zab,Zaa,Yrr];omega)|rfl) [-getElem?_pos,A.ta134_0,a5,a6,a7,a8,Zd9,c1,c2,c1',c2',splice,Zir,Zan,Zag]
     have kz:=kset (Keeps.refl (h:=H) (n:=n)) (.cells [.int .i64 0,.int .i64 0] 31 true)
     refine Zac (Zu5 (hp rfl) (by omega)) ?_
     rintro v3 h3 n3 k3 hv3
     simp(disch:=first|(simp;done)|omega|(simp only[Zab,Zaa,Yrr];omega)|rfl) [-getElem?_pos,a6]
     refine Zac (Zu5 (hd rfl rfl) (by omega)) ?_
     rintro v4 h4 n4 k4 hv4
     simp(disch:=first|(simp;done)|omega|(simp only[Zab,Zaa,Yrr];omega)|rfl) [-getElem?_pos,]
     refine Zac (Yhv (hv3.keep k4) hv4 (by omega) (by omega)) ?_
     rintro v5 h5 n5 k5 hv5
     simp(disch:=first|(simp;done)|omega|(simp only[Zab,Zaa,Yrr];omega)|rfl) [-getElem?_pos,]
     refine Zac Ztj ?_
     rintro _ h6 n6 k6 rfl
     simp(disch:=first|(simp;done)|omega|(simp only[Zab,Zaa,Yrr];omega)|rfl) [-getElem?_pos,]
     have hg:Int.gcd (numV p:Nat) (numV d:Nat)=Nat.gcd (numV p) (numV d):=rfl
     rw[hg]at hv5
     have lg:wl ((Nat.gcd (numV p) (numV d):Nat):Int)<100000000000:=by
      by_cases hz:numV p=0
      ·rw[hz,Nat.gcd_zero_left];omega
      ·have:=Zsj (a:=((Nat.gcd (numV p) (numV d):Nat):Int)) (b:=((numV p:Nat):Int)) (by
        have:=Nat.gcd_le_left (numV d) (show 0<numV p by omega)
        omega)
       omega
     have l1:wl (1:Int)<100000000000:=by decide+kernel
     refine Zac (Yh6 (hv5.keep k6) (In.small (z:=1) (by omega) (by omega)) lg l1) ?_
     rintro _ h7 n7 k7 rfl
     have kk:=((((kz.trans k3).trans k4).trans k5).trans k6).trans k7
     generalize hgg:Nat.gcd (numV p) (numV d)=g at*
     by_cases g1:g=1
     ·subst g1
      simp(disch:=first|(simp;done)|omega|(simp only[Zab,Zaa,Yrr];omega)|rfl) [-getElem?_pos,Zag,Zd9,chkT,c1,c2,sg3,hgg]
      exact kk
     ·have g2:¬sg3 ((g:Int)-1)=0:=by unfold sg3;split<;>(try split)<;>omega
      simp(disch:=first|(simp;done)|omega|(simp only[Zab,Zaa,Yrr];omega)|rfl) [-getElem?_pos,Zag,Zd9,chkT,c1,c2,g1,g2,hgg]
      exact kk
def Zwd(hl:s.length≤100000){h:T O}{N:Nat}:Fn A.C 134 [.str s] h N (fun v _ _=>v=.int .i64 (chkNum s:Nat)):=by
 intro w
 have hb:(Zaq s).length≤s.length:=by unfold Zaq;split<;>simp
 have hc:=fun st=>Yh4 (s:=Zaq s) (st:=st) (by omega)
 rw[Zaf,A.k134 (by simp)]
 show Run _ _ _ (Yed (Ret (fun v _ _=>v=.int .i64 (Yk8 (negS s) (Zaq s):Nat)) h N w))
 unfold Yk8
 have hle:=Zdc (Zaq s)
 have hp1:((Zaq s).take (slashAt (Zaq s))).length≤100000:=by simp;omega
 have hd1:((Zaq s).drop (slashAt (Zaq s)+1)).length≤100000:=by simp;omega
 simp(disch:=first|(simp;done)|omega|(simp only[Zab,Zaa,Yrr];omega)|rfl) [-getElem?_pos,A.b134,Zr1,hc]
 generalize negS s=neg at*
 generalize hbr:decide (slashAt (Zaq s)<(Zaq s).length)=br at*
 generalize hpe:(Zaq s).take (slashAt (Zaq s))=p at*
 generalize hde:(Zaq s).drop (slashAt (Zaq s)+1)=d at*
 clear hbr hpe hde hc
 have chk:Zkh neg p br d=chkT (Zcb neg p br d) br p d:=rfl
 rw[chk]
 have fin:∀(h1:T O) (n1:Nat) (r:T V) (form:Bool),Keeps h N h1 n1→form=Zcb neg p br d→r.get 5=some (.str p)→r.get 6=some (.str d)→r.get 7=some (.bool br)→r.get 8=some (.bool form)→Run A.C [.fin [.tmp 2] ⟨h,N,w⟩] (exR (A.C.code none A.ta134_0 ⟨r,76,[]⟩ ⟨h1,n1,[]⟩)) (Yed (Ret (fun v _ _=>v=.int .i64 (chkT (Zcb neg p br d) br p d:Nat)) h N w)):=by
  intro h1 n1 r form k1 hform a5 a6 a7 a8
  refine Za7 (Yk7 (form:=form) (br:=br) (p:=p) (d:=d) ?_ ?_ hp1 hd1 a5 a6 a7 a8) ?_
  ·intro hf
   rw[hform]at hf
   unfold Zcb at hf
   simp only[Ysd]at hf
   exact(Zrk hf.1.1).1
  ·intro hf hbt
   rw[hform]at hf
   unfold Zcb at hf
   rw[hbt]at hf
   simp only[Ysd,Bool.not_true,Bool.false_or]at hf
   exact(Zrk hf.2.1.1).1
  ·rintro e fr ⟨h2,n2,W2⟩ ⟨rfl,r2,rfl,hr2,hW,hK⟩
   simp only at hW hK
   have hW2:=Zfk k1.le hW
   simp(disch:=first|(simp;done)|omega|(simp only[Zab,Zaa,Yrr];omega)|rfl) [-getElem?_pos,hr2,Ret,hW2,hform]
   exact k1.trans hK
 refine Zac (Zg9 (by omega)) ?_
 rintro v h1 n1 k1 rfl
 have z0:Zcs [48]=true:=by decide
 by_cases hA:Zcs p=true
 ·have hB:(neg=true∧p=[48])∨(neg=false)∨(neg=true∧p≠[48]):=by
   cases neg
   ·exact .inr (.inl rfl)
   ·by_cases hq:p=[48]
    ·exact .inl ⟨rfl,hq⟩
    ·exact .inr (.inr ⟨rfl,hq⟩)
  rcases hB with⟨rfl,rfl⟩|rfl|⟨rfl,hpz⟩
  ·cases br
   ·simp(disch:=first|(simp;done)|omega|(simp only[Zab,Zaa,Yrr];omega)|rfl) [-getElem?_pos,Zag,z0]
    exact fin _ _ _ false k1 (by simp[Zcb]) (by simp) (by simp) (by simp) (by simp)
   ·simp(disch:=first|(simp;done)|omega|(simp only[Zab,Zaa,Yrr];omega)|rfl) [-getElem?_pos,Zag,z0]
    exact fin _ _ _ false k1 (by simp[Zcb]) (by simp) (by simp) (by simp) (by simp)
  ·cases br
   ·simp(disch:=first|(simp;done)|omega|(simp only[Zab,Zaa,Yrr];omega)|rfl) [-getElem?_pos,Zag,hA]
    exact fin _ _ _ true k1 (by simp[Zcb,hA]) (by simp) (by simp) (by simp) (by simp)
   ·simp(disch:=first|(simp;done)|omega|(simp only[Zab,Zaa,Yrr];omega)|rfl) [-getElem?_pos,Zag,hA]
    refine Zac (Zg9 (by omega)) ?_
    rintro v h2 n2 k2 rfl
    by_cases hD:Zcs d=true
    ·by_cases h48:d=[48]
     ·subst h48
      simp(disch:=first|(simp;done)|omega|(simp only[Zab,Zaa,Yrr];omega)|rfl) [-getElem?_pos,Zag,z0,hA]
      exact fin _ _ _ false (k1.trans k2) (by simp[Zcb]) (by simp) (by simp) (by simp) (by simp)
     ·have e8:(d==[48])=false:=by simp[h48]
      have e9:(d==[49])=decide (d=[49]):=by by_cases h:d=[49]<;>simp[h]
      simp(disch:=first|(simp;done)|omega|(simp only[Zab,Zaa,Yrr];omega)|rfl) [-getElem?_pos,Zag,hA,hD,e8,h48]
      exact fin _ _ _ (!(d==[49])) (k1.trans k2) (by simp[Zcb,hA,hD,h48,e9]) (by simp) (by simp) (by simp) (by simp)
    ·have hD:Zcs d=false:=by simpa using hD
     simp(disch:=first|(simp;done)|omega|(simp only[Zab,Zaa,Yrr];omega)|rfl) [-getElem?_pos,Zag,hA,hD]
     exact fin _ _ _ false (k1.trans k2) (by simp[Zcb,hD]) (by simp) (by simp) (by simp) (by simp)
  ·have e1:(p==[48])=false:=by simp[hpz]
   cases br
   ·simp(disch:=first|(simp;done)|omega|(simp only[Zab,Zaa,Yrr];omega)|rfl) [-getElem?_pos,Zag,hA,e1,hpz]
    exact fin _ _ _ true k1 (by simp[Zcb,hA,hpz]) (by simp) (by simp) (by simp) (by simp)
   ·simp(disch:=first|(simp;done)|omega|(simp only[Zab,Zaa,Yrr];omega)|rfl) [-getElem?_pos,Zag,hA,e1,hpz]
    refine Zac (Zg9 (by omega)) ?_
    rintro v h2 n2 k2 rfl
    by_cases hD:Zcs d=true
    ·by_cases h48:d=[48]
     ·subst h48
      simp(disch:=first|(simp;done)|omega|(simp only[Zab,Zaa,Yrr];omega)|rfl) [-getElem?_pos,Zag,z0,hA]
      exact fin _ _ _ false (k1.trans k2) (by simp[Zcb]) (by simp) (by simp) (by simp) (by simp)
     ·have e8:(d==[48])=false:=by simp[h48]
      have e9:(d==[49])=decide (d=[49]):=by by_cases h:d=[49]<;>simp[h]
      simp(disch:=first|(simp;done)|omega|(simp only[Zab,Zaa,Yrr];omega)|rfl) [-getElem?_pos,Zag,hA,hD,e8,h48]
      exact fin _ _ _ (!(d==[49])) (k1.trans k2) (by simp[Zcb,hA,hD,h48,hpz,e9]) (by simp) (by simp) (by simp) (by simp)
    ·have hD:Zcs d=false:=by simpa using hD
     simp(disch:=first|(simp;done)|omega|(simp only[Zab,Zaa,Yrr];omega)|rfl) [-getElem?_pos,Zag,hA,hD]
     exact fin _ _ _ false (k1.trans k2) (by simp[Zcb,hD]) (by simp) (by simp) (by simp) (by simp)
 ·have hA:Zcs p=false:=by simpa using hA
  cases br
  ·simp(disch:=first|(simp;done)|omega|(simp only[Zab,Zaa,Yrr];omega)|rfl) [-getElem?_pos,Zag,hA]
   exact fin _ _ _ false k1 (by simp[Zcb,hA]) (by simp) (by simp) (by simp) (by simp)
  ·simp(disch:=first|(simp;done)|omega|(simp only[Zab,Zaa,Yrr];omega)|rfl) [-getElem?_pos,Zag,hA]
   exact fin _ _ _ false k1 (by simp[Zcb,hA]) (by simp) (by simp) (by simp) (by simp)
end Go.Mx
