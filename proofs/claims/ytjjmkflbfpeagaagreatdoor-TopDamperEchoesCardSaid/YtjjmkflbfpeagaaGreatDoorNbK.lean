/-number-/
import Derived.Test.YtjjmkflbfpeagaaGreatDoorPaD
set_option linter.all false
namespace Go.Mx
open Go Go.Proofs
variable {s:aU}
set_option maxHeartbeats 1000000
set_option maxRecDepth 1000000
noncomputable def A.KN:=A.q Tryz.f115
noncomputable def A.dP:=A.qt A.KN [] [] [1,1,1,1,1]
noncomputable def A.b115:=(fun y0=>A.qt A.KN [] [([1,1,1,1,1],y0)] []) A.dP
def A.k115:=@A.kk 115 76 [.tmp 2] A.b115 (by kernel_rfl) rfl
def Zrs{s:aU}(h:g_ s=true):cF s=true/\1<=s.length:=by
 cases s with
 |nil=>cases h
 |cons c s=>
  unfold g_ at h
  rw[iS]at h
  exact⟨h.1,by simp⟩
def nc(form br:Bool)(p d:aU):Nat:=if form=false then 1 else if 600<p.length\/600<d.length then 4 else if br=true/\Nat.gcd (aD p) (aD d)≠1 then 1 else 0
def Yfv{s:aU}(h:cF s=true):bY s=false/\bj s=s:=by
 cases s with
 |nil=>exact⟨rfl,rfl⟩
 |cons c s=>
  have hc:jz c=true:=by simp[cF]at h;exact h.1
  unfold jz at hc
  simp only[decide_eq_true_eq]at hc
  have:bY (c::s)=false:=by simp[bY];omega
  refine⟨this,?_⟩
  unfold bj;rw[this];rfl
def Zvd{h:T O}{N:Nat}(hd:cF s=true)(hl:s.length<=100000):Fn A.C 126 [.str s] h N (fun v h' n'=>In h' n' v (aD s:Nat)):=by
 obtain⟨h1,h2⟩:=Yfv hd
 have:=Yav (s:=s) (h:=h) (N:=N) (by rw[h2];exact hd) (by rw[h2];exact hl)
 rw[h1,h2]at this
 exact this
def Yls{H:T O}{n:Nat}{r0:T V}{p d:aU}{form br:Bool}(hp:form=true->cF p=true)(hd:form=true->br=true->cF d=true)(lp:p.length<=100000)(ld:d.length<=100000)(a5:r0.get 5=some (.str p))(a6:r0.get 6=some (.str d))(a7:r0.get 7=some (.bool br))(a8:r0.get 8=some (.bool form)):
  Code A.C none A.dP ⟨r0,76,[]⟩ ⟨H,n,[]⟩ (fun e fr st=>e=.ret/\∃r,fr=⟨r,76,[]⟩/\r.get 2=some (.int .i64 (nc form br p d:Nat))/\aB n st.w=[]/\ad H n st.h st.n):=by
 rw[cm]
 cases form with
 |false=>
  by_cases c1:600<p.length
  ·have c1':(600:Int)<(p.length:Int):=by omega
   simp[A.dP,a5,a8,Bg,c1',ag,Fg,cN,nc]
   exact aG ad.refl _
  ·have c1':¬(600:Int)<(p.length:Int):=by omega
   by_cases c2:600<d.length
   ·have c2':(600:Int)<(d.length:Int):=by omega
    simp[A.dP,a5,a6,a8,Bg,c1',c2',ag,Fg,cN,nc]
    exact aG ad.refl _
   ·have c2':¬(600:Int)<(d.length:Int):=by omega
    simp[A.dP,a5,a6,a8,Bg,c1',c2',ag,Fg,cN,nc]
    exact aG ad.refl _
 |true=>
  by_cases c1:600<p.length
  ·have c1':(600:Int)<(p.length:Int):=by omega
   simp[A.dP,a5,a8,Bg,c1,c1',ag,Fg,cN,nc]
   exact aG ad.refl _
  ·have c1':¬(600:Int)<(p.length:Int):=by omega
   by_cases c2:600<d.length
   ·have c2':(600:Int)<(d.length:Int):=by omega
    simp[A.dP,a5,a6,a8,Bg,c1,c2,c1',c2',ag,Fg,cN,nc]
    exact aG ad.refl _
   ·have c2':¬(600:Int)<(d.length:Int):=by omega
    have c3:¬(600<p.length\/600<d.length):=by omega
    cases br with
    |false=>
     simp[A.dP,a5,a6,a7,a8,Bg,c1,c2,c1',c2',ag,Fg,cN,nc]
     exact aG ad.refl _
    |true=>
     have lwp:wl ((aD p:Nat):Int)<=100000:=qz (CG (zO (hp rfl))) lp
     have lwd:wl ((aD d:Nat):Int)<=100000:=qz (CG (zO (hd rfl rfl))) ld
     simp[A.dP,a5,a6,a7,a8,Bg,c1',c2',ag,Fg,cN]
     have kz:=aG (ad.refl (h:=H) (n:=n)) (.cells [.int .i64 0,.int .i64 0] 29 true)
     refine au (Zvd (hp rfl) (by omega)) ?_
     rintro v3 h3 n3 k3 Ga
     simp[a6]
     refine au (Zvd (hd rfl rfl) (by omega)) ?_
     rintro v4 h4 n4 k4 CU
     simp[]
     refine au (Yh7 (Ga.ae k4) CU (by omega) (by omega)) ?_
     rintro v5 h5 n5 k5 MB
     simp[]
     refine au EO ?_
     rintro _ h6 n6 k6 rfl
     simp[]
     have hg:Int.gcd (aD p:Nat) (aD d:Nat)=Nat.gcd (aD p) (aD d):=rfl
     rw[hg]at MB
     have lg:wl ((Nat.gcd (aD p) (aD d):Nat):Int)<100000000000:=by
      by_cases hz:aD p=0
      ·rw[hz,Nat.gcd_zero_left];omega
      ·have:=Hn (a:=((Nat.gcd (aD p) (aD d):Nat):Int)) (b:=((aD p:Nat):Int)) (by
        have:=Nat.gcd_le_left (aD d) (show 0<aD p by omega)
        omega)
       omega
     have l1:wl (1:Int)<100000000000:=by decide+kernel
     refine au (Yih (MB.ae k6) (In.small (z:=1) (by omega) (by omega)) lg l1) ?_
     rintro _ h7 n7 k7 rfl
     have kk:=((((kz.trans k3).trans k4).trans k5).trans k6).trans k7
     generalize hgg:Nat.gcd (aD p) (aD d)=g at*
     by_cases g1:g=1
     ·subst g1
      simp[Bg,nc,c1,c2,cY,hgg]
      exact kk
     ·have g2:¬cY ((g:Int)-1)=0:=by unfold cY;split<;>(try split)<;>omega
      simp[Bg,nc,c1,c2,g1,g2,hgg]
      exact kk
def Qx(hl:s.length<=100000){h:T O}{N:Nat}:Fn A.C 115 [.str s] h N (fun v _ _=>v=.int .i64 (aN s:Nat)):=by
 intro w
 have hb:(bj s).length<=s.length:=by unfold bj;split<;>simp
 have hc:=fun st=>Yig (s:=bj s) (st:=st) (by omega)
 rw[aQ,A.k115 (by simp)]
 show bD _ _ _ (AU (aA (fun v _ _=>v=.int .i64 (Ep (bY s) (bj s):Nat)) h N w))
 unfold Ep
 have hle:=Ci (bj s)
 have yv:((bj s).take (ah (bj s))).length<=100000:=by simp;omega
 have qo:((bj s).drop (ah (bj s)+1)).length<=100000:=by simp;omega
 simp[A.b115,Zsb,hc]
 generalize bY s=neg at*
 generalize nS:decide (ah (bj s)<(bj s).length)=br at*
 generalize JW:(bj s).take (ah (bj s))=p at*
 generalize zU:(bj s).drop (ah (bj s)+1)=d at*
 clear nS JW zU hc
 have cG:jh neg p br d=nc (fD neg p br d) br p d:=rfl
 rw[cG]
 have fin:∀(h1:T O) (n1:Nat) (r:T V) (form:Bool),ad h N h1 n1->form=fD neg p br d->r.get 5=some (.str p)->r.get 6=some (.str d)->r.get 7=some (.bool br)->r.get 8=some (.bool form)->bD A.C [.fin [.tmp 2] ⟨h,N,w⟩] (eR (A.C.code none A.dP ⟨r,76,[]⟩ ⟨h1,n1,[]⟩)) (AU (aA (fun v _ _=>v=.int .i64 (nc (fD neg p br d) br p d:Nat)) h N w)):=by
  intro h1 n1 r form k1 dv a5 a6 a7 a8
  refine nP (Yls (form:=form) (br:=br) (p:=p) (d:=d) ?_ ?_ yv qo a5 a6 a7 a8) ?_
  ·intro hf
   rw[dv]at hf
   unfold fD at hf
   simp only[iS]at hf
   exact(Zrs hf.1.1).1
  ·intro hf nC
   rw[dv]at hf
   unfold fD at hf
   rw[nC]at hf
   simp only[iS,Bool.not_true,Bool.false_or]at hf
   exact(Zrs hf.2.1.1).1
  ·rintro e fr ⟨h2,n2,W2⟩ ⟨rfl,r2,rfl,dW,hW,hK⟩
   simp only at hW hK
   have ft:=Hi k1.le hW
   simp[dW,aA,ft,dv]
   exact k1.trans hK
 refine au (UT (by omega)) ?_
 rintro v h1 n1 k1 rfl
 have z0:g_ [48]=true:=by decide
 by_cases hA:g_ p=true
 ·have hB:(neg=true/\p=[48])\/(neg=false)\/(neg=true/\p≠[48]):=by
   cases neg
   ·exact .inr (.inl rfl)
   ·by_cases hq:p=[48]
    ·exact .inl ⟨rfl,hq⟩
    ·exact .inr (.inr ⟨rfl,hq⟩)
  rcases hB with⟨rfl,rfl⟩|rfl|⟨rfl,Er⟩
  ·cases br
   ·simp[z0]
    exact fin _ _ _ false k1 (by simp[fD]) (by simp) (by simp) (by simp) (by simp)
   ·simp[z0]
    exact fin _ _ _ false k1 (by simp[fD]) (by simp) (by simp) (by simp) (by simp)
  ·cases br
   ·simp[hA]
    exact fin _ _ _ true k1 (by simp[fD,hA]) (by simp) (by simp) (by simp) (by simp)
   ·simp[hA]
    refine au (UT (by omega)) ?_
    rintro v h2 n2 k2 rfl
    by_cases hD:g_ d=true
    ·by_cases h48:d=[48]
     ·subst h48
      simp[z0]
      exact fin _ _ _ false (k1.trans k2) (by simp[fD]) (by simp) (by simp) (by simp) (by simp)
     ·have e8:(d==[48])=false:=by simp[h48]
      have e9:(d==[49])=decide (d=[49]):=by by_cases h:d=[49]<;>simp[h]
      simp[hD,e8]
      exact fin _ _ _ (!(d==[49])) (k1.trans k2) (by simp[fD,hA,hD,h48,e9]) (by simp) (by simp) (by simp) (by simp)
    ·have hD:g_ d=false:=by simpa using hD
     simp[hD]
     exact fin _ _ _ false (k1.trans k2) (by simp[fD,hD]) (by simp) (by simp) (by simp) (by simp)
  ·have e1:(p==[48])=false:=by simp[Er]
   cases br
   ·simp[hA,e1]
    exact fin _ _ _ true k1 (by simp[fD,hA,Er]) (by simp) (by simp) (by simp) (by simp)
   ·simp[hA,e1]
    refine au (UT (by omega)) ?_
    rintro v h2 n2 k2 rfl
    by_cases hD:g_ d=true
    ·by_cases h48:d=[48]
     ·subst h48
      simp[z0]
      exact fin _ _ _ false (k1.trans k2) (by simp[fD]) (by simp) (by simp) (by simp) (by simp)
     ·have e8:(d==[48])=false:=by simp[h48]
      have e9:(d==[49])=decide (d=[49]):=by by_cases h:d=[49]<;>simp[h]
      simp[hD,e8]
      exact fin _ _ _ (!(d==[49])) (k1.trans k2) (by simp[fD,hA,hD,h48,Er,e9]) (by simp) (by simp) (by simp) (by simp)
    ·have hD:g_ d=false:=by simpa using hD
     simp[hD]
     exact fin _ _ _ false (k1.trans k2) (by simp[fD,hD]) (by simp) (by simp) (by simp) (by simp)
 ·have hA:g_ p=false:=by simpa using hA
  cases br
  ·simp[hA]
   exact fin _ _ _ false k1 (by simp[fD,hA]) (by simp) (by simp) (by simp) (by simp)
  ·simp[hA]
   exact fin _ _ _ false k1 (by simp[fD,hA]) (by simp) (by simp) (by simp) (by simp)
end Go.Mx
