/-number-/
import Derived.Test.YtgnadghjglamaaaGreatDoorPaD
set_option linter.all false
namespace Go.Mx
open Go Go.Proofs
variable {s:aU}
set_option maxHeartbeats 1000000
set_option maxRecDepth 1000000
noncomputable def A.Qq:=A.q Tryz.f134
noncomputable def A.zgl:=A.qt A.Qq [] [] [1,1,1,1,1]
noncomputable def A.b134:=(fun y0=>A.qt A.Qq [] [([1,1,1,1,1],y0)] []) A.zgl
def A.k134:=@A.kk 134 76 [.tmp 2] A.b134 (by kernel_rfl) rfl
def Zrk{s:aU}(h:ja s=true):cN s=true/\1<=s.length:=by
 cases s with
 |nil=>cases h
 |cons c s=>
  unfold ja at h
  rw[ji]at h
  exact⟨h.1,by simp⟩
def oH(form br:Bool)(p d:aU):Nat:=if form=false then 1 else if 600<p.length\/600<d.length then 4 else if br=true/\Nat.gcd (aK p) (aK d)≠1 then 1 else 0
def Yfk{s:aU}(h:cN s=true):cP s=false/\bu s=s:=by
 cases s with
 |nil=>exact⟨rfl,rfl⟩
 |cons c s=>
  have hc:kh c=true:=by simp[cN]at h;exact h.1
  unfold kh at hc
  simp only[decide_eq_true_eq]at hc
  have:cP (c::s)=false:=by simp[cP];omega
  refine⟨this,?_⟩
  unfold bu;rw[this];rfl
def Zu5{h:T O}{N:Nat}(hd:cN s=true)(hl:s.length<=100000):Fn A.C 169 [.str s] h N (fun v h' n'=>In h' n' v (aK s:Nat)):=by
 obtain⟨h1,h2⟩:=Yfk hd
 have:=Yai (s:=s) (h:=h) (N:=N) (by rw[h2];exact hd) (by rw[h2];exact hl)
 rw[h1,h2]at this
 exact this
def Yk7{H:T O}{n:Nat}{r0:T V}{p d:aU}{form br:Bool}(hp:form=true->cN p=true)(hd:form=true->br=true->cN d=true)(lp:p.length<=100000)(ld:d.length<=100000)(a5:r0.get 5=some (.str p))(a6:r0.get 6=some (.str d))(a7:r0.get 7=some (.bool br))(a8:r0.get 8=some (.bool form)):
  Code A.C none A.zgl ⟨r0,76,[]⟩ ⟨H,n,[]⟩ (fun e fr st=>e=.ret/\∃r,fr=⟨r,76,[]⟩/\r.get 2=some (.int .i64 (oH form br p d:Nat))/\aD n st.w=[]/\ae H n st.h st.n):=by
 rw[dk]
 cases form with
 |false=>
  by_cases c1:600<p.length
  ·have c1':(600:Int)<(p.length:Int):=by omega
   simp(disch:=first|(simp;done)|omega|(simp only[Zab,aq,ak];omega)|rfl) [-getElem?_pos,A.zgl,a5,a6,a7,a8,BA,c1',ag,Kd,cY,aL,oH]
   exact aI ae.refl _
  ·have c1':¬(600:Int)<(p.length:Int):=by omega
   by_cases c2:600<d.length
   ·have c2':(600:Int)<(d.length:Int):=by omega
    simp(disch:=first|(simp;done)|omega|(simp only[Zab,aq,ak];omega)|rfl) [-getElem?_pos,A.zgl,a5,a6,a7,a8,BA,c1',c2',ag,Kd,cY,aL,oH]
    exact aI ae.refl _
   ·have c2':¬(600:Int)<(d.length:Int):=by omega
    simp(disch:=first|(simp;done)|omega|(simp only[Zab,aq,ak];omega)|rfl) [-getElem?_pos,A.zgl,a5,a6,a7,a8,BA,c1',c2',ag,Kd,cY,aL,oH]
    exact aI ae.refl _
 |true=>
  by_cases c1:600<p.length
  ·have c1':(600:Int)<(p.length:Int):=by omega
   simp(disch:=first|(simp;done)|omega|(simp only[Zab,aq,ak];omega)|rfl) [-getElem?_pos,A.zgl,a5,a6,a7,a8,BA,c1,c1',ag,Kd,cY,aL,oH]
   exact aI ae.refl _
  ·have c1':¬(600:Int)<(p.length:Int):=by omega
   by_cases c2:600<d.length
   ·have c2':(600:Int)<(d.length:Int):=by omega
    simp(disch:=first|(simp;done)|omega|(simp only[Zab,aq,ak];omega)|rfl) [-getElem?_pos,A.zgl,a5,a6,a7,a8,BA,c1,c2,c1',c2',ag,Kd,cY,aL,oH]
    exact aI ae.refl _
   ·have c2':¬(600:Int)<(d.length:Int):=by omega
    have c3:¬(600<p.length\/600<d.length):=by omega
    cases br with
    |false=>
     simp(disch:=first|(simp;done)|omega|(simp only[Zab,aq,ak];omega)|rfl) [-getElem?_pos,A.zgl,a5,a6,a7,a8,BA,c1,c2,c1',c2',ag,Kd,cY,aL,oH]
     exact aI ae.refl _
    |true=>
     have lwp:wl ((aK p:Nat):Int)<=100000:=sF (Iv (Bt (hp rfl))) lp
     have lwd:wl ((aK d:Nat):Int)<=100000:=sF (Iv (Bt (hd rfl rfl))) ld
     simp(disch:=first|(simp;done)|omega|(simp only[Zab,aq,ak];omega)|rfl) [-getElem?_pos,A.zgl,a5,a6,a7,a8,BA,c1,c2,c1',c2',ag,Kd,cY,aL]
     have kz:=aI (ae.refl (h:=H) (n:=n)) (.cells [.int .i64 0,.int .i64 0] 31 true)
     refine az (Zu5 (hp rfl) (by omega)) ?_
     rintro v3 h3 n3 k3 BS
     simp(disch:=first|(simp;done)|omega|(simp only[Zab,aq,ak];omega)|rfl) [-getElem?_pos,a6]
     refine az (Zu5 (hd rfl rfl) (by omega)) ?_
     rintro v4 h4 n4 k4 Ke
     simp(disch:=first|(simp;done)|omega|(simp only[Zab,aq,ak];omega)|rfl) [-getElem?_pos,]
     refine az (Yhv (BS.ah k4) Ke (by omega) (by omega)) ?_
     rintro v5 h5 n5 k5 T3
     simp(disch:=first|(simp;done)|omega|(simp only[Zab,aq,ak];omega)|rfl) [-getElem?_pos,]
     refine az JX ?_
     rintro _ h6 n6 k6 rfl
     simp(disch:=first|(simp;done)|omega|(simp only[Zab,aq,ak];omega)|rfl) [-getElem?_pos,]
     have hg:Int.gcd (aK p:Nat) (aK d:Nat)=Nat.gcd (aK p) (aK d):=rfl
     rw[hg]at T3
     have lg:wl ((Nat.gcd (aK p) (aK d):Nat):Int)<100000000000:=by
      by_cases hz:aK p=0
      ·rw[hz,Nat.gcd_zero_left];omega
      ·have:=J8 (a:=((Nat.gcd (aK p) (aK d):Nat):Int)) (b:=((aK p:Nat):Int)) (by
        have:=Nat.gcd_le_left (aK d) (show 0<aK p by omega)
        omega)
       omega
     have l1:wl (1:Int)<100000000000:=by decide+kernel
     refine az (Yh6 (T3.ah k6) (In.small (z:=1) (by omega) (by omega)) lg l1) ?_
     rintro _ h7 n7 k7 rfl
     have kk:=((((kz.trans k3).trans k4).trans k5).trans k6).trans k7
     generalize hgg:Nat.gcd (aK p) (aK d)=g at*
     by_cases g1:g=1
     ·subst g1
      simp(disch:=first|(simp;done)|omega|(simp only[Zab,aq,ak];omega)|rfl) [-getElem?_pos,aL,BA,oH,c1,c2,df,hgg]
      exact kk
     ·have g2:¬df ((g:Int)-1)=0:=by unfold df;split<;>(try split)<;>omega
      simp(disch:=first|(simp;done)|omega|(simp only[Zab,aq,ak];omega)|rfl) [-getElem?_pos,aL,BA,oH,c1,c2,g1,g2,hgg]
      exact kk
def Zwd(hl:s.length<=100000){h:T O}{N:Nat}:Fn A.C 134 [.str s] h N (fun v _ _=>v=.int .i64 (aY s:Nat)):=by
 intro w
 have hb:(bu s).length<=s.length:=by unfold bu;split<;>simp
 have hc:=fun st=>Yh4 (s:=bu s) (st:=st) (by omega)
 rw[aV,A.k134 (by simp)]
 show bH _ _ _ (Co (aF (fun v _ _=>v=.int .i64 (Mi (cP s) (bu s):Nat)) h N w))
 unfold Mi
 have hle:=BQ (bu s)
 have wW:((bu s).take (ai (bu s))).length<=100000:=by simp;omega
 have sA:((bu s).drop (ai (bu s)+1)).length<=100000:=by simp;omega
 simp(disch:=first|(simp;done)|omega|(simp only[Zab,aq,ak];omega)|rfl) [-getElem?_pos,A.b134,Zr1,hc]
 generalize cP s=neg at*
 generalize px:decide (ai (bu s)<(bu s).length)=br at*
 generalize Pw:(bu s).take (ai (bu s))=p at*
 generalize BB:(bu s).drop (ai (bu s)+1)=d at*
 clear px Pw BB hc
 have bZ:kj neg p br d=oH (gH neg p br d) br p d:=rfl
 rw[bZ]
 have fin:∀(h1:T O) (n1:Nat) (r:T V) (form:Bool),ae h N h1 n1->form=gH neg p br d->r.get 5=some (.str p)->r.get 6=some (.str d)->r.get 7=some (.bool br)->r.get 8=some (.bool form)->bH A.C [.fin [.tmp 2] ⟨h,N,w⟩] (fx (A.C.code none A.zgl ⟨r,76,[]⟩ ⟨h1,n1,[]⟩)) (Co (aF (fun v _ _=>v=.int .i64 (oH (gH neg p br d) br p d:Nat)) h N w)):=by
  intro h1 n1 r form k1 dM a5 a6 a7 a8
  refine mJ (Yk7 (form:=form) (br:=br) (p:=p) (d:=d) ?_ ?_ wW sA a5 a6 a7 a8) ?_
  ·intro hf
   rw[dM]at hf
   unfold gH at hf
   simp only[ji]at hf
   exact(Zrk hf.1.1).1
  ·intro hf oX
   rw[dM]at hf
   unfold gH at hf
   rw[oX]at hf
   simp only[ji,Bool.not_true,Bool.false_or]at hf
   exact(Zrk hf.2.1.1).1
  ·rintro e fr ⟨h2,n2,W2⟩ ⟨rfl,r2,rfl,bK,hW,hK⟩
   simp only at hW hK
   have f_:=Mw k1.le hW
   simp(disch:=first|(simp;done)|omega|(simp only[Zab,aq,ak];omega)|rfl) [-getElem?_pos,bK,aF,f_,dM]
   exact k1.trans hK
 refine az (Zg9 (by omega)) ?_
 rintro v h1 n1 k1 rfl
 have z0:ja [48]=true:=by decide
 by_cases hA:ja p=true
 ·have hB:(neg=true/\p=[48])\/(neg=false)\/(neg=true/\p≠[48]):=by
   cases neg
   ·exact .inr (.inl rfl)
   ·by_cases hq:p=[48]
    ·exact .inl ⟨rfl,hq⟩
    ·exact .inr (.inr ⟨rfl,hq⟩)
  rcases hB with⟨rfl,rfl⟩|rfl|⟨rfl,CB⟩
  ·cases br
   ·simp(disch:=first|(simp;done)|omega|(simp only[Zab,aq,ak];omega)|rfl) [-getElem?_pos,aL,z0]
    exact fin _ _ _ false k1 (by simp[gH]) (by simp) (by simp) (by simp) (by simp)
   ·simp(disch:=first|(simp;done)|omega|(simp only[Zab,aq,ak];omega)|rfl) [-getElem?_pos,aL,z0]
    exact fin _ _ _ false k1 (by simp[gH]) (by simp) (by simp) (by simp) (by simp)
  ·cases br
   ·simp(disch:=first|(simp;done)|omega|(simp only[Zab,aq,ak];omega)|rfl) [-getElem?_pos,aL,hA]
    exact fin _ _ _ true k1 (by simp[gH,hA]) (by simp) (by simp) (by simp) (by simp)
   ·simp(disch:=first|(simp;done)|omega|(simp only[Zab,aq,ak];omega)|rfl) [-getElem?_pos,aL,hA]
    refine az (Zg9 (by omega)) ?_
    rintro v h2 n2 k2 rfl
    by_cases hD:ja d=true
    ·by_cases h48:d=[48]
     ·subst h48
      simp(disch:=first|(simp;done)|omega|(simp only[Zab,aq,ak];omega)|rfl) [-getElem?_pos,aL,z0,hA]
      exact fin _ _ _ false (k1.trans k2) (by simp[gH]) (by simp) (by simp) (by simp) (by simp)
     ·have e8:(d==[48])=false:=by simp[h48]
      have e9:(d==[49])=decide (d=[49]):=by by_cases h:d=[49]<;>simp[h]
      simp(disch:=first|(simp;done)|omega|(simp only[Zab,aq,ak];omega)|rfl) [-getElem?_pos,aL,hA,hD,e8,h48]
      exact fin _ _ _ (!(d==[49])) (k1.trans k2) (by simp[gH,hA,hD,h48,e9]) (by simp) (by simp) (by simp) (by simp)
    ·have hD:ja d=false:=by simpa using hD
     simp(disch:=first|(simp;done)|omega|(simp only[Zab,aq,ak];omega)|rfl) [-getElem?_pos,aL,hA,hD]
     exact fin _ _ _ false (k1.trans k2) (by simp[gH,hD]) (by simp) (by simp) (by simp) (by simp)
  ·have e1:(p==[48])=false:=by simp[CB]
   cases br
   ·simp(disch:=first|(simp;done)|omega|(simp only[Zab,aq,ak];omega)|rfl) [-getElem?_pos,aL,hA,e1,CB]
    exact fin _ _ _ true k1 (by simp[gH,hA,CB]) (by simp) (by simp) (by simp) (by simp)
   ·simp(disch:=first|(simp;done)|omega|(simp only[Zab,aq,ak];omega)|rfl) [-getElem?_pos,aL,hA,e1,CB]
    refine az (Zg9 (by omega)) ?_
    rintro v h2 n2 k2 rfl
    by_cases hD:ja d=true
    ·by_cases h48:d=[48]
     ·subst h48
      simp(disch:=first|(simp;done)|omega|(simp only[Zab,aq,ak];omega)|rfl) [-getElem?_pos,aL,z0,hA]
      exact fin _ _ _ false (k1.trans k2) (by simp[gH]) (by simp) (by simp) (by simp) (by simp)
     ·have e8:(d==[48])=false:=by simp[h48]
      have e9:(d==[49])=decide (d=[49]):=by by_cases h:d=[49]<;>simp[h]
      simp(disch:=first|(simp;done)|omega|(simp only[Zab,aq,ak];omega)|rfl) [-getElem?_pos,aL,hA,hD,e8,h48]
      exact fin _ _ _ (!(d==[49])) (k1.trans k2) (by simp[gH,hA,hD,h48,CB,e9]) (by simp) (by simp) (by simp) (by simp)
    ·have hD:ja d=false:=by simpa using hD
     simp(disch:=first|(simp;done)|omega|(simp only[Zab,aq,ak];omega)|rfl) [-getElem?_pos,aL,hA,hD]
     exact fin _ _ _ false (k1.trans k2) (by simp[gH,hD]) (by simp) (by simp) (by simp) (by simp)
 ·have hA:ja p=false:=by simpa using hA
  cases br
  ·simp(disch:=first|(simp;done)|omega|(simp only[Zab,aq,ak];omega)|rfl) [-getElem?_pos,aL,hA]
   exact fin _ _ _ false k1 (by simp[gH,hA]) (by simp) (by simp) (by simp) (by simp)
  ·simp(disch:=first|(simp;done)|omega|(simp only[Zab,aq,ak];omega)|rfl) [-getElem?_pos,aL,hA]
   exact fin _ _ _ false k1 (by simp[gH,hA]) (by simp) (by simp) (by simp) (by simp)
end Go.Mx
