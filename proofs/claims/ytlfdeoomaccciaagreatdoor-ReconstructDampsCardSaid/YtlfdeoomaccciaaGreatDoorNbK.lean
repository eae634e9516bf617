/-number-/
import Derived.Test.YtlfdeoomaccciaaGreatDoorPaD
set_option linter.all false
namespace Go.Mx
open Go Go.Proofs
variable {s:aM}
set_option maxHeartbeats 1000000
set_option maxRecDepth 1000000
def A.dV:bO:=.seq (sr [mv 46 8,ge 47 (.un .not (tq 46)),ge 48 (.call (fq 178) [tq 47,.const (.int .i64 1)]),mv 49 5,ge 50 (.len 0 (tq 49)),bc 51 .gtr 50 600,mv 52 51,mh 53 6 52,gz 54 52 (.len 0 (tq 53)),gz 55 52 (.bin .gtr (.node []) false (tq 54) (kq 600)),pt 56 52 55,ge 57 (.call (fq 178) [tq 56,.const (.int .i64 4)]),ge 58 (.fG 29 1 2 [.int .i64 0,.int .i64 0] [(0,1,(tq 48)),(1,1,(tq 57))]),c1 59 177 58,mv 9 59]
 (sr [mv 60 9,ni 61 60 0]
 (cd 61
 (sr [mv 62 9,mv 2 62]
 (.ret))
 (.skip))))
 (sr [mv 63 7,mv 64 63,mg 65 5 64,gy 66 64 (.call (fq 124) [tq 65]),mg 67 6 64,gy 68 64 (.call (fq 124) [tq 67]),gy 69 64 (.call (fq 179) [tq 66,tq 68]),gy 70 64 (.call (fq 166) [.const (.int .i64 1)]),gy 71 64 (.call (fq 180) [tq 69,tq 70]),gy 72 64 (.bin .neq (.bX .int) true (tq 71) (kq 0)),pf 73 64 72,mv 10 73]
 (sr [mv 74 10,ge 75 (.call (fq 178) [tq 74,.const (.int .i64 1)]),mv 2 75]
 (.ret)))
def A.b114:bO:=sr [mc 2 0]
 (sr [mv 12 0,ge 13 (.call (fq 175) [tq 12,(.const (.str [45]))]),mv 11 13,xt 14 11 0,xt 15 11 1,mv 3 14,mv 4 15]
 (sr [mv 17 3,ge 18 (.call (fq 123) [tq 17,(.const (.str [47]))]),mv 16 18,xt 19 16 0,xt 20 16 1,xt 21 16 2,mv 5 19,mv 6 20,mv 7 21]
 (sr [mv 22 5,c1 23 176 22,mv 24 23,mg 25 4 24,gy 26 24 (.un .not (tq 25)),mg 27 26 24,mh 28 5 27,gz 29 27 (.bin .neq (.bX .str) true (tq 28) (.const (.str [48]))),gy 30 24 (.pick (tq 27) (.const (.bool true)) (tq 29)),pf 31 24 30,mv 8 31]
 (.seq (sr [mv 32 7]
 (cd 32
 (.dP [mv 33 8,mv 34 33,mg 35 6 34,gy 36 34 (.call (fq 176) [tq 35]),pf 37 34 36,mv 38 37,mg 39 6 38,gy 40 38 (.bin .neq (.bX .str) true (tq 39) (.const (.str [48]))),pf 41 38 40,mv 42 41,mg 43 6 42,gy 44 42 (.bin .neq (.bX .str) true (tq 43) (.const (.str [49]))),pf 45 42 44,mv 8 45])
 (.skip)))
 A.dV))))
def A.k114:=@A.kk 114 76 [.tmp 2] A.b114 (by kernel_rfl) rfl
def Ztf{s:aM}(h:jc s=true):cE s=true/\1<=s.length:=by
 cases s with
 |nil=>cases h
 |cons c s=>
  unfold jc at h
  rw[iy]at h
  exact⟨h.1,by simp⟩
def oS(form br:Bool)(p d:aM):Nat:=if form=false then 1 else if 600<p.length\/600<d.length then 4 else if br=true/\Nat.gcd (aG p) (aG d)≠1 then 1 else 0
def Yh1{s:aM}(h:cE s=true):cF s=false/\bn s=s:=by
 cases s with
 |nil=>exact⟨rfl,rfl⟩
 |cons c s=>
  have hc:ko c=true:=by simp[cE]at h;exact h.1
  unfold ko at hc
  simp only[decide_eq_true_eq]at hc
  have:cF (c::s)=false:=by simp[cF];omega
  refine⟨this,?_⟩
  unfold bn;rw[this];rfl
def Zwv{h:T O}{N:Nat}(hd:cE s=true)(hl:s.length<=100000):Fn A.C 124 [.str s] h N (fun v h' n'=>In h' n' v (aG s:Nat)):=by
 obtain⟨h1,h2⟩:=Yh1 hd
 have:=Ycm (s:=s) (h:=h) (N:=N) (by rw[h2];exact hd) (by rw[h2];exact hl)
 rw[h1,h2]at this
 exact this
def Ypk{H:T O}{n:Nat}{r0:T V}{p d:aM}{form br:Bool}(hp:form=true->cE p=true)(hd:form=true->br=true->cE d=true)(lp:p.length<=100000)(ld:d.length<=100000)(a5:r0.get 5=some (.str p))(a6:r0.get 6=some (.str d))(a7:r0.get 7=some (.bool br))(a8:r0.get 8=some (.bool form)):
  Code A.C none A.dV ⟨r0,76,[]⟩ ⟨H,n,[]⟩ (fun e fr st=>e=.ret/\∃r,fr=⟨r,76,[]⟩/\r.get 2=some (.int .i64 (oS form br p d:Nat))/\av n st.w=[]/\ab H n st.h st.n):=by
 rw[bk]
 cases form with
 |false=>
  by_cases c1:600<p.length
  ·have c1':(600:Int)<(p.length:Int):=by omega
   simp[A.dV,a5,a6,a7,a8,BT,c1',ad,HQ,cH,aE,oS]
   exact aL ab.refl _
  ·have c1':¬(600:Int)<(p.length:Int):=by omega
   by_cases c2:600<d.length
   ·have c2':(600:Int)<(d.length:Int):=by omega
    simp[A.dV,a5,a6,a7,a8,BT,c1',c2',ad,HQ,cH,aE,oS]
    exact aL ab.refl _
   ·have c2':¬(600:Int)<(d.length:Int):=by omega
    simp[A.dV,a5,a6,a7,a8,BT,c1',c2',ad,HQ,cH,aE,oS]
    exact aL ab.refl _
 |true=>
  by_cases c1:600<p.length
  ·have c1':(600:Int)<(p.length:Int):=by omega
   simp[A.dV,a5,a6,a7,a8,BT,c1,c1',ad,HQ,cH,aE,oS]
   exact aL ab.refl _
  ·have c1':¬(600:Int)<(p.length:Int):=by omega
   by_cases c2:600<d.length
   ·have c2':(600:Int)<(d.length:Int):=by omega
    simp[A.dV,a5,a6,a7,a8,BT,c1,c2,c1',c2',ad,HQ,cH,aE,oS]
    exact aL ab.refl _
   ·have c2':¬(600:Int)<(d.length:Int):=by omega
    have c3:¬(600<p.length\/600<d.length):=by omega
    cases br with
    |false=>
     simp[A.dV,a5,a6,a7,a8,BT,c1,c2,c1',c2',ad,HQ,cH,aE,oS]
     exact aL ab.refl _
    |true=>
     have lwp:wl ((aG p:Nat):Int)<=100000:=tk (Fh (BB (hp rfl))) lp
     have lwd:wl ((aG d:Nat):Int)<=100000:=tk (Fh (BB (hd rfl rfl))) ld
     simp[A.dV,a5,a6,a7,a8,BT,c1,c2,c1',c2',ad,HQ,cH,aE]
     have kz:=aL (ab.refl (h:=H) (n:=n)) (.cells [.int .i64 0,.int .i64 0] 29 true)
     refine aB (Zwv (hp rfl) (by omega)) ?_
     rintro v3 h3 n3 k3 Rw
     simp[a6]
     refine aB (Zwv (hd rfl rfl) (by omega)) ?_
     rintro v4 h4 n4 k4 Nr
     simp[]
     refine aB (Yk2 (Rw.ae k4) Nr (by omega) (by omega)) ?_
     rintro v5 h5 n5 k5 hv5
     simp[]
     refine aB HD ?_
     rintro _ h6 n6 k6 rfl
     simp[]
     have hg:Int.gcd (aG p:Nat) (aG d:Nat)=Nat.gcd (aG p) (aG d):=rfl
     rw[hg]at hv5
     have lg:wl ((Nat.gcd (aG p) (aG d):Nat):Int)<100000000000:=by
      by_cases hz:aG p=0
      ·rw[hz,Nat.gcd_zero_left];omega
      ·have:=HL (a:=((Nat.gcd (aG p) (aG d):Nat):Int)) (b:=((aG p:Nat):Int)) (by
        have:=Nat.gcd_le_left (aG d) (show 0<aG p by omega)
        omega)
       omega
     have l1:wl (1:Int)<100000000000:=by decide+kernel
     refine aB (Ysi (hv5.ae k6) (In.small (z:=1) (by omega) (by omega)) lg l1) ?_
     rintro _ h7 n7 k7 rfl
     have kk:=((((kz.trans k3).trans k4).trans k5).trans k6).trans k7
     generalize hgg:Nat.gcd (aG p) (aG d)=g at*
     by_cases g1:g=1
     ·subst g1
      simp[aE,BT,oS,c1,c2,dX,hgg]
      exact kk
     ·have g2:¬dX ((g:Int)-1)=0:=by unfold dX;split<;>(try split)<;>omega
      simp[aE,BT,oS,c1,c2,g1,g2,hgg]
      exact kk
def Zx6(hl:s.length<=100000){h:T O}{N:Nat}:Fn A.C 114 [.str s] h N (fun v _ _=>v=.int .i64 (bf s:Nat)):=by
 intro w
 have hb:(bn s).length<=s.length:=by unfold bn;split<;>simp
 have hc:=fun st=>Ylf (s:=bn s) (st:=st) (by omega)
 rw[aN,A.k114 (by simp)]
 show bA _ _ _ (CR (aA (fun v _ _=>v=.int .i64 (JR (cF s) (bn s):Nat)) h N w))
 unfold JR
 have hle:=EK (bn s)
 have xI:((bn s).take (ah (bn s))).length<=100000:=by simp;omega
 have tG:((bn s).drop (ah (bn s)+1)).length<=100000:=by simp;omega
 simp[A.b114,Zty,hc]
 generalize cF s=neg at*
 generalize pM:decide (ah (bn s)<(bn s).length)=br at*
 generalize Bf:(bn s).take (ah (bn s))=p at*
 generalize BU:(bn s).drop (ah (bn s)+1)=d at*
 clear pM Bf BU hc
 have cv:ks neg p br d=oS (gw neg p br d) br p d:=rfl
 rw[cv]
 have fin:∀(h1:T O) (n1:Nat) (r:T V) (form:Bool),ab h N h1 n1->form=gw neg p br d->r.get 5=some (.str p)->r.get 6=some (.str d)->r.get 7=some (.bool br)->r.get 8=some (.bool form)->bA A.C [.fin [.tmp 2] ⟨h,N,w⟩] (eJ (A.C.code none A.dV ⟨r,76,[]⟩ ⟨h1,n1,[]⟩)) (CR (aA (fun v _ _=>v=.int .i64 (oS (gw neg p br d) br p d:Nat)) h N w)):=by
  intro h1 n1 r form k1 dB a5 a6 a7 a8
  refine mi (Ypk (form:=form) (br:=br) (p:=p) (d:=d) ?_ ?_ xI tG a5 a6 a7 a8) ?_
  ·intro hf
   rw[dB]at hf
   unfold gw at hf
   simp only[iy]at hf
   exact(Ztf hf.1.1).1
  ·intro hf px
   rw[dB]at hf
   unfold gw at hf
   rw[px]at hf
   simp only[iy,Bool.not_true,Bool.false_or]at hf
   exact(Ztf hf.2.1.1).1
  ·rintro e fr ⟨h2,n2,W2⟩ ⟨rfl,r2,rfl,dt,hW,hK⟩
   simp only at hW hK
   have dZ:=JY k1.le hW
   simp[dt,aA,dZ,dB]
   exact k1.trans hK
 refine aB (YP (by omega)) ?_
 rintro v h1 n1 k1 rfl
 have z0:jc [48]=true:=by decide
 by_cases hA:jc p=true
 ·have hB:(neg=true/\p=[48])\/(neg=false)\/(neg=true/\p≠[48]):=by
   cases neg
   ·exact .inr (.inl rfl)
   ·by_cases hq:p=[48]
    ·exact .inl ⟨rfl,hq⟩
    ·exact .inr (.inr ⟨rfl,hq⟩)
  rcases hB with⟨rfl,rfl⟩|rfl|⟨rfl,C0⟩
  ·cases br
   ·simp[aE,z0]
    exact fin _ _ _ false k1 (by simp[gw]) (by simp) (by simp) (by simp) (by simp)
   ·simp[aE,z0]
    exact fin _ _ _ false k1 (by simp[gw]) (by simp) (by simp) (by simp) (by simp)
  ·cases br
   ·simp[aE,hA]
    exact fin _ _ _ true k1 (by simp[gw,hA]) (by simp) (by simp) (by simp) (by simp)
   ·simp[aE,hA]
    refine aB (YP (by omega)) ?_
    rintro v h2 n2 k2 rfl
    by_cases hD:jc d=true
    ·by_cases h48:d=[48]
     ·subst h48
      simp[aE,z0,hA]
      exact fin _ _ _ false (k1.trans k2) (by simp[gw]) (by simp) (by simp) (by simp) (by simp)
     ·have e8:(d==[48])=false:=by simp[h48]
      have e9:(d==[49])=decide (d=[49]):=by by_cases h:d=[49]<;>simp[h]
      simp[aE,hA,hD,e8,h48]
      exact fin _ _ _ (!(d==[49])) (k1.trans k2) (by simp[gw,hA,hD,h48,e9]) (by simp) (by simp) (by simp) (by simp)
    ·have hD:jc d=false:=by simpa using hD
     simp[aE,hA,hD]
     exact fin _ _ _ false (k1.trans k2) (by simp[gw,hD]) (by simp) (by simp) (by simp) (by simp)
  ·have e1:(p==[48])=false:=by simp[C0]
   cases br
   ·simp[aE,hA,e1,C0]
    exact fin _ _ _ true k1 (by simp[gw,hA,C0]) (by simp) (by simp) (by simp) (by simp)
   ·simp[aE,hA,e1,C0]
    refine aB (YP (by omega)) ?_
    rintro v h2 n2 k2 rfl
    by_cases hD:jc d=true
    ·by_cases h48:d=[48]
     ·subst h48
      simp[aE,z0,hA]
      exact fin _ _ _ false (k1.trans k2) (by simp[gw]) (by simp) (by simp) (by simp) (by simp)
     ·have e8:(d==[48])=false:=by simp[h48]
      have e9:(d==[49])=decide (d=[49]):=by by_cases h:d=[49]<;>simp[h]
      simp[aE,hA,hD,e8,h48]
      exact fin _ _ _ (!(d==[49])) (k1.trans k2) (by simp[gw,hA,hD,h48,C0,e9]) (by simp) (by simp) (by simp) (by simp)
    ·have hD:jc d=false:=by simpa using hD
     simp[aE,hA,hD]
     exact fin _ _ _ false (k1.trans k2) (by simp[gw,hD]) (by simp) (by simp) (by simp) (by simp)
 ·have hA:jc p=false:=by simpa using hA
  cases br
  ·simp[aE,hA]
   exact fin _ _ _ false k1 (by simp[gw,hA]) (by simp) (by simp) (by simp) (by simp)
  ·simp[aE,hA]
   exact fin _ _ _ false k1 (by simp[gw,hA]) (by simp) (by simp) (by simp) (by simp)
end Go.Mx
