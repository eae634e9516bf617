/-number-/
import Derived.Test.YthekjfgljafnaaaGreatDoorPaD
set_option linter.all false
namespace Go.Mx
open Go Go.Proofs
variable {s:Str}
set_option maxHeartbeats 1000000
set_option maxRecDepth 1000000
def A.ta127_0:Zaw:=.seq (sr [mv 46 8,ge 47 (.un .not (tq 46)),ge 48 (.call (fq 192) [tq 47,.const (.int .i64 1)]),mv 49 5,ge 50 (.len 0 (tq 49)),bc 51 .gtr 50 600,mv 52 51,mh 53 6 52,gz 54 52 (.len 0 (tq 53)),gz 55 52 (.bin .gtr (.node []) false (tq 54) (kq 600)),pt 56 52 55,ge 57 (.call (fq 192) [tq 56,.const (.int .i64 4)]),ge 58 (.bslice 26 1 2 [.int .i64 0,.int .i64 0] [(0,1,(tq 48)),(1,1,(tq 57))]),c1 59 191 58,mv 9 59]
 (sr [mv 60 9,ni 61 60 0]
 (cd 61
 (sr [mv 62 9,mv 2 62]
 (.ret))
 (.skip))))
 (sr [mv 63 7,mv 64 63,mg 65 5 64,gy 66 64 (.call (fq 168) [tq 65]),mg 67 6 64,gy 68 64 (.call (fq 168) [tq 67]),gy 69 64 (.call (fq 193) [tq 66,tq 68]),gy 70 64 (.call (fq 181) [.const (.int .i64 1)]),gy 71 64 (.call (fq 194) [tq 69,tq 70]),gy 72 64 (.bin .neq (.prim .int) true (tq 71) (kq 0)),pf 73 64 72,mv 10 73]
 (sr [mv 74 10,ge 75 (.call (fq 192) [tq 74,.const (.int .i64 1)]),mv 2 75]
 (.ret)))
def A.b127:Zaw:=sr [mc 2 0]
 (sr [mv 12 0,ge 13 (.call (fq 189) [tq 12,(.const (.str [45]))]),mv 11 13,xt 14 11 0,xt 15 11 1,mv 3 14,mv 4 15]
 (sr [mv 17 3,ge 18 (.call (fq 167) [tq 17,(.const (.str [47]))]),mv 16 18,xt 19 16 0,xt 20 16 1,xt 21 16 2,mv 5 19,mv 6 20,mv 7 21]
 (sr [mv 22 5,c1 23 190 22,mv 24 23,mg 25 4 24,gy 26 24 (.un .not (tq 25)),mg 27 26 24,mh 28 5 27,gz 29 27 (.bin .neq (.prim .str) true (tq 28) (.const (.str [48]))),gy 30 24 (.pick (tq 27) (.const (.bool true)) (tq 29)),pf 31 24 30,mv 8 31]
 (.seq (sr [mv 32 7]
 (cd 32
 (.reg [mv 33 8,mv 34 33,mg 35 6 34,gy 36 34 (.call (fq 190) [tq 35]),pf 37 34 36,mv 38 37,mg 39 6 38,gy 40 38 (.bin .neq (.prim .str) true (tq 39) (.const (.str [48]))),pf 41 38 40,mv 42 41,mg 43 6 42,gy 44 42 (.bin .neq (.prim .str) true (tq 43) (.const (.str [49]))),pf 45 42 44,mv 8 45])
 (.skip)))
 A.ta127_0))))
def A.k127:=@A.kk 127 76 [.tmp 2] A.b127 (by kernel_rfl) rfl
def Zsw{s:Str}(h:Zc3 s=true):Zcd s=true∧1≤s.length:=by
 cases s with
 |nil=>cases h
 |cons c s=>
  unfold Zc3 at h
  rw[Ywo]at h
  exact⟨h.1,by simp⟩
def chkT(form br:Bool)(p d:Str):Nat:=if form=false then 1 else if 600<p.length∨600<d.length then 4 else if br=true∧Nat.gcd (numV p) (numV d)≠1 then 1 else 0
def Yhn{s:Str}(h:Zcd s=true):negS s=false∧Zaq s=s:=by
 cases s with
 |nil=>exact⟨rfl,rfl⟩
 |cons c s=>
  have hc:Zk8 c=true:=by simp[Zcd]at h;exact h.1
  unfold Zk8 at hc
  simp only[decide_eq_true_eq]at hc
  have:negS (c::s)=false:=by simp[negS];omega
  refine⟨this,?_⟩
  unfold Zaq;rw[this];rfl
def Zwg{h:T O}{N:Nat}(hd:Zcd s=true)(hl:s.length≤100000):Fn A.C 168 [.str s] h N (fun v h' n'=>In h' n' v (numV s:Nat)):=by
 obtain⟨h1,h2⟩:=Yhn hd
 have:=Yce (s:=s) (h:=h) (N:=N) (by rw[h2];exact hd) (by rw[h2];exact hl)
 rw[h1,h2]at this
 exact this
def Yov{H:T O}{n:Nat}{r0:T V}{p d:Str}{form br:Bool}(hp:form=true→Zcd p=true)(hd:form=true→br=true→Zcd d=true)(lp:p.length≤100000)(ld:d.length≤100000)(a5:r0.get 5=some (.str p))(a6:r0.get 6=some (.str d))(a7:r0.get 7=some (.bool br))(a8:r0.get 8=some (.bool form)):
  Code A.C none A.ta127_0 ⟨r0,76,[]⟩ ⟨H,n,[]⟩ (fun e fr st=>e=.ret∧∃r,fr=⟨r,76,[]⟩∧r.get 2=some (.int .i64 (chkT form br p d:Nat))∧Zaa n st.w=[]∧Keeps H n st.h st.n):=by
 rw[Zah]
 cases form with
 |false=>
  by_cases c1:600<p.length
  ·have c1':(600:Int)<(p.length:Int):=by omega
   simp[A.ta127_0,a5,a6,a7,a8,Zem,c1',splice,Zi8,Zam,Zad,chkT]
   exact kset Keeps.refl _
  ·have c1':¬(600:Int)<(p.length:Int):=by omega
   by_cases c2:600<d.length
   ·have c2':(600:Int)<(d.length:Int):=by omega
    simp[A.ta127_0,a5,a6,a7,a8,Zem,c1',c2',splice,Zi8,Zam,Zad,chkT]
    exact kset Keeps.refl _
   ·have c2':¬(600:Int)<(d.length:Int):=by omega
    simp[A.ta127_0,a5,a6,a7,a8,Zem,c1',c2',splice,Zi8,Zam,Zad,chkT]
    exact kset Keeps.refl _
 |true=>
  by_cases c1:600<p.length
  ·have c1':(600:Int)<(p.length:Int):=by omega
   simp[A.ta127_0,a5,a6,a7,a8,Zem,c1,c1',splice,Zi8,Zam,Zad,chkT]
   exact kset Keeps.refl _
  ·have c1':¬(600:Int)<(p.length:Int):=by omega
   by_cases c2:600<d.length
   ·have c2':(600:Int)<(d.length:Int):=by omega
    simp[A.ta127_0,a5,a6,a7,a8,Zem,c1,c2,c1',c2',splice,Zi8,Zam,Zad,chkT]
    exact kset Keeps.refl _
   ·have c2':¬(600:Int)<(d.length:Int):=by omega
    have c3:¬(600<p.length∨600<d.length):=by omega
    cases br with
    |false=>
     simp[A.ta127_0,a5,a6,a7,a8,Zem,c1,c2,c1',c2',splice,Zi8,Zam,Zad,chkT]
     exact kset Keeps.refl _
    |true=>
     have lwp:wl ((numV p:Nat):Int)≤100000:=Yxt (Zfn (Zen (hp rfl))) lp
     have lwd:wl ((numV d:Nat):Int)≤100000:=Yxt (Zfn (Zen (hd rfl rfl))) ld
     simp[A.ta127_0,a5,a6,a7,a8,Zem,c1,c2,c1',c2',splice,Zi8,Zam,Zad]
     have kz:=kset (Keeps.refl (h:=H) (n:=n)) (.cells [.int .i64 0,.int .i64 0] 26 true)
     refine Zac (Zwg (hp rfl) (by omega)) ?_
     rintro v3 h3 n3 k3 hv3
     simp[a6]
     refine Zac (Zwg (hd rfl rfl) (by omega)) ?_
     rintro v4 h4 n4 k4 hv4
     simp[]
     refine Zac (Ykm (hv3.keep k4) hv4 (by omega) (by omega)) ?_
     rintro v5 h5 n5 k5 hv5
     simp[]
     refine Zac Zus ?_
     rintro _ h6 n6 k6 rfl
     simp[]
     have hg:Int.gcd (numV p:Nat) (numV d:Nat)=Nat.gcd (numV p) (numV d):=rfl
     rw[hg]at hv5
     have lg:wl ((Nat.gcd (numV p) (numV d):Nat):Int)<100000000000:=by
      by_cases hz:numV p=0
      ·rw[hz,Nat.gcd_zero_left];omega
      ·have:=Ztu (a:=((Nat.gcd (numV p) (numV d):Nat):Int)) (b:=((numV p:Nat):Int)) (by
        have:=Nat.gcd_le_left (numV d) (show 0<numV p by omega)
        omega)
       omega
     have l1:wl (1:Int)<100000000000:=by decide+kernel
     refine Zac (Yky (hv5.keep k6) (In.small (z:=1) (by omega) (by omega)) lg l1) ?_
     rintro _ h7 n7 k7 rfl
     have kk:=((((kz.trans k3).trans k4).trans k5).trans k6).trans k7
     generalize hgg:Nat.gcd (numV p) (numV d)=g at*
     by_cases g1:g=1
     ·subst g1
      simp[Zad,Zem,chkT,c1,c2,sg3,hgg]
      exact kk
     ·have g2:¬sg3 ((g:Int)-1)=0:=by unfold sg3;split<;>(try split)<;>omega
      simp[Zad,Zem,chkT,c1,c2,g1,g2,hgg]
      exact kk
def Yjd(hl:s.length≤100000){h:T O}{N:Nat}:Fn A.C 127 [.str s] h N (fun v _ _=>v=.int .i64 (chkNum s:Nat)):=by
 intro w
 have hb:(Zaq s).length≤s.length:=by unfold Zaq;split<;>simp
 have hc:=fun st=>Ykx (s:=Zaq s) (st:=st) (by omega)
 rw[Zab,A.k127 (by simp)]
 show Run _ _ _ (Yf7 (Ret (fun v _ _=>v=.int .i64 (Yox (negS s) (Zaq s):Nat)) h N w))
 unfold Yox
 have hle:=Zdm (Zaq s)
 have hp1:((Zaq s).take (slashAt (Zaq s))).length≤100000:=by simp;omega
 have hd1:((Zaq s).drop (slashAt (Zaq s)+1)).length≤100000:=by simp;omega
 simp[A.b127,Zte,hc]
 generalize negS s=neg at*
 generalize hbr:decide (slashAt (Zaq s)<(Zaq s).length)=br at*
 generalize hpe:(Zaq s).take (slashAt (Zaq s))=p at*
 generalize hde:(Zaq s).drop (slashAt (Zaq s)+1)=d at*
 clear hbr hpe hde hc
 have chk:Zkz neg p br d=chkT (Zch neg p br d) br p d:=rfl
 rw[chk]
 have fin:∀(h1:T O) (n1:Nat) (r:T V) (form:Bool),Keeps h N h1 n1→form=Zch neg p br d→r.get 5=some (.str p)→r.get 6=some (.str d)→r.get 7=some (.bool br)→r.get 8=some (.bool form)→Run A.C [.fin [.tmp 2] ⟨h,N,w⟩] (exR (A.C.code none A.ta127_0 ⟨r,76,[]⟩ ⟨h1,n1,[]⟩)) (Yf7 (Ret (fun v _ _=>v=.int .i64 (chkT (Zch neg p br d) br p d:Nat)) h N w)):=by
  intro h1 n1 r form k1 hform a5 a6 a7 a8
  refine Zbd (Yov (form:=form) (br:=br) (p:=p) (d:=d) ?_ ?_ hp1 hd1 a5 a6 a7 a8) ?_
  ·intro hf
   rw[hform]at hf
   unfold Zch at hf
   simp only[Ywo]at hf
   exact(Zsw hf.1.1).1
  ·intro hf hbt
   rw[hform]at hf
   unfold Zch at hf
   rw[hbt]at hf
   simp only[Ywo,Bool.not_true,Bool.false_or]at hf
   exact(Zsw hf.2.1.1).1
  ·rintro e fr ⟨h2,n2,W2⟩ ⟨rfl,r2,rfl,hr2,hW,hK⟩
   simp only at hW hK
   have hW2:=Zf5 k1.le hW
   simp[hr2,Ret,hW2,hform]
   exact k1.trans hK
 refine Zac (Zhy (by omega)) ?_
 rintro v h1 n1 k1 rfl
 have z0:Zc3 [48]=true:=by decide
 by_cases hA:Zc3 p=true
 ·have hB:(neg=true∧p=[48])∨(neg=false)∨(neg=true∧p≠[48]):=by
   cases neg
   ·exact .inr (.inl rfl)
   ·by_cases hq:p=[48]
    ·exact .inl ⟨rfl,hq⟩
    ·exact .inr (.inr ⟨rfl,hq⟩)
  rcases hB with⟨rfl,rfl⟩|rfl|⟨rfl,hpz⟩
  ·cases br
   ·simp[Zad,z0]
    exact fin _ _ _ false k1 (by simp[Zch]) (by simp) (by simp) (by simp) (by simp)
   ·simp[Zad,z0]
    exact fin _ _ _ false k1 (by simp[Zch]) (by simp) (by simp) (by simp) (by simp)
  ·cases br
   ·simp[Zad,hA]
    exact fin _ _ _ true k1 (by simp[Zch,hA]) (by simp) (by simp) (by simp) (by simp)
   ·simp[Zad,hA]
    refine Zac (Zhy (by omega)) ?_
    rintro v h2 n2 k2 rfl
    by_cases hD:Zc3 d=true
    ·by_cases h48:d=[48]
     ·subst h48
      simp[Zad,z0,hA]
      exact fin _ _ _ false (k1.trans k2) (by simp[Zch]) (by simp) (by simp) (by simp) (by simp)
     ·have e8:(d==[48])=false:=by simp[h48]
      have e9:(d==[49])=decide (d=[49]):=by by_cases h:d=[49]<;>simp[h]
      simp[Zad,hA,hD,e8,h48]
      exact fin _ _ _ (!(d==[49])) (k1.trans k2) (by simp[Zch,hA,hD,h48,e9]) (by simp) (by simp) (by simp) (by simp)
    ·have hD:Zc3 d=false:=by simpa using hD
     simp[Zad,hA,hD]
     exact fin _ _ _ false (k1.trans k2) (by simp[Zch,hD]) (by simp) (by simp) (by simp) (by simp)
  ·have e1:(p==[48])=false:=by simp[hpz]
   cases br
   ·simp[Zad,hA,e1,hpz]
    exact fin _ _ _ true k1 (by simp[Zch,hA,hpz]) (by simp) (by simp) (by simp) (by simp)
   ·simp[Zad,hA,e1,hpz]
    refine Zac (Zhy (by omega)) ?_
    rintro v h2 n2 k2 rfl
    by_cases hD:Zc3 d=true
    ·by_cases h48:d=[48]
     ·subst h48
      simp[Zad,z0,hA]
      exact fin _ _ _ false (k1.trans k2) (by simp[Zch]) (by simp) (by simp) (by simp) (by simp)
     ·have e8:(d==[48])=false:=by simp[h48]
      have e9:(d==[49])=decide (d=[49]):=by by_cases h:d=[49]<;>simp[h]
      simp[Zad,hA,hD,e8,h48]
      exact fin _ _ _ (!(d==[49])) (k1.trans k2) (by simp[Zch,hA,hD,h48,hpz,e9]) (by simp) (by simp) (by simp) (by simp)
    ·have hD:Zc3 d=false:=by simpa using hD
     simp[Zad,hA,hD]
     exact fin _ _ _ false (k1.trans k2) (by simp[Zch,hD]) (by simp) (by simp) (by simp) (by simp)
 ·have hA:Zc3 p=false:=by simpa using hA
  cases br
  ·simp[Zad,hA]
   exact fin _ _ _ false k1 (by simp[Zch,hA]) (by simp) (by simp) (by simp) (by simp)
  ·simp[Zad,hA]
   exact fin _ _ _ false k1 (by simp[Zch,hA]) (by simp) (by simp) (by simp) (by simp)
end Go.Mx
