/-number-/
import Derived.Test.YtkfkpkejgchcpaaGreatDoorPaD
set_option linter.all false
namespace Go.Mx
open Go Go.Proofs
variable {s:Str}
set_option maxHeartbeats 1000000
set_option maxRecDepth 1000000
def A.ta45_0:Zah:=.seq (sr [mv 46 8,ge 47 (.un .not (tq 46)),ge 48 (.call (fq 91) [tq 47,.const (.int .i64 1)]),mv 49 5,ge 50 (.len 0 (tq 49)),bc 51 .gtr 50 600,mv 52 51,mh 53 6 52,gz 54 52 (.len 0 (tq 53)),gz 55 52 (.bin .gtr (.node []) false (tq 54) (kq 600)),pt 56 52 55,ge 57 (.call (fq 91) [tq 56,.const (.int .i64 4)]),ge 58 (.bslice 28 1 2 [.int .i64 0,.int .i64 0] [(0,1,(tq 48)),(1,1,(tq 57))]),c1 59 90 58,mv 9 59]
 (sr [mv 60 9,ni 61 60 0]
 (cd 61
 (sr [mv 62 9,mv 2 62]
 (.ret))
 (.skip))))
 (sr [mv 63 7,mv 64 63,mg 65 5 64,gy 66 64 (.call (fq 93) [tq 65]),mg 67 6 64,gy 68 64 (.call (fq 93) [tq 67]),gy 69 64 (.call (fq 92) [tq 66,tq 68]),gy 70 64 (.call (fq 95) [.const (.int .i64 1)]),gy 71 64 (.call (fq 94) [tq 69,tq 70]),gy 72 64 (.bin .neq (.prim .int) true (tq 71) (kq 0)),pf 73 64 72,mv 10 73]
 (sr [mv 74 10,ge 75 (.call (fq 91) [tq 74,.const (.int .i64 1)]),mv 2 75]
 (.ret)))
def A.b45:Zah:=sr [mc 2 0]
 (sr [mv 12 0,ge 13 (.call (fq 87) [tq 12,(.const (.str [45]))]),mv 11 13,xt 14 11 0,xt 15 11 1,mv 3 14,mv 4 15]
 (sr [mv 17 3,ge 18 (.call (fq 88) [tq 17,(.const (.str [47]))]),mv 16 18,xt 19 16 0,xt 20 16 1,xt 21 16 2,mv 5 19,mv 6 20,mv 7 21]
 (sr [mv 22 5,c1 23 89 22,mv 24 23,mg 25 4 24,gy 26 24 (.un .not (tq 25)),mg 27 26 24,mh 28 5 27,gz 29 27 (.bin .neq (.prim .str) true (tq 28) (.const (.str [48]))),gy 30 24 (.pick (tq 27) (.const (.bool true)) (tq 29)),pf 31 24 30,mv 8 31]
 (.seq (sr [mv 32 7]
 (cd 32
 (.reg [mv 33 8,mv 34 33,mg 35 6 34,gy 36 34 (.call (fq 89) [tq 35]),pf 37 34 36,mv 38 37,mg 39 6 38,gy 40 38 (.bin .neq (.prim .str) true (tq 39) (.const (.str [48]))),pf 41 38 40,mv 42 41,mg 43 6 42,gy 44 42 (.bin .neq (.prim .str) true (tq 43) (.const (.str [49]))),pf 45 42 44,mv 8 45])
 (.skip)))
 A.ta45_0))))
def A.k45:=@A.kk 45 76 [.tmp 2] A.b45 (by kernel_rfl) rfl
def Zrq{s:Str}(h:Zcy s=true):Zb8 s=true∧1≤s.length:=by
 cases s with
 |nil=>cases h
 |cons c s=>
  unfold Zcy at h
  rw[Ysp]at h
  exact⟨h.1,by simp⟩
def chkT(form br:Bool)(p d:Str):Nat:=if form=false then 1 else if 600<p.length∨600<d.length then 4 else if br=true∧Nat.gcd (numV p) (numV d)≠1 then 1 else 0
def Yfr{s:Str}(h:Zb8 s=true):negS s=false∧Zar s=s:=by
 cases s with
 |nil=>exact⟨rfl,rfl⟩
 |cons c s=>
  have hc:Zj1 c=true:=by simp[Zb8]at h;exact h.1
  unfold Zj1 at hc
  simp only[decide_eq_true_eq]at hc
  have:negS (c::s)=false:=by simp[negS];omega
  refine⟨this,?_⟩
  unfold Zar;rw[this];rfl
def Zvc{h:T O}{N:Nat}(hd:Zb8 s=true)(hl:s.length≤100000):Fn A.C 93 [.str s] h N (fun v h' n'=>In h' n' v (numV s:Nat)):=by
 obtain⟨h1,h2⟩:=Yfr hd
 have:=Yao (s:=s) (h:=h) (N:=N) (by rw[h2];exact hd) (by rw[h2];exact hl)
 rw[h1,h2]at this
 exact this
def Ylm{H:T O}{n:Nat}{r0:T V}{p d:Str}{form br:Bool}(hp:form=true→Zb8 p=true)(hd:form=true→br=true→Zb8 d=true)(lp:p.length≤100000)(ld:d.length≤100000)(a5:r0.get 5=some (.str p))(a6:r0.get 6=some (.str d))(a7:r0.get 7=some (.bool br))(a8:r0.get 8=some (.bool form)):
  Code A.C none A.ta45_0 ⟨r0,76,[]⟩ ⟨H,n,[]⟩ (fun e fr st=>e=.ret∧∃r,fr=⟨r,76,[]⟩∧r.get 2=some (.int .i64 (chkT form br p d:Nat))∧Zad n st.w=[]∧Keeps H n st.h st.n):=by
 rw[Zaj]
 cases form with
 |false=>
  by_cases c1:600<p.length
  ·have c1':(600:Int)<(p.length:Int):=by omega
   simp[A.ta45_0,a5,a6,a7,a8,Zd8,c1',splice,Zij,Zan,Zae,chkT]
   exact kset Keeps.refl _
  ·have c1':¬(600:Int)<(p.length:Int):=by omega
   by_cases c2:600<d.length
   ·have c2':(600:Int)<(d.length:Int):=by omega
    simp[A.ta45_0,a5,a6,a7,a8,Zd8,c1',c2',splice,Zij,Zan,Zae,chkT]
    exact kset Keeps.refl _
   ·have c2':¬(600:Int)<(d.length:Int):=by omega
    simp[A.ta45_0,a5,a6,a7,a8,Zd8,c1',c2',splice,Zij,Zan,Zae,chkT]
    exact kset Keeps.refl _
 |true=>
  by_cases c1:600<p.length
  ·have c1':(600:Int)<(p.length:Int):=by omega
   simp[A.ta45_0,a5,a6,a7,a8,Zd8,c1,c1',splice,Zij,Zan,Zae,chkT]
   exact kset Keeps.refl _
  ·have c1':¬(600:Int)<(p.length:Int):=by omega
   by_cases c2:600<d.length
   ·have c2':(600:Int)<(d.length:Int):=by omega
    simp[A.ta45_0,a5,a6,a7,a8,Zd8,c1,c2,c1',c2',splice,Zij,Zan,Zae,chkT]
    exact kset Keeps.refl _
   ·have c2':¬(600:Int)<(d.length:Int):=by omega
    have c3:¬(600<p.length∨600<d.length):=by omega
    cases br with
    |false=>
     simp[A.ta45_0,a5,a6,a7,a8,Zd8,c1,c2,c1',c2',splice,Zij,Zan,Zae,chkT]
     exact kset Keeps.refl _
    |true=>
     have lwp:wl ((numV p:Nat):Int)≤100000:=Yud (Ze5 (Zd9 (hp rfl))) lp
     have lwd:wl ((numV d:Nat):Int)≤100000:=Yud (Ze5 (Zd9 (hd rfl rfl))) ld
     simp[A.ta45_0,a5,a6,a7,a8,Zd8,c1,c2,c1',c2',splice,Zij,Zan,Zae]
     have kz:=kset (Keeps.refl (h:=H) (n:=n)) (.cells [.int .i64 0,.int .i64 0] 28 true)
     refine Zaf (Zvc (hp rfl) (by omega)) ?_
     rintro v3 h3 n3 k3 hv3
     simp[a6]
     refine Zaf (Zvc (hd rfl rfl) (by omega)) ?_
     rintro v4 h4 n4 k4 hv4
     simp[]
     refine Zaf (Yie (hv3.keep k4) hv4 (by omega) (by omega)) ?_
     rintro v5 h5 n5 k5 hv5
     simp[]
     refine Zaf Ztm ?_
     rintro _ h6 n6 k6 rfl
     simp[]
     have hg:Int.gcd (numV p:Nat) (numV d:Nat)=Nat.gcd (numV p) (numV d):=rfl
     rw[hg]at hv5
     have lg:wl ((Nat.gcd (numV p) (numV d):Nat):Int)<100000000000:=by
      by_cases hz:numV p=0
      ·rw[hz,Nat.gcd_zero_left];omega
      ·have:=Zsn (a:=((Nat.gcd (numV p) (numV d):Nat):Int)) (b:=((numV p:Nat):Int)) (by
        have:=Nat.gcd_le_left (numV d) (show 0<numV p by omega)
        omega)
       omega
     have l1:wl (1:Int)<100000000000:=by decide+kernel
     refine Zaf (Yip (hv5.keep k6) (In.small (z:=1) (by omega) (by omega)) lg l1) ?_
     rintro _ h7 n7 k7 rfl
     have kk:=((((kz.trans k3).trans k4).trans k5).trans k6).trans k7
     generalize hgg:Nat.gcd (numV p) (numV d)=g at*
     by_cases g1:g=1
     ·subst g1
      simp[Zae,Zd8,chkT,c1,c2,sg3,hgg]
      exact kk
     ·have g2:¬sg3 ((g:Int)-1)=0:=by unfold sg3;split<;>(try split)<;>omega
      simp[Zae,Zd8,chkT,c1,c2,g1,g2,hgg]
      exact kk
def Zwc(hl:s.length≤100000){h:T O}{N:Nat}:Fn A.C 45 [.str s] h N (fun v _ _=>v=.int .i64 (chkNum s:Nat)):=by
 intro w
 have hb:(Zar s).length≤s.length:=by unfold Zar;split<;>simp
 have hc:=fun st=>Yio (s:=Zar s) (st:=st) (by omega)
 rw[Zac,A.k45 (by simp)]
 show Run _ _ _ (Yee (Ret (fun v _ _=>v=.int .i64 (Yma (negS s) (Zar s):Nat)) h N w))
 unfold Yma
 have hle:=Zdd (Zar s)
 have hp1:((Zar s).take (slashAt (Zar s))).length≤100000:=by simp;omega
 have hd1:((Zar s).drop (slashAt (Zar s)+1)).length≤100000:=by simp;omega
 simp[A.b45,Zr9,hc]
 generalize negS s=neg at*
 generalize hbr:decide (slashAt (Zar s)<(Zar s).length)=br at*
 generalize hpe:(Zar s).take (slashAt (Zar s))=p at*
 generalize hde:(Zar s).drop (slashAt (Zar s)+1)=d at*
 clear hbr hpe hde hc
 have chk:Zkf neg p br d=chkT (Zcc neg p br d) br p d:=rfl
 rw[chk]
 have fin:∀(h1:T O) (n1:Nat) (r:T V) (form:Bool),Keeps h N h1 n1→form=Zcc neg p br d→r.get 5=some (.str p)→r.get 6=some (.str d)→r.get 7=some (.bool br)→r.get 8=some (.bool form)→Run A.C [.fin [.tmp 2] ⟨h,N,w⟩] (exR (A.C.code none A.ta45_0 ⟨r,76,[]⟩ ⟨h1,n1,[]⟩)) (Yee (Ret (fun v _ _=>v=.int .i64 (chkT (Zcc neg p br d) br p d:Nat)) h N w)):=by
  intro h1 n1 r form k1 hform a5 a6 a7 a8
  refine Zbo (Ylm (form:=form) (br:=br) (p:=p) (d:=d) ?_ ?_ hp1 hd1 a5 a6 a7 a8) ?_
  ·intro hf
   rw[hform]at hf
   unfold Zcc at hf
   simp only[Ysp]at hf
   exact(Zrq hf.1.1).1
  ·intro hf hbt
   rw[hform]at hf
   unfold Zcc at hf
   rw[hbt]at hf
   simp only[Ysp,Bool.not_true,Bool.false_or]at hf
   exact(Zrq hf.2.1.1).1
  ·rintro e fr ⟨h2,n2,W2⟩ ⟨rfl,r2,rfl,hr2,hW,hK⟩
   simp only at hW hK
   have hW2:=Zfl k1.le hW
   simp[hr2,Ret,hW2,hform]
   exact k1.trans hK
 refine Zaf (Zg8 (by omega)) ?_
 rintro v h1 n1 k1 rfl
 have z0:Zcy [48]=true:=by decide
 by_cases hA:Zcy p=true
 ·have hB:(neg=true∧p=[48])∨(neg=false)∨(neg=true∧p≠[48]):=by
   cases neg
   ·exact .inr (.inl rfl)
   ·by_cases hq:p=[48]
    ·exact .inl ⟨rfl,hq⟩
    ·exact .inr (.inr ⟨rfl,hq⟩)
  rcases hB with⟨rfl,rfl⟩|rfl|⟨rfl,hpz⟩
  ·cases br
   ·simp[Zae,z0]
    exact fin _ _ _ false k1 (by simp[Zcc]) (by simp) (by simp) (by simp) (by simp)
   ·simp[Zae,z0]
    exact fin _ _ _ false k1 (by simp[Zcc]) (by simp) (by simp) (by simp) (by simp)
  ·cases br
   ·simp[Zae,hA]
    exact fin _ _ _ true k1 (by simp[Zcc,hA]) (by simp) (by simp) (by simp) (by simp)
   ·simp[Zae,hA]
    refine Zaf (Zg8 (by omega)) ?_
    rintro v h2 n2 k2 rfl
    by_cases hD:Zcy d=true
    ·by_cases h48:d=[48]
     ·subst h48
      simp[Zae,z0,hA]
      exact fin _ _ _ false (k1.trans k2) (by simp[Zcc]) (by simp) (by simp) (by simp) (by simp)
     ·have e8:(d==[48])=false:=by simp[h48]
      have e9:(d==[49])=decide (d=[49]):=by by_cases h:d=[49]<;>simp[h]
      simp[Zae,hA,hD,e8,h48]
      exact fin _ _ _ (!(d==[49])) (k1.trans k2) (by simp[Zcc,hA,hD,h48,e9]) (by simp) (by simp) (by simp) (by simp)
    ·have hD:Zcy d=false:=by simpa using hD
     simp[Zae,hA,hD]
     exact fin _ _ _ false (k1.trans k2) (by simp[Zcc,hD]) (by simp) (by simp) (by simp) (by simp)
  ·have e1:(p==[48])=false:=by simp[hpz]
   cases br
   ·simp[Zae,hA,e1,hpz]
    exact fin _ _ _ true k1 (by simp[Zcc,hA,hpz]) (by simp) (by simp) (by simp) (by simp)
   ·simp[Zae,hA,e1,hpz]
    refine Zaf (Zg8 (by omega)) ?_
    rintro v h2 n2 k2 rfl
    by_cases hD:Zcy d=true
    ·by_cases h48:d=[48]
     ·subst h48
      simp[Zae,z0,hA]
      exact fin _ _ _ false (k1.trans k2) (by simp[Zcc]) (by simp) (by simp) (by simp) (by simp)
     ·have e8:(d==[48])=false:=by simp[h48]
      have e9:(d==[49])=decide (d=[49]):=by by_cases h:d=[49]<;>simp[h]
      simp[Zae,hA,hD,e8,h48]
      exact fin _ _ _ (!(d==[49])) (k1.trans k2) (by simp[Zcc,hA,hD,h48,hpz,e9]) (by simp) (by simp) (by simp) (by simp)
    ·have hD:Zcy d=false:=by simpa using hD
     simp[Zae,hA,hD]
     exact fin _ _ _ false (k1.trans k2) (by simp[Zcc,hD]) (by simp) (by simp) (by simp) (by simp)
 ·have hA:Zcy p=false:=by simpa using hA
  cases br
  ·simp[Zae,hA]
   exact fin _ _ _ false k1 (by simp[Zcc,hA]) (by simp) (by simp) (by simp) (by simp)
  ·simp[Zae,hA]
   exact fin _ _ _ false k1 (by simp[Zcc,hA]) (by simp) (by simp) (by simp) (by simp)
def A.lb127_0:Zah:=sr [ge 7 (.nextStr (tq 6)),xt 8 7 0]
 (.seq (cd 8
 (.skip)
 (.exit 0))
 (.block 1 (sr [xt 9 7 1,xt 10 7 2,mv 3 9,mv 4 10]
 (sr [mv 11 4,c1 12 186 11,ge 13 (.un .not (tq 12)),mv 14 13,mg 15 3 14,gy 16 14 (.bin .eql (.prim .int) true (tq 15) (kq 0)),mg 17 16 14,mh 18 4 17,gz 19 17 (.bin .neq (.prim .int) true (tq 18) (.const (.int .i32 95))),mh 20 19 17,mg 21 4 20,gy 22 20 (.bin .lss (.node []) false (tq 21) (.const (.int .i32 48))),mg 23 22 20,mh 24 4 23,gz 25 23 (.bin .gtr (.node []) false (tq 24) (.const (.int .i32 57))),gy 26 20 (.pick (tq 23) (.const (.bool true)) (tq 25)),gz 27 17 (.pick (tq 20) (tq 26) (.const (.bool false))),gy 28 14 (.pick (tq 17) (.const (.bool true)) (tq 27)),pf 29 14 28]
 (cd 29
 (sr [ge 2 (.mov (.const (.bool false)))]
 (.ret))
 (.skip))))))
def A.b127:Zah:=sr [ge 2 (.mov (.const (.bool false)))]
 (.seq (sr [mv 5 0,ge 6 (.rangeStr (tq 5))]
 (.block 0 (.loop A.lb127_0)))
 (sr [mv 30 0,ge 31 (.bin .neq (.prim .str) true (tq 30) (.const (.str []))),mv 32 31,mg 33 0 32,gy 34 32 (.len 0 (tq 33)),gy 35 32 (.bin .leq (.node []) false (tq 34) (kq 24)),pf 36 32 35,mv 2 36]
 (.ret)))
def A.k127:=@A.kk 127 37 [.tmp 2] A.b127 (by kernel_rfl) rfl
def Zop{s:Str}{h:T O}{N:Nat}:Fn A.C 127 [.str s] h N (fun v _ _=>v=.bool (Zgm s)):=by
 intro w
 rw[Zac,A.k127 (by simp)]
 simp[A.b127]
 refine Zai [(2,4),(7,29)] (fun e r st=>st.n=N+1∧Zad N st.w=[]∧Keeps h N st.h (N+1)∧((e=.exit 0∧Zik 0 s=true)∨(e=.ret∧Zik 0 s=false∧r.get 2=some (.bool false)))) (fun m r st=>st.n=N+1∧Zad N st.w=[]∧Keeps h N st.h (N+1)∧∃k,m=s.length-k∧k≤s.length∧st.h.get N=some (.siter s k)∧Zik 0 s=Zik k (s.drop k)) s.length ?_ ?_ ?_
 ·exact⟨rfl,rfl,(Keeps.refl.set (Yr4 _)).up (by omega),0,by omega,by omega,by simp,by simp⟩
 ·rintro m r ⟨H,n1,W⟩ hr hf ⟨hn,hW,hK,k,rfl,hk,hrow,hz⟩
  simp only at hn hW hK hrow
  subst hn
  rw[Zaj]
  by_cases hlt:k<s.length
  ·obtain⟨c,hc⟩:=Zag hlt
   rw[Zaq hc,Zik]at hz
   simp only[Yka,Yh9,Zr5,Ymi]at hz
   have hK2:=fun o=>hK.set (o:=o) (Yr4 N)
   by_cases hlo:u8I c<128
   ·obtain⟨hi,hw⟩:=Yjl hc hlo
    by_cases hk0:k=0
    ·have e0:=eq_true hk0
     obtain hx|hx|hx|hx|hx|hx|hx|hx|hx:u8I c<48∨(48≤u8I c∧u8I c≤57)∨(57<u8I c∧u8I c<65)∨(65≤u8I c∧u8I c≤90)∨(90<u8I c∧u8I c<95)∨u8I c=95∨u8I c=96∨(97≤u8I c∧u8I c≤122)∨122<u8I c:=by omega
     all_goals
      first|(have a0:97≤u8I c:=by omega)|(have a0:¬(97≤u8I c):=by omega)
      first|(have a1:u8I c≤122:=by omega)|(have a1:¬(u8I c≤122):=by omega)
      first|(have a2:65≤u8I c:=by omega)|(have a2:¬(65≤u8I c):=by omega)
      first|(have a3:u8I c≤90:=by omega)|(have a3:¬(u8I c≤90):=by omega)
      simp(disch:=first|(simp;done)|omega|(simp only[Zaa,Zab,Yr2];omega)|rfl) [-getElem?_pos,A.lb127_0,hr,hf,hlt,hrow,hi,hw,e0,Zf8,Zae,Zvx,a0,a1,a2,a3,hW]
      simp[Zvx,a0,a1,a2,a3,e0]at hz
      first|exact⟨hK2 _,hz⟩|exact⟨_,by omega,hK2 _,k+1,rfl,by omega,rfl,hz⟩
    ·obtain hx|hx|hx|hx|hx|hx|hx|hx|hx:u8I c<48∨(48≤u8I c∧u8I c≤57)∨(57<u8I c∧u8I c<65)∨(65≤u8I c∧u8I c≤90)∨(90<u8I c∧u8I c<95)∨u8I c=95∨u8I c=96∨(97≤u8I c∧u8I c≤122)∨122<u8I c:=by omega
     all_goals
      first|(have a0:97≤u8I c:=by omega)|(have a0:¬(97≤u8I c):=by omega)
      first|(have a1:u8I c≤122:=by omega)|(have a1:¬(u8I c≤122):=by omega)
      first|(have a2:65≤u8I c:=by omega)|(have a2:¬(65≤u8I c):=by omega)
      first|(have a3:u8I c≤90:=by omega)|(have a3:¬(u8I c≤90):=by omega)
      first|(have a4:u8I c<48:=by omega)|(have a4:¬(u8I c<48):=by omega)
      first|(have a5:57<u8I c:=by omega)|(have a5:¬(57<u8I c):=by omega)
      first|(have a6:u8I c=95:=by omega)|(have a6:¬(u8I c=95):=by omega)
      first|(have a7:48≤u8I c:=by omega)|(have a7:¬(48≤u8I c):=by omega)
      first|(have a8:u8I c≤57:=by omega)|(have a8:¬(u8I c≤57):=by omega)
      simp(disch:=first|(simp;done)|omega|(simp only[Zaa,Zab,Yr2];omega)|rfl) [-getElem?_pos,A.lb127_0,hr,hf,hlt,hrow,hi,hw,hk0,Zf8,Zae,Zvx,a0,a1,a2,a3,a4,a5,a6,hW]
      simp[Zvx,a0,a1,a2,a3,hk0,a6,a7,a8]at hz
      first|exact⟨hK2 _,hz⟩|exact⟨_,by omega,hK2 _,k+1,rfl,by omega,rfl,hz⟩
   ·have hi:=Yjm hc (by omega)
    have hz:Zik 0 s=false:=by
     rw[hz];simp[Zvx];intro;omega
    have b1:¬Zme s k≤122:=by omega
    have b2:¬Zme s k≤90:=by omega
    have b3:¬Zme s k=95:=by omega
    have b4:¬Zme s k<48:=by omega
    have b5:57<Zme s k:=by omega
    by_cases hk0:k=0
    ·have e0:=eq_true hk0
     simp(disch:=first|(simp;done)|omega|(simp only[Zaa,Zab,Yr2];omega)|rfl) [-getElem?_pos,A.lb127_0,hr,hf,hlt,hrow,e0,Zf8,Zae,Zvx,b1,b2,hW,hz]
     exact hK2 _
    ·simp(disch:=first|(simp;done)|omega|(simp only[Zaa,Zab,Yr2];omega)|rfl) [-getElem?_pos,A.lb127_0,hr,hf,hlt,hrow,hk0,Zf8,Zae,Zvx,b1,b2,b3,b4,b5,hW,hz]
     exact hK2 _
  ·have:s.drop k=[]:=Ytd (by omega)
   rw[this,Zik]at hz
   have:k=s.length:=by omega
   subst this
   simp(disch:=first|(simp;done)|omega|(simp only[Zaa,Zab,Yr2];omega)|rfl) [-getElem?_pos,A.lb127_0,hr,hf,hz,hrow,hW]
   exact hK
 ·rintro e r ⟨H,n1,W⟩ hr ⟨hn,hW,hK,⟨rfl,hz⟩|⟨rfl,hz,h2⟩⟩
  ·simp only at hn hW hK
   subst hn
   by_cases he:s=[]
   ·simp(disch:=first|(simp;done)|omega|(simp only[Zaa,Zab,Yr2];omega)|rfl) [-getElem?_pos,hr,Ret,Zgm,Zae,he,hW,hK]
   ·have he2:s.isEmpty=false:=by simp[he]
    have he3:(s==[])=false:=by simp[he]
    by_cases hl:s.length≤24
    ·have:(s.length:Int)≤24:=by omega
     simp(disch:=first|(simp;done)|omega|(simp only[Zaa,Zab,Yr2];omega)|rfl) [-getElem?_pos,hr,Ret,Zgm,Zae,he,he2,he3,hW,hK,hz,hl,this]
    ·have:¬(s.length:Int)≤24:=by omega
     simp(disch:=first|(simp;done)|omega|(simp only[Zaa,Zab,Yr2];omega)|rfl) [-getElem?_pos,hr,Ret,Zgm,Zae,he,he2,he3,hW,hK,hz,hl,this]
  ·simp only at hn hW hK
   subst hn
   simp(disch:=first|(simp;done)|omega|(simp only[Zaa,Zab,Yr2];omega)|rfl) [-getElem?_pos,hr,Ret,Zgm,hW,hK,hz,h2]
set_option maxHeartbeats 4000000
def A.b65:Zah:=sr [bx 2 104 0,bx 3 31 1,mc 4 0]
 (.seq (.regD [ge 11 (.call (fq 66) []),fa 12 1 2,ld 13 12,ge 14 (.lookup .str (.agg [.bool false,.int .i64 0,.int .i64 0,.nilfunc]) (tq 11) (tq 13) true),mv 10 14,xt 15 10 0,xt 16 10 1,ge 5 (.alloc [.bool false,.int .i64 0,.int .i64 0,.nilfunc] 168),gn (.store 4 (tq 5) (tq 15)),mv 6 16] [0,0,2,7,15,31,31,0,191,511])
 (sr [fa 17 2 2,ld 18 17,ge 19 (.bin .neq (.prim .str) true (tq 18) (.const (.str []))),ge 20 (.call (fq 46) [tq 19,.const (.int .i64 1)]),mv 7 20]
 (.seq (sr [fa 21 0 5,ld 22 21]
 (cd 22
 (.reg [fa 23 2 2,ld 24 23,c1 25 45 24,mv 7 25])
 (.skip)))
 (sr [fa 26 3 2,ld 27 26,ln 28 27,mv 8 28]
 (sr [fa 29 3 2,ld 30 29,ge 31 (.mkfunc 126 [] [tq 3]),c2 32 125 30 31,mv 9 32]
 (.seq (.regD [fa 33 0 2,ld 34 33,c1 35 127 34,ge 36 (.un .not (tq 35)),ge 37 (.call (fq 46) [tq 36,.const (.int .i64 8)]),ld 38 3,fa 39 0 2,ld 40 39,c2 41 71 38 40,bc 42 .geq 41 0,ge 43 (.call (fq 46) [tq 42,.const (.int .i64 9)]),mv 44 6,ge 45 (.un .not (tq 44)),ge 46 (.call (fq 46) [tq 45,.const (.int .i64 13)]),mv 47 7,mv 48 8,bc 49 .gtr 48 16,ge 50 (.call (fq 46) [tq 49,.const (.int .i64 5)]),mv 51 8,fa 52 1 5,ge 53 (.iaddrArr 2 1 (tq 52) (kq 0)),ld 54 53,bi 55 .lss 51 54,mv 56 55,mh 57 8 56,gz 58 56 (.faddr 1 (tq 5)),gz 59 56 (.iaddrArr 2 1 (tq 58) (kq 1)),gz 60 56 (.load none (tq 59)),gz 61 56 (.bin .gtr (.node []) false (tq 57) (tq 60)),pt 62 56 61,ge 63 (.call (fq 46) [tq 62,.const (.int .i64 2)]),mv 64 9,ge 65 (.call (fq 46) [tq 64,.const (.int .i64 10)]),fa 66 4 2,ld 67 66,ge 68 (.call (fq 44) [tq 67,.const (.int .i64 1),.const (.int .i64 1000)]),ge 69 (.bslice 28 1 8 [.int .i64 0,.int .i64 0,.int .i64 0,.int .i64 0,.int .i64 0,.int .i64 0,.int .i64 0,.int .i64 0] [(0,1,(tq 37)),(1,1,(tq 43)),(2,1,(tq 46)),(3,1,(tq 47)),(4,1,(tq 50)),(5,1,(tq 63)),(6,1,(tq 65)),(7,1,(tq 68))]),c1 70 33 69,mv 4 70] [0,1,3,7,15,0,0,64,255,511,1023,0,2048,8191,0,0,32768,114687,0,0,524288,1572864,3932160,8372223,16760831,16760831,50315263,117424127,268419071,536854527,1073725439,0,4294950911,0,8589934592,34359721983,68719476735,137438953471,274877906943])
 (.ret)))))))
def A.k65:=@A.kk 65 71 [.tmp 4] A.b65 (by kernel_rfl) rfl
def A.b126:Zah:=sr [ge 3 (.mov (.const (.bool false)))]
 (sr [ld 4 1,mv 5 0,c2 6 71 4 5,bc 7 .lss 6 0,mv 3 7]
 (.ret))
def A.k126:=@A.kk 126 8 [.tmp 3] A.b126 (by kernel_rfl) rfl
def Yb0{h:T O}{N:Nat}{v:V}{g:List Stg}{n:Str}{q:Nat}{e:TypeId}{rw:Bool}(hg:Gr h N v g)(hl:g.length<1000000)(hq:h.get q=some (.cells [v] e rw))(hlt:q<N):FnV A.C (.func 126 [] [.ptr q 0]) [.str n] h N (fun u _ _=>u=.bool (decide (g.length≤pos g n))):=by
 intro w
 rw[Zac,A.k126 (by simp)]
 simp(disch:=first|(simp;done)|omega|(simp only[Zaa,Zab,Yr2];omega)|rfl) [-getElem?_pos,A.b126,hq]
 refine Zaf (Zp3 hg hl) ?_
 rintro v h2 n2 k2 rfl
 unfold Zhy
 by_cases hp:pos g n<g.length
 ·have e1:¬g.length≤pos g n:=by omega
  simp(disch:=first|(simp;done)|omega|(simp only[Zaa,Zab,Yr2];omega)|rfl) [-getElem?_pos,hp,Ret,e1,k2]
 ·have e1:g.length≤pos g n:=by omega
  simp(disch:=first|(simp;done)|omega|(simp only[Zaa,Zab,Yr2];omega)|rfl) [-getElem?_pos,hp,Ret,e1,k2]
def Zvu{g:List Stg}{l:List Str}:decide (0≤Zck (fun j=>decide (∃n,l[j]?=some n∧g.length≤pos g n)) 0 (strs l).length)=l.any (fun n=>decide (g.length≤pos g n)):=by
 rw[Bool.eq_iff_iff,decide_eq_true_eq,Zr0,List.any_eq_true,Zby]
 constructor
 ·rintro⟨j,_,h2,h3⟩
  obtain⟨n,h4,h5⟩:=of_decide_eq_true h3
  exact⟨n,Yr8 h4,by simpa using h5⟩
 ·rintro⟨n,h1,h2⟩
  obtain⟨j,hj⟩:=Yuk h1
  exact⟨j,by omega,by have:=Zaz hj;omega,by simp only[decide_eq_true_eq];exact⟨n,hj,by simpa using h2⟩⟩
def Zz7{h:T O}{N:Nat}{v inp:V}{g:List Stg}{s:Stg}(hg:Gr h N v g)(hl:g.length<1000000)(hi:Sl h N inp (strs s.inputs))(hil:s.inputs.length<1000000)(hf:s.factor.length≤100000):Fn A.C 65 [.agg (Zb9 s inp),v] h N (fun u _ _=>u=.int .i64 (chkStage g s:Nat)):=by
 intro w
 rw[Zac,A.k65 (by simp)]
 have hvo:=hg.form.one
 have hio:=hi.form.one
 have hvc:=hg.form.cells
 unfold V.one at hvo hio
 unfold V.cells at hvc
 have k0:Keeps h N ((h.set N (.cells (Zb9 s inp) 104 true)).set (N+1) (.cells [v] 31 true)) (N+1+1):=(Keeps.refl.new _).new _
 simp(disch:=first|(simp;done)|omega|(simp only[Zaa,Zab,Yr2];omega)|rfl) [-getElem?_pos,A.b65,Zb9,hvo,hio,hvc]
 refine Zaf Yhz ?_
 rintro v1 h1 n1 k1 ⟨i,i1,i2,rfl,hm⟩
 have kk:=k0.trans k1
 have c0:=k1.get N (by omega)
 have c1:=k1.get (N+1) (by omega)
 simp at c0 c1
 have kle:=k1.le
 obtain⟨f,hff,hlk⟩:=Yfi (st:=⟨h1,n1,[]⟩) s.op
 have hd:opOf s.op=none→(opOf s.op).getD ⟨false,0,0⟩=⟨false,0,0⟩:=fun h=>by rw[h];rfl
 have ho:opOf s.op=some ((opOf s.op).getD ⟨false,0,0⟩)∨opOf s.op=none:=by cases opOf s.op<;>simp
 generalize hop:(opOf s.op).getD ⟨false,0,0⟩=o at*
 have d1:¬N=n1:=by omega
 have d2:¬N+1=n1:=by omega
 have d3:N<n1:=by omega
 have d4:N+1<n1:=by omega
 have lz:=hi.len
 rw[Zby]at lz
 rcases hff with rfl|⟨fk,rfl⟩
 all_goals
  cases hfa:o.factor
  ·simp(disch:=first|(simp;done)|omega|(simp only[Zaa,Zab,Yr2];omega)|rfl) [-getElem?_pos,c0,c1,hm,hlk,d1,d2,d3,d4,splice,Zcg,hfa,lz]
   refine Zaf (Zo1 (strs s.inputs) (fun j=>decide (∃n,s.inputs[j]?=some n∧g.length≤pos g n)) (hi.keep ((kk.new _).set kk.le)) (by rw[Zby];omega) ?_) ?_
   ·intro j x hx h' n' hk
    obtain⟨n,hn⟩:=Zag (l:=s.inputs) (k:=j) (by have:=Zaz hx;rw[Zby]at this;exact this)
    rw[Zb5 hn]at hx
    obtain rfl:=Ysx hx
    have hkl:=hk.le
    have:=Yb0 (n:=n) (q:=N+1) (e:=31) (rw:=true) ((hg.keep ((kk.new _).set kk.le)).keep hk) hl ((hk.get _ (by omega)).trans (by simp[d1,d2,c1])) (by omega)
    simpa[hn]using this
   rintro u h3 n3 k3 rfl
   have kle3:=k3.le
   have kz:=((kk.new _).set kk.le).trans k3
   have s0:=k3.get N (by omega)
   have s1:=k3.get (N+1) (by omega)
   have s2:=k3.get n1 (by omega)
   simp[d1,d2,c0,c1]at s0 s1 s2
   rw[Zvu]
   simp(disch:=first|(simp;done)|omega|(simp only[Zaa,Zab,Yr2];omega)|rfl) [-getElem?_pos,s0,s1,s2]
   refine Zaf Zop ?_
   rintro u h4 n4 k4 rfl
   have kle4:=k4.le
   have u0:=(k4.get N (by omega)).trans s0
   have u1:=(k4.get (N+1) (by omega)).trans s1
   have u2:=(k4.get n1 (by omega)).trans s2
   simp(disch:=first|(simp;done)|omega|(simp only[Zaa,Zab,Yr2];omega)|rfl) [-getElem?_pos,u0,u1,u2,Zcg]
   refine Zaf (Zp3 (hg.keep (kz.trans k4)) hl) ?_
   rintro u h5 n5 k5 rfl
   have kle5:=k5.le
   have v0:=(k5.get N (by omega)).trans u0
   have v1:=(k5.get (N+1) (by omega)).trans u1
   have v2:=(k5.get n1 (by omega)).trans u2
   have y1:N<n3:=by omega
   have y2:N<n4:=by omega
   have y3:N+1<n4:=by omega
   have y4:N<n5:=by omega
   have y5:n1<n5:=by omega
   have wok:¬n1<N:=by omega
   have kf:=fun o=>((kz.trans k4).trans k5).new o
   by_cases hlo:(s.inputs.length:Int)<(o.lo:Int)
   ·simp(disch:=first|(simp;done)|omega|(simp only[Zaa,Zab,Yr2];omega)|rfl) [-getElem?_pos,v0,v1,v2,Zcg,Zgo,y1,y2,y3,y4,y5,hlo,splice,Zpm]
    refine⟨by simp[wok],kf _,?_⟩
    rw[Zlq ho (by intro _;simp[Zcl,hfa];split<;>rfl) (by rw[Yr6 (.inl (by omega))])]
   ·simp(disch:=first|(simp;done)|omega|(simp only[Zaa,Zab,Yr2];omega)|rfl) [-getElem?_pos,v0,v1,v2,Zcg,Zgo,y1,y2,y3,y4,y5,hlo,splice,Zpm]
    have hlo':¬s.inputs.length<o.lo:=by omega
    refine⟨by simp[wok],kf _,?_⟩
    rw[Zlq ho (by intro _;simp[Zcl,hfa];split<;>rfl) (by simp[hlo'])]
  ·simp(disch:=first|(simp;done)|omega|(simp only[Zaa,Zab,Yr2];omega)|rfl) [-getElem?_pos,c0,c1,hm,hlk,d1,d2,d3,d4,splice,Zcg,hfa,lz]
   refine Zaf (Zwc hf) ?_
   rintro u h2 n2 k2 rfl
   have kle2:=k2.le
   have t0:=k2.get N (by omega)
   have t1:=k2.get (N+1) (by omega)
   have t2:=k2.get n1 (by omega)
   simp[d1,d2,c0,c1]at t0 t1 t2
   simp(disch:=first|(simp;done)|omega|(simp only[Zaa,Zab,Yr2];omega)|rfl) [-getElem?_pos,t0,t1,t2,lz]
   refine Zaf (Zo1 (strs s.inputs) (fun j=>decide (∃n,s.inputs[j]?=some n∧g.length≤pos g n)) (hi.keep (((kk.new _).set kk.le).trans k2)) (by rw[Zby];omega) ?_) ?_
   ·intro j x hx h' n' hk
    obtain⟨n,hn⟩:=Zag (l:=s.inputs) (k:=j) (by have:=Zaz hx;rw[Zby]at this;exact this)
    rw[Zb5 hn]at hx
    obtain rfl:=Ysx hx
    have hkl:=hk.le
    have:=Yb0 (n:=n) (q:=N+1) (e:=31) (rw:=true) ((hg.keep (((kk.new _).set kk.le).trans k2)).keep hk) hl ((hk.get _ (by omega)).trans t1) (by omega)
    simpa[hn]using this
   rintro u h3 n3 k3 rfl
   have kle3:=k3.le
   have kz:=(((kk.new _).set kk.le).trans k2).trans k3
   have s0:=(k3.get N (by omega)).trans t0
   have s1:=(k3.get (N+1) (by omega)).trans t1
   have s2:=(k3.get n1 (by omega)).trans t2
   rw[Zvu]
   simp(disch:=first|(simp;done)|omega|(simp only[Zaa,Zab,Yr2];omega)|rfl) [-getElem?_pos,s0,s1,s2]
   refine Zaf Zop ?_
   rintro u h4 n4 k4 rfl
   have kle4:=k4.le
   have u0:=(k4.get N (by omega)).trans s0
   have u1:=(k4.get (N+1) (by omega)).trans s1
   have u2:=(k4.get n1 (by omega)).trans s2
   simp(disch:=first|(simp;done)|omega|(simp only[Zaa,Zab,Yr2];omega)|rfl) [-getElem?_pos,u0,u1,u2,Zcg]
   refine Zaf (Zp3 (hg.keep (kz.trans k4)) hl) ?_
   rintro u h5 n5 k5 rfl
   have kle5:=k5.le
   have v0:=(k5.get N (by omega)).trans u0
   have v1:=(k5.get (N+1) (by omega)).trans u1
   have v2:=(k5.get n1 (by omega)).trans u2
   have y1:N<n3:=by omega
   have y2:N<n4:=by omega
   have y3:N+1<n4:=by omega
   have y4:N<n5:=by omega
   have y5:n1<n5:=by omega
   have wok:¬n1<N:=by omega
   have kf:=fun o=>((kz.trans k4).trans k5).new o
   by_cases hlo:(s.inputs.length:Int)<(o.lo:Int)
   ·simp(disch:=first|(simp;done)|omega|(simp only[Zaa,Zab,Yr2];omega)|rfl) [-getElem?_pos,v0,v1,v2,Zcg,Zgo,y1,y2,y3,y4,y5,hlo,splice,Zpm]
    refine⟨by simp[wok],kf _,?_⟩
    rw[Zlq ho (by intro _;simp[Zcl,hfa]) (by rw[Yr6 (.inl (by omega))])]
   ·simp(disch:=first|(simp;done)|omega|(simp only[Zaa,Zab,Yr2];omega)|rfl) [-getElem?_pos,v0,v1,v2,Zcg,Zgo,y1,y2,y3,y4,y5,hlo,splice,Zpm]
    have hlo':¬s.inputs.length<o.lo:=by omega
    refine⟨by simp[wok],kf _,?_⟩
    rw[Zlq ho (by intro _;simp[Zcl,hfa]) (by simp[hlo'])]
def A.lb34_0:Zah:=sr [bi 23 .lss 22 21]
 (.seq (cd 23
 (.skip)
 (.exit 0))
 (.seq (.block 1 (sr [mv 24 22,ia 25 5 20 22,lN 26 5 25,ge 5 (.alloc [(.str []),(.str []),(.str []),.nilslice,.int .i64 0] 104),mv 4 24,gn (.store 5 (tq 5) (tq 26))]
 (.seq (.regD [lN 27 5 5,mv 28 0,mv 29 4,ge 30 (.sliceSl 5 (tq 28) none (some (tq 29)) none),c2 31 65 27 30,mv 6 31] [0,0,0,6,15,31])
 (sr [mv 32 6,ni 33 32 0]
 (cd 33
 (sr [mv 34 6,mv 2 34]
 (.ret))
 (.skip))))))
 (.reg [bc 35 .add 22 1,mv 22 35])))
def A.b34:Zah:=sr [mc 2 0]
 (.seq (sr [mv 7 0,ln 8 7,ei 9 8 0,ge 10 (.call (fq 46) [tq 9,.const (.int .i64 12)]),mv 11 0,ln 12 11,bc 13 .gtr 12 16,ge 14 (.call (fq 46) [tq 13,.const (.int .i64 5)]),ge 15 (.bslice 28 1 2 [.int .i64 0,.int .i64 0] [(0,1,(tq 10)),(1,1,(tq 14))]),c1 16 33 15,mv 3 16]
 (sr [mv 17 3,ni 18 17 0]
 (cd 18
 (sr [mv 19 3,mv 2 19]
 (.ret))
 (.skip))))
 (.seq (sr [mv 20 0,ln 21 20,mc 22 0]
 (.block 0 (.loop A.lb34_0)))
 (sr [mc 2 0]
 (.ret))))
def A.k34:=@A.kk 34 36 [.tmp 2] A.b34 (by kernel_rfl) rfl
def Yp9(g:List Stg):Prop:=∀s∈g,s.factor.length≤20∧s.inputs.length<1000000
def Zqb{h:T O}{N:Nat}{v:V}{g:List Stg}(hg:Gr h N v g)(hl:g.length<1000000)(hf:Yp9 g):Fn A.C 34 [v] h N (fun u _ _=>u=.int .i64 (chkGraph g:Nat)):=by
 intro w
 rw[Zac,A.k34 (by simp)]
 have lg:=hg.len
 by_cases h0:g.length=0
 ·have h0':(g.length:Int)=0:=by omega
  simp(disch:=first|(simp;done)|omega|(simp only[Zaa,Zab,Yr2];omega)|rfl) [-getElem?_pos,A.b34,lg,h0,Zcg,Zae,splice,Zpo,Zan,Ret,chkGraph]
  exact Keeps.refl.new _
 ·have h0':¬(g.length:Int)=0:=by omega
  have hne:g≠[]:=fun h=>by rw[h]at h0;simp at h0
  by_cases h16:16<g.length
  ·have h16':16<(g.length:Int):=by omega
   simp(disch:=first|(simp;done)|omega|(simp only[Zaa,Zab,Yr2];omega)|rfl) [-getElem?_pos,A.b34,lg,h0,h0',hne,h16,h16',Zcg,Zae,splice,Zpo,Zan,Ret,chkGraph]
   exact Keeps.refl.new _
  ·have h16':¬16<(g.length:Int):=by omega
   have hc:chkGraph g=Zqa [] g:=by simp[chkGraph,h0,h16,hne]
   simp(disch:=first|(simp;done)|omega|(simp only[Zaa,Zab,Yr2];omega)|rfl) [-getElem?_pos,A.b34,lg,h0,h0',hne,h16,h16',Zcg,Zae,splice,Zpo,Zan]
   refine Zai [(2,2),(4,6),(22,35)] (fun e r st=>Zad N st.w=[]∧Keeps h N st.h st.n∧((e=.exit 0∧Zqa [] g=0)∨(e=.ret∧r.get 2=some (.int .i64 (Zqa [] g:Nat))))) (fun m r st=>Zad N st.w=[]∧Keeps h N st.h st.n∧∃k,k+m=g.length∧r.get 22=some (.int .i64 k)∧Zqa [] g=Zqa (g.take k) (g.drop k)) g.length ?_ ?_ ?_
   ·exact⟨by simp,Keeps.refl.new _,0,by omega,by simp,by simp⟩
   ·rintro m r ⟨H,n1,W⟩ hr hf2 ⟨hW,hK,k,hk,h22,hz⟩
    simp only at hW hK
    rw[Zaj]
    cases m with
    |zero=>
     have:k=g.length:=by omega
     subst this
     rw[Yti,Zqa]at hz
     simp(disch:=first|(simp;done)|omega|(simp only[Zaa,Zab,Yr2];omega)|rfl) [-getElem?_pos,A.lb34_0,hr,hf2,h22,hW,hK,hz]
    |succ m=>
     have hlt:k<g.length:=by omega
     obtain⟨s,hs⟩:=Zag hlt
     have hgH:=hg.keep hK
     obtain⟨i,o,cc,e,rw,inp,q1,q2,q3,q4,q5⟩:=hgH.at hs
     obtain⟨ff1,ff2⟩:=hf s (Yr8 hs)
     rw[Zaq hs,Zqa]at hz
     have hk1:(k:Int)<(g.length:Int):=by omega
     have hio:=q5.form.one
     unfold V.one at hio
     have d1:¬i=n1:=by omega
     simp(disch:=first|(simp;done)|omega|(simp only[Zaa,Zab,Yr2];omega)|rfl) [-getElem?_pos,A.lb34_0,hr,hf2,h22,hk1,hlt,lg,q1,q3,q4,Zb9,hio,d1,splice,Zcj,evOpt,Zal]
     have hK1:=(hK.new (.cells [.str [],.str [],.str [],.nilslice,.int .i64 0] 104 true)).set (i:=n1) (o:=.cells (Zb9 s inp) 104 true) hK.le
     obtain⟨v',e1,e2⟩:=(hg.keep hK1).slice (w:=[]) (lo:=0) (hi:=k) (by omega) (by omega) none (some (.int .i64 k)) (.inr ⟨rfl,rfl⟩) (.inl rfl)
     rw[Yuj]at e2
     unfold Zb9 at e1 e2
     simp(disch:=first|(simp;done)|omega|(simp only[Zaa,Zab,Yr2];omega)|rfl) [-getElem?_pos,e1]
     have hlt2:(g.take k).length<1000000:=by simp;omega
     refine Zaf (Zz7 e2 hlt2 (q5.keep (((Keeps.refl.new _)).set (Yr4 _))) ff2 (by omega)) ?_
     rintro u h3 n3 k3 rfl
     have kk:=hK1.trans k3
     have wok:¬n1<N:=by have:=hK.le;omega
     by_cases hz0:chkStage (g.take k) s=0
     ·rw[hz0]at hz
      simp at hz
      simp(disch:=first|(simp;done)|omega|(simp only[Zaa,Zab,Yr2];omega)|rfl) [-getElem?_pos,hr,hf2,h22,hz0,Zae,hW,wok]
      exact⟨m,by omega,kk,k+1,by omega,by simp,by rw[hz,Yta,hs];rfl⟩
     ·rw[Yr6 hz0]at hz
      simp(disch:=first|(simp;done)|omega|(simp only[Zaa,Zab,Yr2];omega)|rfl) [-getElem?_pos,hr,hf2,h22,hz0,Zae,hW,wok,hz]
      exact kk
   ·rintro e r ⟨H,n1,W⟩ hr ⟨hW,hK,⟨rfl,hz⟩|⟨rfl,h4⟩⟩
    ·simp only at hW hK
     simp(disch:=first|(simp;done)|omega|(simp only[Zaa,Zab,Yr2];omega)|rfl) [-getElem?_pos,hr,hz,Ret,hW,hK,hc]
    ·simp only at hW hK
     simp(disch:=first|(simp;done)|omega|(simp only[Zaa,Zab,Yr2];omega)|rfl) [-getElem?_pos,hr,h4,Ret,hW,hK,hc]
open Go
variable {n:Nat}
def dch(n:Nat):UInt8:=UInt8.ofNat (48+n%10)
def Zir(n:Nat):(dch n).toNat=48+n%10:=by
 unfold dch
 simp
 omega
def Zc1(n:Nat):Str:=if h:n=0 then [] else Zc1 (n/10)++[dch n]
termination_by n
decreasing_by omega
def Zbg:Zc1 0=[]:=by unfold Zc1;simp
def Zce(h:n≠0):Zc1 n=Zc1 (n/10)++[dch n]:=by
 conv=>lhs;unfold Zc1
 rw[dif_neg h]
def decN(n:Nat):Str:=if n=0 then [48] else Zc1 n
def Zhu(n k:Nat):Str:=List.replicate (k-(Zc1 n).length) 48++Zc1 n
def decI(z:Int):Str:=if z<0 then 45::decN z.natAbs else decN z.natAbs
def Za0(q:Rat):Str:=if q.den=1 then decI q.num else decI q.num++47::decN q.den
def Zq7:∀(n:Nat),numV (Zc1 n)=n:=by
 intro n
 induction n using Nat.strongRecOn with
 |_ n ih=>
  by_cases h:n=0
  ·subst h;rw[Zbg];rfl
  ·rw[Zce h,Zg0,ih (n/10) (by omega),Zir]
   omega
def Ze0(n:Nat):numV (decN n)=n:=by
 unfold decN
 split
 ·subst_vars;rfl
 ·exact Zq7 n
def Zsh{s:Str}{c:UInt8}:Zb8 (s++[c])=(Zb8 s&&Zj1 c):=by simp[Zb8]
def Ygz(n:Nat):Zj1 (dch n)=true:=by
 unfold Zj1
 rw[Zir]
 simp
 omega
def Ydu:∀(n:Nat),Zb8 (Zc1 n)=true:=by
 intro n
 induction n using Nat.strongRecOn with
 |_ n ih=>
  by_cases h:n=0
  ·subst h;rw[Zbg];rfl
  ·rw[Zce h,Zsh,ih (n/10) (by omega),Ygz];rfl
def Zc3(n:Nat):Zb8 (decN n)=true:=by
 unfold decN
 split
 ·rfl
 ·exact Ydu n
def Zaw:∀{k n:Nat},n<10^k↔(Zc1 n).length≤k
 |0,n=>by
  simp only[Yvo,Nat.lt_one_iff,Nat.le_zero,List.length_eq_zero_iff]
  constructor
  ·rintro rfl;exact Zbg
  ·intro h
   have:=Zq7 n
   rw[h]at this
   exact this.symm
 |k+1,n=>by
  by_cases h:n=0
  ·subst h;rw[Zbg];simp;exact Yu7 (by decide)
  ·rw[Zce h,Ysn,Ytu,Ysr]
   have:=Zaw (k:=k) (n:=n/10)
   rw[Nat.succ_le_succ_iff,←this]
   exact(Yst (by decide)).symm
def Zni:∀{n:Nat},n≠0→∃c t,Zc1 n=c::t∧c.toNat≠48:=by
 intro n
 induction n using Nat.strongRecOn with
 |_ n ih=>
  intro h
  rw[Zce h]
  by_cases h0:n/10=0
  ·rw[h0,Zbg]
   refine⟨dch n,[],rfl,?_⟩
   rw[Zir];omega
  ·obtain⟨c,t,e,hc⟩:=ih (n/10) (by omega) h0
   rw[e]
   exact⟨c,t++[dch n],rfl,hc⟩
def Zkv(n:Nat):decN n≠[]:=by
 unfold decN
 split
 ·simp
 ·rename_i h
  obtain⟨c,t,e,_⟩:=Zni h
  rw[e];simp
def Yin{c:UInt8}(h:Zj1 c=true){k:Nat}:dch (10*k+(c.toNat-48))=c:=by
 unfold Zj1 at h
 simp only[decide_eq_true_eq]at h
 apply UInt8.toNat_inj.1
 rw[Zir];omega
def Yda:∀(t:Str) (c:UInt8),Zb8 (c::t)=true→c.toNat≠48→Zc1 (numV (c::t))=c::t:=by
 intro t
 generalize hn:t.length=n
 induction n generalizing t with
 |zero=>
  intro c ha hc
  have:t=[]:=Ysh hn
  subst this
  have hd:Zj1 c=true:=by simpa[Zb8]using ha
  have:=Yin hd (k:=0)
  have h2:48≤c.toNat∧c.toNat≤57:=by simpa[Zj1]using hd
  have e:numV [c]=c.toNat-48:=by simp[numV]
  rw[e,Zce (by omega),show (c.toNat-48)/10=0 by omega,Zbg]
  simp only[Nat.mul_zero,Yul]at this
  rw[this];rfl
 |succ n ih=>
  intro c ha hc
  obtain⟨u,d,rfl⟩:∃u d,t=u++[d]:=⟨t.dropLast,t.getLast (by rintro rfl;simp at hn),(Yvb _).symm⟩
  simp at hn
  have ha':Zb8 (c::u)=true∧Zj1 d=true:=by
   rw[←Yue,Zsh,Ysp]at ha
   exact ha
  have ih':=ih u (by omega) c ha'.1 hc
  have h2:48≤d.toNat∧d.toNat≤57:=by simpa[Zj1]using ha'.2
  rw[←Yue,Zg0]
  have hpos:numV (c::u)≠0:=by
   intro h0
   rw[h0,Zbg]at ih'
   cases ih'
  rw[Zce (by omega),show (10*numV (c::u)+(d.toNat-48))/10=numV (c::u) by omega,ih',Yin ha'.2]
def Zc0{s:Str}(h:Zcy s=true):decN (numV s)=s:=by
 cases s with
 |nil=>cases h
 |cons c t=>
  have h:(Zb8 (c::t)&&(decide (c.toNat≠48)||decide (t=[])))=true:=h
  rw[Ysp,Yvg,decide_eq_true_eq,decide_eq_true_eq]at h
  obtain⟨ha,hc⟩:=h
  by_cases h48:c.toNat=48
  ·rcases hc with hc|hc
   ·exact absurd h48 hc
   ·subst hc
    have:c=48:=UInt8.toNat_inj.1 h48
    subst this;rfl
  ·have e:=Yda t c ha h48
   have:numV (c::t)≠0:=by
    intro h0
    rw[h0,Zbg]at e
    cases e
   unfold decN
   rw[Yr3 this,e]
def Zwa{a b:Nat}(h:decN a=decN b):a=b:=by rw[←Ze0 a,h,Ze0]
def Zoz:∀{k a b:Nat},a≠0→b<10^k→Zc1 (a*10^k+b)=Zc1 a++Zhu b k:=by
 intro k
 induction k with
 |zero=>
  intro a b ha hb
  have:b=0:=by simpa using hb
  subst this
  simp[Zhu,Zbg]
 |succ k ih=>
  intro a b ha hb
  rw[Ysr]at hb ⊢
  have hb2:b/10<10^k:=(Yst (by decide)).2 hb
  have hp:0<10^k:=Yu7 (by decide)
  have hpos:a*(10^k*10)+b≠0:=by
   have:=Yvd (Nat.pos_of_ne_zero ha) (Yvd hp (by decide:0<10));omega
  have e1:(a*(10^k*10)+b)/10=a*10^k+b/10:=by
   rw[←Yvi,Ysy _ 10,Nat.mul_add_div (by decide)]
  have e2:dch (a*(10^k*10)+b)=dch b:=by
   apply UInt8.toNat_inj.1
   rw[Zir,Zir,←Yvi,Ysy _ 10,Nat.mul_add_mod]
  rw[Zce hpos,e1,ih ha hb2,e2,Yth]
  congr 1
  by_cases hb0:b=0
  ·subst hb0
   unfold Zhu
   rw[Nat.zero_div,Zbg]
   simp only[List.length_nil,Nat.sub_zero,Yuy]
   rw[List.replicate_succ']
   rfl
  ·unfold Zhu
   rw[Zce hb0,Ysn,Ytu,←Yth]
   rw[show k+1-((Zc1 (b/10)).length+1)=k-(Zc1 (b/10)).length by omega]
def Yg0{b k:Nat}(h:b<10^k):(Zhu b k).length=k:=by
 have:=Zaw.1 h
 simp[Zhu];omega
def Zj2(b:Nat):Zhu b 1=decN b:=by
 unfold Zhu decN
 split
 ·subst_vars;rw[Zbg];rfl
 ·rename_i h
  obtain⟨c,t,e,_⟩:=Zni h
  rw[e]
  simp
def Zr8(h:n≠0):0<(Zc1 n).length:=by
 obtain⟨c,t,e,_⟩:=Zni h
 rw[e];simp
def Ze2{k:Nat}(hk:0<k):(decN n).length≤k↔n<10^k:=by
 unfold decN
 split
 ·subst_vars
  simp
  exact⟨fun _=>Yu7 (by decide),fun _=>hk⟩
 ·exact Zaw.symm
def Zoy{n:Nat}:∃c t,decN n=c::t∧48≤c.toNat∧c.toNat≤57:=by
 have h:=Zc3 n
 cases hs:decN n with
 |nil=>exact absurd hs (Zkv n)
 |cons c t=>
  rw[hs]at h
  have:Zj1 c=true:=by
   simp[Zb8]at h;exact h.1
  exact⟨c,t,rfl,by simpa[Zj1]using this⟩
end Go.Mx
