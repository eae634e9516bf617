/-number-/
import Derived.Test.YtalhlaaapkpkiaaGreatDoorPaD
set_option linter.all false
namespace Go.Mx
open Go Go.Proofs
variable {s:Str}
set_option maxHeartbeats 1000000
set_option maxRecDepth 1000000
def A.ta79_0:Zav:=.seq (sr [mv 46 8,ge 47 (.un .not (tq 46)),ge 48 (.call (fq 138) [tq 47,.const (.int .i64 1)]),mv 49 5,ge 50 (.len 0 (tq 49)),bc 51 .gtr 50 600,mv 52 51,mh 53 6 52,gz 54 52 (.len 0 (tq 53)),gz 55 52 (.bin .gtr (.node []) false (tq 54) (kq 600)),pt 56 52 55,ge 57 (.call (fq 138) [tq 56,.const (.int .i64 4)]),ge 58 (.bslice 30 1 2 [.int .i64 0,.int .i64 0] [(0,1,(tq 48)),(1,1,(tq 57))]),c1 59 137 58,mv 9 59]
 (sr [mv 60 9,ni 61 60 0]
 (cd 61
 (sr [mv 62 9,mv 2 62]
 (.ret))
 (.skip))))
 (sr [mv 63 7,mv 64 63,mg 65 5 64,gy 66 64 (.call (fq 140) [tq 65]),mg 67 6 64,gy 68 64 (.call (fq 140) [tq 67]),gy 69 64 (.call (fq 139) [tq 66,tq 68]),gy 70 64 (.call (fq 142) [.const (.int .i64 1)]),gy 71 64 (.call (fq 141) [tq 69,tq 70]),gy 72 64 (.bin .neq (.prim .int) true (tq 71) (kq 0)),pf 73 64 72,mv 10 73]
 (sr [mv 74 10,ge 75 (.call (fq 138) [tq 74,.const (.int .i64 1)]),mv 2 75]
 (.ret)))
def A.b79:Zav:=sr [mc 2 0]
 (sr [mv 12 0,ge 13 (.call (fq 134) [tq 12,(.const (.str [45]))]),mv 11 13,xt 14 11 0,xt 15 11 1,mv 3 14,mv 4 15]
 (sr [mv 17 3,ge 18 (.call (fq 135) [tq 17,(.const (.str [47]))]),mv 16 18,xt 19 16 0,xt 20 16 1,xt 21 16 2,mv 5 19,mv 6 20,mv 7 21]
 (sr [mv 22 5,c1 23 136 22,mv 24 23,mg 25 4 24,gy 26 24 (.un .not (tq 25)),mg 27 26 24,mh 28 5 27,gz 29 27 (.bin .neq (.prim .str) true (tq 28) (.const (.str [48]))),gy 30 24 (.pick (tq 27) (.const (.bool true)) (tq 29)),pf 31 24 30,mv 8 31]
 (.seq (sr [mv 32 7]
 (cd 32
 (.reg [mv 33 8,mv 34 33,mg 35 6 34,gy 36 34 (.call (fq 136) [tq 35]),pf 37 34 36,mv 38 37,mg 39 6 38,gy 40 38 (.bin .neq (.prim .str) true (tq 39) (.const (.str [48]))),pf 41 38 40,mv 42 41,mg 43 6 42,gy 44 42 (.bin .neq (.prim .str) true (tq 43) (.const (.str [49]))),pf 45 42 44,mv 8 45])
 (.skip)))
 A.ta79_0))))
def A.k79:=@A.kk 79 76 [.tmp 2] A.b79 (by kernel_rfl) rfl
def Zr7{s:Str}(h:Zcu s=true):Zb7 s=true∧1≤s.length:=by
 cases s with
 |nil=>cases h
 |cons c s=>
  unfold Zcu at h
  rw[Ytt]at h
  exact⟨h.1,by simp⟩
def chkT(form br:Bool)(p d:Str):Nat:=if form=false then 1 else if 600<p.length∨600<d.length then 4 else if br=true∧Nat.gcd (numV p) (numV d)≠1 then 1 else 0
def Ygg{s:Str}(h:Zb7 s=true):negS s=false∧Zao s=s:=by
 cases s with
 |nil=>exact⟨rfl,rfl⟩
 |cons c s=>
  have hc:Zj6 c=true:=by simp[Zb7]at h;exact h.1
  unfold Zj6 at hc
  simp only[decide_eq_true_eq]at hc
  have:negS (c::s)=false:=by simp[negS];omega
  refine⟨this,?_⟩
  unfold Zao;rw[this];rfl
def Zv0{h:T O}{N:Nat}(hd:Zb7 s=true)(hl:s.length≤100000):Fn A.C 140 [.str s] h N (fun v h' n'=>In h' n' v (numV s:Nat)):=by
 obtain⟨h1,h2⟩:=Ygg hd
 have:=Ybh (s:=s) (h:=h) (N:=N) (by rw[h2];exact hd) (by rw[h2];exact hl)
 rw[h1,h2]at this
 exact this
def Yml{H:T O}{n:Nat}{r0:T V}{p d:Str}{form br:Bool}(hp:form=true→Zb7 p=true)(hd:form=true→br=true→Zb7 d=true)(lp:p.length≤100000)(ld:d.length≤100000)(a5:r0.get 5=some (.str p))(a6:r0.get 6=some (.str d))(a7:r0.get 7=some (.bool br))(a8:r0.get 8=some (.bool form)):
  Code A.C none A.ta79_0 ⟨r0,76,[]⟩ ⟨H,n,[]⟩ (fun e fr st=>e=.ret∧∃r,fr=⟨r,76,[]⟩∧r.get 2=some (.int .i64 (chkT form br p d:Nat))∧Zac n st.w=[]∧Keeps H n st.h st.n):=by
 rw[Zai]
 cases form with
 |false=>
  by_cases c1:600<p.length
  ·have c1':(600:Int)<(p.length:Int):=by omega
   simp[A.ta79_0,a5,a6,a7,a8,Zd9,c1',splice,Ziq,Zam,Zad,chkT]
   exact kset Keeps.refl _
  ·have c1':¬(600:Int)<(p.length:Int):=by omega
   by_cases c2:600<d.length
   ·have c2':(600:Int)<(d.length:Int):=by omega
    simp[A.ta79_0,a5,a6,a7,a8,Zd9,c1',c2',splice,Ziq,Zam,Zad,chkT]
    exact kset Keeps.refl _
   ·have c2':¬(600:Int)<(d.length:Int):=by omega
    simp[A.ta79_0,a5,a6,a7,a8,Zd9,c1',c2',splice,Ziq,Zam,Zad,chkT]
    exact kset Keeps.refl _
 |true=>
  by_cases c1:600<p.length
  ·have c1':(600:Int)<(p.length:Int):=by omega
   simp[A.ta79_0,a5,a6,a7,a8,Zd9,c1,c1',splice,Ziq,Zam,Zad,chkT]
   exact kset Keeps.refl _
  ·have c1':¬(600:Int)<(p.length:Int):=by omega
   by_cases c2:600<d.length
   ·have c2':(600:Int)<(d.length:Int):=by omega
    simp[A.ta79_0,a5,a6,a7,a8,Zd9,c1,c2,c1',c2',splice,Ziq,Zam,Zad,chkT]
    exact kset Keeps.refl _
   ·have c2':¬(600:Int)<(d.length:Int):=by omega
    have c3:¬(600<p.length∨600<d.length):=by omega
    cases br with
    |false=>
     simp[A.ta79_0,a5,a6,a7,a8,Zd9,c1,c2,c1',c2',splice,Ziq,Zam,Zad,chkT]
     exact kset Keeps.refl _
    |true=>
     have lwp:wl ((numV p:Nat):Int)≤100000:=Yu5 (Ze4 (Zea (hp rfl))) lp
     have lwd:wl ((numV d:Nat):Int)≤100000:=Yu5 (Ze4 (Zea (hd rfl rfl))) ld
     simp[A.ta79_0,a5,a6,a7,a8,Zd9,c1,c2,c1',c2',splice,Ziq,Zam,Zad]
     have kz:=kset (Keeps.refl (h:=H) (n:=n)) (.cells [.int .i64 0,.int .i64 0] 30 true)
     refine Zaf (Zv0 (hp rfl) (by omega)) ?_
     rintro v3 h3 n3 k3 hv3
     simp[a6]
     refine Zaf (Zv0 (hd rfl rfl) (by omega)) ?_
     rintro v4 h4 n4 k4 hv4
     simp[]
     refine Zaf (Yi8 (hv3.keep k4) hv4 (by omega) (by omega)) ?_
     rintro v5 h5 n5 k5 hv5
     simp[]
     refine Zaf Zt9 ?_
     rintro _ h6 n6 k6 rfl
     simp[]
     have hg:Int.gcd (numV p:Nat) (numV d:Nat)=Nat.gcd (numV p) (numV d):=rfl
     rw[hg]at hv5
     have lg:wl ((Nat.gcd (numV p) (numV d):Nat):Int)<100000000000:=by
      by_cases hz:numV p=0
      ·rw[hz,Nat.gcd_zero_left];omega
      ·have:=Zs8 (a:=((Nat.gcd (numV p) (numV d):Nat):Int)) (b:=((numV p:Nat):Int)) (by
        have:=Nat.gcd_le_left (numV d) (show 0<numV p by omega)
        omega)
       omega
     have l1:wl (1:Int)<100000000000:=by decide+kernel
     refine Zaf (Yjk (hv5.keep k6) (In.small (z:=1) (by omega) (by omega)) lg l1) ?_
     rintro _ h7 n7 k7 rfl
     have kk:=((((kz.trans k3).trans k4).trans k5).trans k6).trans k7
     generalize hgg:Nat.gcd (numV p) (numV d)=g at*
     by_cases g1:g=1
     ·subst g1
      simp[Zad,Zd9,chkT,c1,c2,sg3,hgg]
      exact kk
     ·have g2:¬sg3 ((g:Int)-1)=0:=by unfold sg3;split<;>(try split)<;>omega
      simp[Zad,Zd9,chkT,c1,c2,g1,g2,hgg]
      exact kk
def Zw6(hl:s.length≤100000){h:T O}{N:Nat}:Fn A.C 79 [.str s] h N (fun v _ _=>v=.int .i64 (chkNum s:Nat)):=by
 intro w
 have hb:(Zao s).length≤s.length:=by unfold Zao;split<;>simp
 have hc:=fun st=>Yjj (s:=Zao s) (st:=st) (by omega)
 rw[Zae,A.k79 (by simp)]
 show Run _ _ _ (Ye3 (Ret (fun v _ _=>v=.int .i64 (Ymm (negS s) (Zao s):Nat)) h N w))
 unfold Ymm
 have hle:=Zdc (Zao s)
 have hp1:((Zao s).take (slashAt (Zao s))).length≤100000:=by simp;omega
 have hd1:((Zao s).drop (slashAt (Zao s)+1)).length≤100000:=by simp;omega
 simp[A.b79,Zsr,hc]
 generalize negS s=neg at*
 generalize hbr:decide (slashAt (Zao s)<(Zao s).length)=br at*
 generalize hpe:(Zao s).take (slashAt (Zao s))=p at*
 generalize hde:(Zao s).drop (slashAt (Zao s)+1)=d at*
 clear hbr hpe hde hc
 have chk:Zke neg p br d=chkT (Zcb neg p br d) br p d:=rfl
 rw[chk]
 have fin:∀(h1:T O) (n1:Nat) (r:T V) (form:Bool),Keeps h N h1 n1→form=Zcb neg p br d→r.get 5=some (.str p)→r.get 6=some (.str d)→r.get 7=some (.bool br)→r.get 8=some (.bool form)→Run A.C [.fin [.tmp 2] ⟨h,N,w⟩] (exR (A.C.code none A.ta79_0 ⟨r,76,[]⟩ ⟨h1,n1,[]⟩)) (Ye3 (Ret (fun v _ _=>v=.int .i64 (chkT (Zcb neg p br d) br p d:Nat)) h N w)):=by
  intro h1 n1 r form k1 hform a5 a6 a7 a8
  refine Zbo (Yml (form:=form) (br:=br) (p:=p) (d:=d) ?_ ?_ hp1 hd1 a5 a6 a7 a8) ?_
  ·intro hf
   rw[hform]at hf
   unfold Zcb at hf
   simp only[Ytt]at hf
   exact(Zr7 hf.1.1).1
  ·intro hf hbt
   rw[hform]at hf
   unfold Zcb at hf
   rw[hbt]at hf
   simp only[Ytt,Bool.not_true,Bool.false_or]at hf
   exact(Zr7 hf.2.1.1).1
  ·rintro e fr ⟨h2,n2,W2⟩ ⟨rfl,r2,rfl,hr2,hW,hK⟩
   simp only at hW hK
   have hW2:=Zfk k1.le hW
   simp[hr2,Ret,hW2,hform]
   exact k1.trans hK
 refine Zaf (Zhb (by omega)) ?_
 rintro v h1 n1 k1 rfl
 have z0:Zcu [48]=true:=by decide
 by_cases hA:Zcu p=true
 ·have hB:(neg=true∧p=[48])∨(neg=false)∨(neg=true∧p≠[48]):=by
   cases neg
   ·exact .inr (.inl rfl)
   ·by_cases hq:p=[48]
    ·exact .inl ⟨rfl,hq⟩
    ·exact .inr (.inr ⟨rfl,hq⟩)
  rcases hB with⟨rfl,rfl⟩|rfl|⟨rfl,hpz⟩
  ·cases br
   ·simp[Zad,z0]
    exact fin _ _ _ false k1 (by simp[Zcb]) (by simp) (by simp) (by simp) (by simp)
   ·simp[Zad,z0]
    exact fin _ _ _ false k1 (by simp[Zcb]) (by simp) (by simp) (by simp) (by simp)
  ·cases br
   ·simp[Zad,hA]
    exact fin _ _ _ true k1 (by simp[Zcb,hA]) (by simp) (by simp) (by simp) (by simp)
   ·simp[Zad,hA]
    refine Zaf (Zhb (by omega)) ?_
    rintro v h2 n2 k2 rfl
    by_cases hD:Zcu d=true
    ·by_cases h48:d=[48]
     ·subst h48
      simp[Zad,z0,hA]
      exact fin _ _ _ false (k1.trans k2) (by simp[Zcb]) (by simp) (by simp) (by simp) (by simp)
     ·have e8:(d==[48])=false:=by simp[h48]
      have e9:(d==[49])=decide (d=[49]):=by by_cases h:d=[49]<;>simp[h]
      simp[Zad,hA,hD,e8,h48]
      exact fin _ _ _ (!(d==[49])) (k1.trans k2) (by simp[Zcb,hA,hD,h48,e9]) (by simp) (by simp) (by simp) (by simp)
    ·have hD:Zcu d=false:=by simpa using hD
     simp[Zad,hA,hD]
     exact fin _ _ _ false (k1.trans k2) (by simp[Zcb,hD]) (by simp) (by simp) (by simp) (by simp)
  ·have e1:(p==[48])=false:=by simp[hpz]
   cases br
   ·simp[Zad,hA,e1,hpz]
    exact fin _ _ _ true k1 (by simp[Zcb,hA,hpz]) (by simp) (by simp) (by simp) (by simp)
   ·simp[Zad,hA,e1,hpz]
    refine Zaf (Zhb (by omega)) ?_
    rintro v h2 n2 k2 rfl
    by_cases hD:Zcu d=true
    ·by_cases h48:d=[48]
     ·subst h48
      simp[Zad,z0,hA]
      exact fin _ _ _ false (k1.trans k2) (by simp[Zcb]) (by simp) (by simp) (by simp) (by simp)
     ·have e8:(d==[48])=false:=by simp[h48]
      have e9:(d==[49])=decide (d=[49]):=by by_cases h:d=[49]<;>simp[h]
      simp[Zad,hA,hD,e8,h48]
      exact fin _ _ _ (!(d==[49])) (k1.trans k2) (by simp[Zcb,hA,hD,h48,hpz,e9]) (by simp) (by simp) (by simp) (by simp)
    ·have hD:Zcu d=false:=by simpa using hD
     simp[Zad,hA,hD]
     exact fin _ _ _ false (k1.trans k2) (by simp[Zcb,hD]) (by simp) (by simp) (by simp) (by simp)
 ·have hA:Zcu p=false:=by simpa using hA
  cases br
  ·simp[Zad,hA]
   exact fin _ _ _ false k1 (by simp[Zcb,hA]) (by simp) (by simp) (by simp) (by simp)
  ·simp[Zad,hA]
   exact fin _ _ _ false k1 (by simp[Zcb,hA]) (by simp) (by simp) (by simp) (by simp)
noncomputable def A.w133:=A.q Tryz.f133
noncomputable def A.lb133_0:=A.ql A.w133 0 []
noncomputable def A.b133:=(fun x0=>A.qb A.w133 [x0]) A.lb133_0
def A.k133:=@A.kk 133 37 [.tmp 2] A.b133 (by kernel_rfl) rfl
def Zo6{s:Str}{h:T O}{N:Nat}:Fn A.C 133 [.str s] h N (fun v _ _=>v=.bool (Zgr s)):=by
 intro w
 rw[Zae,A.k133 (by simp)]
 simp[A.b133]
 refine Zah [(2,4),(7,29)] (fun e r st=>st.n=N+1∧Zac N st.w=[]∧Keeps h N st.h (N+1)∧((e=.exit 0∧Zir 0 s=true)∨(e=.ret∧Zir 0 s=false∧r.get 2=some (.bool false)))) (fun m r st=>st.n=N+1∧Zac N st.w=[]∧Keeps h N st.h (N+1)∧∃k,m=s.length-k∧k≤s.length∧st.h.get N=some (.siter s k)∧Zir 0 s=Zir k (s.drop k)) s.length ?_ ?_ ?_
 ·exact⟨rfl,rfl,(Keeps.refl.set (Ys6 _)).up (by omega),0,by omega,by omega,by simp,by simp⟩
 ·rintro m r ⟨H,n1,W⟩ hr hf ⟨hn,hW,hK,k,rfl,hk,hrow,hz⟩
  simp only at hn hW hK hrow
  subst hn
  rw[Zai]
  by_cases hlt:k<s.length
  ·obtain⟨c,hc⟩:=Zag hlt
   rw[Zap hc,Zir]at hz
   simp only[Yk7,Yi3,Zsn,Ynh]at hz
   have hK2:=fun o=>hK.set (o:=o) (Ys6 N)
   by_cases hlo:u8I c<128
   ·obtain⟨hi,hw⟩:=Ykh hc hlo
    by_cases hk0:k=0
    ·have e0:=eq_true hk0
     obtain hx|hx|hx|hx|hx|hx|hx|hx|hx:u8I c<48∨(48≤u8I c∧u8I c≤57)∨(57<u8I c∧u8I c<65)∨(65≤u8I c∧u8I c≤90)∨(90<u8I c∧u8I c<95)∨u8I c=95∨u8I c=96∨(97≤u8I c∧u8I c≤122)∨122<u8I c:=by omega
     all_goals
      first|(have a0:97≤u8I c:=by omega)|(have a0:¬(97≤u8I c):=by omega)
      first|(have a1:u8I c≤122:=by omega)|(have a1:¬(u8I c≤122):=by omega)
      first|(have a2:65≤u8I c:=by omega)|(have a2:¬(65≤u8I c):=by omega)
      first|(have a3:u8I c≤90:=by omega)|(have a3:¬(u8I c≤90):=by omega)
      simp(disch:=first|(simp;done)|omega|(simp only[Zaa,Zab,Ys4];omega)|rfl) [-getElem?_pos,A.lb133_0,hr,hf,hlt,hrow,hi,hw,e0,Zgd,Zad,Zwp,a0,a1,a2,a3,hW]
      simp[Zwp,a0,a1,a2,a3,e0]at hz
      first|exact⟨hK2 _,hz⟩|exact⟨_,by omega,hK2 _,k+1,rfl,by omega,rfl,hz⟩
    ·obtain hx|hx|hx|hx|hx|hx|hx|hx|hx:u8I c<48∨(48≤u8I c∧u8I c≤57)∨(57<u8I c∧u8I c<65)∨(65≤u8I c∧u8I c≤90)∨(90<u8I c∧u8I c<95)∨u8I c=95∨u8I c=96∨(97≤u8I c∧u8I c≤122)∨122<u8I c:=by omega
     all_goals
      first|(have a0:97≤u8I c:=by omega)|(have a0:¬(97≤u8I c):=by omega)
      first|(have a1:u8I c≤122:=by omega)|(have a1:¬(u8I c≤122):=by omega)
      first|(have a2:65≤u8I c:=by omega)|(have a2:¬(65≤u8I c):=by omega)
      first|(have a3:u8I c≤90:=by omega)|(have a3:¬(u8I c≤90):=by omega)
      first|(have a4:u8I c<48:=by omega)|(have a4:¬(u8I c<48):=by omega)
      first|(have a5:57<u8I c:=by omega)|(have a5:¬(57<u8I c):=by omega)
      first|(have a6:u8I c=95:=by omega)|(have a6:¬(u8I c=95):=by omega)
      first|(have a7:48≤u8I c:=by omega)|(have a7:¬(48≤u8I c):=by omega)
      first|(have a8:u8I c≤57:=by omega)|(have a8:¬(u8I c≤57):=by omega)
      simp(disch:=first|(simp;done)|omega|(simp only[Zaa,Zab,Ys4];omega)|rfl) [-getElem?_pos,A.lb133_0,hr,hf,hlt,hrow,hi,hw,hk0,Zgd,Zad,Zwp,a0,a1,a2,a3,a4,a5,a6,hW]
      simp[Zwp,a0,a1,a2,a3,hk0,a6,a7,a8]at hz
      first|exact⟨hK2 _,hz⟩|exact⟨_,by omega,hK2 _,k+1,rfl,by omega,rfl,hz⟩
   ·have hi:=Yki hc (by omega)
    have hz:Zir 0 s=false:=by
     rw[hz];simp[Zwp];intro;omega
    have b1:¬Zmy s k≤122:=by omega
    have b2:¬Zmy s k≤90:=by omega
    have b3:¬Zmy s k=95:=by omega
    have b4:¬Zmy s k<48:=by omega
    have b5:57<Zmy s k:=by omega
    by_cases hk0:k=0
    ·have e0:=eq_true hk0
     simp(disch:=first|(simp;done)|omega|(simp only[Zaa,Zab,Ys4];omega)|rfl) [-getElem?_pos,A.lb133_0,hr,hf,hlt,hrow,e0,Zgd,Zad,Zwp,b1,b2,hW,hz]
     exact hK2 _
    ·simp(disch:=first|(simp;done)|omega|(simp only[Zaa,Zab,Ys4];omega)|rfl) [-getElem?_pos,A.lb133_0,hr,hf,hlt,hrow,hk0,Zgd,Zad,Zwp,b1,b2,b3,b4,b5,hW,hz]
     exact hK2 _
  ·have:s.drop k=[]:=Yui (by omega)
   rw[this,Zir]at hz
   have:k=s.length:=by omega
   subst this
   simp(disch:=first|(simp;done)|omega|(simp only[Zaa,Zab,Ys4];omega)|rfl) [-getElem?_pos,A.lb133_0,hr,hf,hz,hrow,hW]
   exact hK
 ·rintro e r ⟨H,n1,W⟩ hr ⟨hn,hW,hK,⟨rfl,hz⟩|⟨rfl,hz,h2⟩⟩
  ·simp only at hn hW hK
   subst hn
   by_cases he:s=[]
   ·simp(disch:=first|(simp;done)|omega|(simp only[Zaa,Zab,Ys4];omega)|rfl) [-getElem?_pos,hr,Ret,Zgr,Zad,he,hW,hK]
   ·have he2:s.isEmpty=false:=by simp[he]
    have he3:(s==[])=false:=by simp[he]
    by_cases hl:s.length≤24
    ·have:(s.length:Int)≤24:=by omega
     simp(disch:=first|(simp;done)|omega|(simp only[Zaa,Zab,Ys4];omega)|rfl) [-getElem?_pos,hr,Ret,Zgr,Zad,he,he2,he3,hW,hK,hz,hl,this]
    ·have:¬(s.length:Int)≤24:=by omega
     simp(disch:=first|(simp;done)|omega|(simp only[Zaa,Zab,Ys4];omega)|rfl) [-getElem?_pos,hr,Ret,Zgr,Zad,he,he2,he3,hW,hK,hz,hl,this]
  ·simp only at hn hW hK
   subst hn
   simp(disch:=first|(simp;done)|omega|(simp only[Zaa,Zab,Ys4];omega)|rfl) [-getElem?_pos,hr,Ret,Zgr,hW,hK,hz,h2]
set_option maxHeartbeats 4000000
noncomputable def A.b78:=A.q Tryz.f78
def A.k78:=@A.kk 78 71 [.tmp 4] A.b78 (by kernel_rfl) rfl
noncomputable def A.b132:=A.q Tryz.f132
def A.k132:=@A.kk 132 8 [.tmp 3] A.b132 (by kernel_rfl) rfl
def Ycs{h:T O}{N:Nat}{v:V}{g:List Stg}{n:Str}{q:Nat}{e:TypeId}{rw:Bool}(hg:Gr h N v g)(hl:g.length<1000000)(hq:h.get q=some (.cells [v] e rw))(hlt:q<N):FnV A.C (.func 132 [] [.ptr q 0]) [.str n] h N (fun u _ _=>u=.bool (decide (g.length≤pos g n))):=by
 intro w
 rw[Zae,A.k132 (by simp)]
 simp(disch:=first|(simp;done)|omega|(simp only[Zaa,Zab,Ys4];omega)|rfl) [-getElem?_pos,A.b132,hq]
 refine Zaf (Zqj hg hl) ?_
 rintro v h2 n2 k2 rfl
 unfold Zh4
 by_cases hp:pos g n<g.length
 ·have e1:¬g.length≤pos g n:=by omega
  simp(disch:=first|(simp;done)|omega|(simp only[Zaa,Zab,Ys4];omega)|rfl) [-getElem?_pos,hp,Ret,e1,k2]
 ·have e1:g.length≤pos g n:=by omega
  simp(disch:=first|(simp;done)|omega|(simp only[Zaa,Zab,Ys4];omega)|rfl) [-getElem?_pos,hp,Ret,e1,k2]
def Zwm{g:List Stg}{l:List Str}:decide (0≤Zcl (fun j=>decide (∃n,l[j]?=some n∧g.length≤pos g n)) 0 (strs l).length)=l.any (fun n=>decide (g.length≤pos g n)):=by
 rw[Bool.eq_iff_iff,decide_eq_true_eq,Zsi,List.any_eq_true,Zbv]
 constructor
 ·rintro⟨j,_,h2,h3⟩
  obtain⟨n,h4,h5⟩:=of_decide_eq_true h3
  exact⟨n,Ys9 h4,by simpa using h5⟩
 ·rintro⟨n,h1,h2⟩
  obtain⟨j,hj⟩:=Yvh h1
  exact⟨j,by omega,by have:=Zat hj;omega,by simp only[decide_eq_true_eq];exact⟨n,hj,by simpa using h2⟩⟩
def Ya4{h:T O}{N:Nat}{v inp:V}{g:List Stg}{s:Stg}(hg:Gr h N v g)(hl:g.length<1000000)(hi:Sl h N inp (strs s.inputs))(hil:s.inputs.length<1000000)(hf:s.factor.length≤100000):Fn A.C 78 [.agg (Zb2 s inp),v] h N (fun u _ _=>u=.int .i64 (chkStage g s:Nat)):=by
 intro w
 rw[Zae,A.k78 (by simp)]
 have hvo:=hg.form.one
 have hio:=hi.form.one
 have hvc:=hg.form.cells
 unfold V.one at hvo hio
 unfold V.cells at hvc
 have k0:Keeps h N ((h.set N (.cells (Zb2 s inp) 109 true)).set (N+1) (.cells [v] 33 true)) (N+1+1):=(Keeps.refl.new _).new _
 simp(disch:=first|(simp;done)|omega|(simp only[Zaa,Zab,Ys4];omega)|rfl) [-getElem?_pos,A.b78,Zb2,hvo,hio,hvc]
 refine Zaf Yiu ?_
 rintro v1 h1 n1 k1 ⟨i,i1,i2,rfl,hm⟩
 have kk:=k0.trans k1
 have c0:=k1.get N (by omega)
 have c1:=k1.get (N+1) (by omega)
 simp at c0 c1
 have kle:=k1.le
 obtain⟨f,hff,hlk⟩:=Yf7 (st:=⟨h1,n1,[]⟩) s.op
 have hd:opOf s.op=none→(opOf s.op).getD ⟨false,0,0⟩=⟨false,0,0⟩:=fun h=>by rw[h];rfl
 have ho:opOf s.op=some ((opOf s.op).getD ⟨false,0,0⟩)∨opOf s.op=none:=by cases opOf s.op<;>simp
 generalize hop:(opOf s.op).getD ⟨false,0,0⟩=o at*
 have d1:¬N=n1:=by omega
 have d2:¬N+1=n1:=by omega
 have d3:N<n1:=by omega
 have d4:N+1<n1:=by omega
 have lz:=hi.len
 rw[Zbv]at lz
 rcases hff with rfl|⟨fk,rfl⟩
 all_goals
  cases hfa:o.factor
  ·simp(disch:=first|(simp;done)|omega|(simp only[Zaa,Zab,Ys4];omega)|rfl) [-getElem?_pos,c0,c1,hm,hlk,d1,d2,d3,d4,splice,Zch,hfa,lz]
   refine Zaf (Zpi (strs s.inputs) (fun j=>decide (∃n,s.inputs[j]?=some n∧g.length≤pos g n)) (hi.keep ((kk.new _).set kk.le)) (by rw[Zbv];omega) ?_) ?_
   ·intro j x hx h' n' hk
    obtain⟨n,hn⟩:=Zag (l:=s.inputs) (k:=j) (by have:=Zat hx;rw[Zbv]at this;exact this)
    rw[Zb3 hn]at hx
    obtain rfl:=Ytz hx
    have hkl:=hk.le
    have:=Ycs (n:=n) (q:=N+1) (e:=33) (rw:=true) ((hg.keep ((kk.new _).set kk.le)).keep hk) hl ((hk.get _ (by omega)).trans (by simp[d1,d2,c1])) (by omega)
    simpa[hn]using this
   rintro u h3 n3 k3 rfl
   have kle3:=k3.le
   have kz:=((kk.new _).set kk.le).trans k3
   have s0:=k3.get N (by omega)
   have s1:=k3.get (N+1) (by omega)
   have s2:=k3.get n1 (by omega)
   simp[d1,d2,c0,c1]at s0 s1 s2
   rw[Zwm]
   simp(disch:=first|(simp;done)|omega|(simp only[Zaa,Zab,Ys4];omega)|rfl) [-getElem?_pos,s0,s1,s2]
   refine Zaf Zo6 ?_
   rintro u h4 n4 k4 rfl
   have kle4:=k4.le
   have u0:=(k4.get N (by omega)).trans s0
   have u1:=(k4.get (N+1) (by omega)).trans s1
   have u2:=(k4.get n1 (by omega)).trans s2
   simp(disch:=first|(simp;done)|omega|(simp only[Zaa,Zab,Ys4];omega)|rfl) [-getElem?_pos,u0,u1,u2,Zch]
   refine Zaf (Zqj (hg.keep (kz.trans k4)) hl) ?_
   rintro u h5 n5 k5 rfl
   have kle5:=k5.le
   have v0:=(k5.get N (by omega)).trans u0
   have v1:=(k5.get (N+1) (by omega)).trans u1
   have v2:=(k5.get n1 (by omega)).trans u2
   have y1:N<n3:=by omega
   have y2:N<n4:=by omega
   have y3:N+1<n4:=by omega
   have y4:N<n5:=by omega
   have y5:n1<n5:=by omega
   have wok:¬n1<N:=by omega
   have kf:=fun o=>((kz.trans k4).trans k5).new o
   by_cases hlo:(s.inputs.length:Int)<(o.lo:Int)
   ·simp(disch:=first|(simp;done)|omega|(simp only[Zaa,Zab,Ys4];omega)|rfl) [-getElem?_pos,v0,v1,v2,Zch,Zgt,y1,y2,y3,y4,y5,hlo,splice,Zp3]
    refine⟨by simp[wok],kf _,?_⟩
    rw[Zl4 ho (by intro _;simp[Zct,hfa];split<;>rfl) (by rw[Ys8 (.inl (by omega))])]
   ·simp(disch:=first|(simp;done)|omega|(simp only[Zaa,Zab,Ys4];omega)|rfl) [-getElem?_pos,v0,v1,v2,Zch,Zgt,y1,y2,y3,y4,y5,hlo,splice,Zp3]
    have hlo':¬s.inputs.length<o.lo:=by omega
    refine⟨by simp[wok],kf _,?_⟩
    rw[Zl4 ho (by intro _;simp[Zct,hfa];split<;>rfl) (by simp[hlo'])]
  ·simp(disch:=first|(simp;done)|omega|(simp only[Zaa,Zab,Ys4];omega)|rfl) [-getElem?_pos,c0,c1,hm,hlk,d1,d2,d3,d4,splice,Zch,hfa,lz]
   refine Zaf (Zw6 hf) ?_
   rintro u h2 n2 k2 rfl
   have kle2:=k2.le
   have t0:=k2.get N (by omega)
   have t1:=k2.get (N+1) (by omega)
   have t2:=k2.get n1 (by omega)
   simp[d1,d2,c0,c1]at t0 t1 t2
   simp(disch:=first|(simp;done)|omega|(simp only[Zaa,Zab,Ys4];omega)|rfl) [-getElem?_pos,t0,t1,t2,lz]
   refine Zaf (Zpi (strs s.inputs) (fun j=>decide (∃n,s.inputs[j]?=some n∧g.length≤pos g n)) (hi.keep (((kk.new _).set kk.le).trans k2)) (by rw[Zbv];omega) ?_) ?_
   ·intro j x hx h' n' hk
    obtain⟨n,hn⟩:=Zag (l:=s.inputs) (k:=j) (by have:=Zat hx;rw[Zbv]at this;exact this)
    rw[Zb3 hn]at hx
    obtain rfl:=Ytz hx
    have hkl:=hk.le
    have:=Ycs (n:=n) (q:=N+1) (e:=33) (rw:=true) ((hg.keep (((kk.new _).set kk.le).trans k2)).keep hk) hl ((hk.get _ (by omega)).trans t1) (by omega)
    simpa[hn]using this
   rintro u h3 n3 k3 rfl
   have kle3:=k3.le
   have kz:=(((kk.new _).set kk.le).trans k2).trans k3
   have s0:=(k3.get N (by omega)).trans t0
   have s1:=(k3.get (N+1) (by omega)).trans t1
   have s2:=(k3.get n1 (by omega)).trans t2
   rw[Zwm]
   simp(disch:=first|(simp;done)|omega|(simp only[Zaa,Zab,Ys4];omega)|rfl) [-getElem?_pos,s0,s1,s2]
   refine Zaf Zo6 ?_
   rintro u h4 n4 k4 rfl
   have kle4:=k4.le
   have u0:=(k4.get N (by omega)).trans s0
   have u1:=(k4.get (N+1) (by omega)).trans s1
   have u2:=(k4.get n1 (by omega)).trans s2
   simp(disch:=first|(simp;done)|omega|(simp only[Zaa,Zab,Ys4];omega)|rfl) [-getElem?_pos,u0,u1,u2,Zch]
   refine Zaf (Zqj (hg.keep (kz.trans k4)) hl) ?_
   rintro u h5 n5 k5 rfl
   have kle5:=k5.le
   have v0:=(k5.get N (by omega)).trans u0
   have v1:=(k5.get (N+1) (by omega)).trans u1
   have v2:=(k5.get n1 (by omega)).trans u2
   have y1:N<n3:=by omega
   have y2:N<n4:=by omega
   have y3:N+1<n4:=by omega
   have y4:N<n5:=by omega
   have y5:n1<n5:=by omega
   have wok:¬n1<N:=by omega
   have kf:=fun o=>((kz.trans k4).trans k5).new o
   by_cases hlo:(s.inputs.length:Int)<(o.lo:Int)
   ·simp(disch:=first|(simp;done)|omega|(simp only[Zaa,Zab,Ys4];omega)|rfl) [-getElem?_pos,v0,v1,v2,Zch,Zgt,y1,y2,y3,y4,y5,hlo,splice,Zp3]
    refine⟨by simp[wok],kf _,?_⟩
    rw[Zl4 ho (by intro _;simp[Zct,hfa]) (by rw[Ys8 (.inl (by omega))])]
   ·simp(disch:=first|(simp;done)|omega|(simp only[Zaa,Zab,Ys4];omega)|rfl) [-getElem?_pos,v0,v1,v2,Zch,Zgt,y1,y2,y3,y4,y5,hlo,splice,Zp3]
    have hlo':¬s.inputs.length<o.lo:=by omega
    refine⟨by simp[wok],kf _,?_⟩
    rw[Zl4 ho (by intro _;simp[Zct,hfa]) (by simp[hlo'])]
noncomputable def A.w39:=A.q Tryz.f39
noncomputable def A.lb39_0:=A.ql A.w39 0 []
noncomputable def A.b39:=(fun x0=>A.qb A.w39 [x0]) A.lb39_0
def A.k39:=@A.kk 39 36 [.tmp 2] A.b39 (by kernel_rfl) rfl
def Yrb(g:List Stg):Prop:=∀s∈g,s.factor.length≤20∧s.inputs.length<1000000
def Zqr{h:T O}{N:Nat}{v:V}{g:List Stg}(hg:Gr h N v g)(hl:g.length<1000000)(hf:Yrb g):Fn A.C 39 [v] h N (fun u _ _=>u=.int .i64 (chkGraph g:Nat)):=by
 intro w
 rw[Zae,A.k39 (by simp)]
 have lg:=hg.len
 by_cases h0:g.length=0
 ·have h0':(g.length:Int)=0:=by omega
  simp(disch:=first|(simp;done)|omega|(simp only[Zaa,Zab,Ys4];omega)|rfl) [-getElem?_pos,A.b39,lg,h0,Zch,Zad,splice,Zp5,Zam,Ret,chkGraph]
  exact Keeps.refl.new _
 ·have h0':¬(g.length:Int)=0:=by omega
  have hne:g≠[]:=fun h=>by rw[h]at h0;simp at h0
  by_cases h16:16<g.length
  ·have h16':16<(g.length:Int):=by omega
   simp(disch:=first|(simp;done)|omega|(simp only[Zaa,Zab,Ys4];omega)|rfl) [-getElem?_pos,A.b39,lg,h0,h0',hne,h16,h16',Zch,Zad,splice,Zp5,Zam,Ret,chkGraph]
   exact Keeps.refl.new _
  ·have h16':¬16<(g.length:Int):=by omega
   have hc:chkGraph g=Zqq [] g:=by simp[chkGraph,h0,h16,hne]
   simp(disch:=first|(simp;done)|omega|(simp only[Zaa,Zab,Ys4];omega)|rfl) [-getElem?_pos,A.b39,lg,h0,h0',hne,h16,h16',Zch,Zad,splice,Zp5,Zam]
   refine Zah [(2,2),(4,6),(22,35)] (fun e r st=>Zac N st.w=[]∧Keeps h N st.h st.n∧((e=.exit 0∧Zqq [] g=0)∨(e=.ret∧r.get 2=some (.int .i64 (Zqq [] g:Nat))))) (fun m r st=>Zac N st.w=[]∧Keeps h N st.h st.n∧∃k,k+m=g.length∧r.get 22=some (.int .i64 k)∧Zqq [] g=Zqq (g.take k) (g.drop k)) g.length ?_ ?_ ?_
   ·exact⟨by simp,Keeps.refl.new _,0,by omega,by simp,by simp⟩
   ·rintro m r ⟨H,n1,W⟩ hr hf2 ⟨hW,hK,k,hk,h22,hz⟩
    simp only at hW hK
    rw[Zai]
    cases m with
    |zero=>
     have:k=g.length:=by omega
     subst this
     rw[Yub,Zqq]at hz
     simp(disch:=first|(simp;done)|omega|(simp only[Zaa,Zab,Ys4];omega)|rfl) [-getElem?_pos,A.lb39_0,hr,hf2,h22,hW,hK,hz]
    |succ m=>
     have hlt:k<g.length:=by omega
     obtain⟨s,hs⟩:=Zag hlt
     have hgH:=hg.keep hK
     obtain⟨i,o,cc,e,rw,inp,q1,q2,q3,q4,q5⟩:=hgH.at hs
     obtain⟨ff1,ff2⟩:=hf s (Ys9 hs)
     rw[Zap hs,Zqq]at hz
     have hk1:(k:Int)<(g.length:Int):=by omega
     have hio:=q5.form.one
     unfold V.one at hio
     have d1:¬i=n1:=by omega
     simp(disch:=first|(simp;done)|omega|(simp only[Zaa,Zab,Ys4];omega)|rfl) [-getElem?_pos,A.lb39_0,hr,hf2,h22,hk1,hlt,lg,q1,q3,q4,Zb2,hio,d1,splice,Zb0,evOpt,Zak]
     have hK1:=(hK.new (.cells [.str [],.str [],.str [],.nilslice,.int .i64 0] 109 true)).set (i:=n1) (o:=.cells (Zb2 s inp) 109 true) hK.le
     obtain⟨v',e1,e2⟩:=(hg.keep hK1).slice (w:=[]) (lo:=0) (hi:=k) (by omega) (by omega) none (some (.int .i64 k)) (.inr ⟨rfl,rfl⟩) (.inl rfl)
     rw[Yu3]at e2
     unfold Zb2 at e1 e2
     simp(disch:=first|(simp;done)|omega|(simp only[Zaa,Zab,Ys4];omega)|rfl) [-getElem?_pos,e1]
     have hlt2:(g.take k).length<1000000:=by simp;omega
     refine Zaf (Ya4 e2 hlt2 (q5.keep (((Keeps.refl.new _)).set (Ys6 _))) ff2 (by omega)) ?_
     rintro u h3 n3 k3 rfl
     have kk:=hK1.trans k3
     have wok:¬n1<N:=by have:=hK.le;omega
     by_cases hz0:chkStage (g.take k) s=0
     ·rw[hz0]at hz
      simp at hz
      simp(disch:=first|(simp;done)|omega|(simp only[Zaa,Zab,Ys4];omega)|rfl) [-getElem?_pos,hr,hf2,h22,hz0,Zad,hW,wok]
      exact⟨m,by omega,kk,k+1,by omega,by simp,by rw[hz,Yug,hs];rfl⟩
     ·rw[Ys8 hz0]at hz
      simp(disch:=first|(simp;done)|omega|(simp only[Zaa,Zab,Ys4];omega)|rfl) [-getElem?_pos,hr,hf2,h22,hz0,Zad,hW,wok,hz]
      exact kk
   ·rintro e r ⟨H,n1,W⟩ hr ⟨hW,hK,⟨rfl,hz⟩|⟨rfl,h4⟩⟩
    ·simp only at hW hK
     simp(disch:=first|(simp;done)|omega|(simp only[Zaa,Zab,Ys4];omega)|rfl) [-getElem?_pos,hr,hz,Ret,hW,hK,hc]
    ·simp only at hW hK
     simp(disch:=first|(simp;done)|omega|(simp only[Zaa,Zab,Ys4];omega)|rfl) [-getElem?_pos,hr,h4,Ret,hW,hK,hc]
open Go
variable {n:Nat}
def dch(n:Nat):UInt8:=UInt8.ofNat (48+n%10)
def Zi1(n:Nat):(dch n).toNat=48+n%10:=by
 unfold dch
 simp
 omega
def Zc1(n:Nat):Str:=if h:n=0 then [] else Zc1 (n/10)++[dch n]
termination_by n
decreasing_by omega
def Zbh:Zc1 0=[]:=by unfold Zc1;simp
def Zcf(h:n≠0):Zc1 n=Zc1 (n/10)++[dch n]:=by
 conv=>lhs;unfold Zc1
 rw[dif_neg h]
def decN(n:Nat):Str:=if n=0 then [48] else Zc1 n
def Zhz(n k:Nat):Str:=List.replicate (k-(Zc1 n).length) 48++Zc1 n
def decI(z:Int):Str:=if z<0 then 45::decN z.natAbs else decN z.natAbs
def Zaz(q:Rat):Str:=if q.den=1 then decI q.num else decI q.num++47::decN q.den
def Zro:∀(n:Nat),numV (Zc1 n)=n:=by
 intro n
 induction n using Nat.strongRecOn with
 |_ n ih=>
  by_cases h:n=0
  ·subst h;rw[Zbh];rfl
  ·rw[Zcf h,Zg5,ih (n/10) (by omega),Zi1]
   omega
def Zck(n:Nat):numV (decN n)=n:=by
 unfold decN
 split
 ·subst_vars;rfl
 ·exact Zro n
def Zs1{s:Str}{c:UInt8}:Zb7 (s++[c])=(Zb7 s&&Zj6 c):=by simp[Zb7]
def Yhs(n:Nat):Zj6 (dch n)=true:=by
 unfold Zj6
 rw[Zi1]
 simp
 omega
def Yem:∀(n:Nat),Zb7 (Zc1 n)=true:=by
 intro n
 induction n using Nat.strongRecOn with
 |_ n ih=>
  by_cases h:n=0
  ·subst h;rw[Zbh];rfl
  ·rw[Zcf h,Zs1,ih (n/10) (by omega),Yhs];rfl
def Zb6(n:Nat):Zb7 (decN n)=true:=by
 unfold decN
 split
 ·rfl
 ·exact Yem n
def Zax:∀{k n:Nat},n<10^k↔(Zc1 n).length≤k
 |0,n=>by
  simp only[Yws,Nat.lt_one_iff,Nat.le_zero,List.length_eq_zero_iff]
  constructor
  ·rintro rfl;exact Zbh
  ·intro h
   have:=Zro n
   rw[h]at this
   exact this.symm
 |k+1,n=>by
  by_cases h:n=0
  ·subst h;rw[Zbh];simp;exact Ywa (by decide)
  ·rw[Zcf h,Ytu,Yux,Ytw]
   have:=Zax (k:=k) (n:=n/10)
   rw[Nat.succ_le_succ_iff,←this]
   exact(Ytx (by decide)).symm
def Zj9:∀{n:Nat},n≠0→∃c t,Zc1 n=c::t∧c.toNat≠48:=by
 intro n
 induction n using Nat.strongRecOn with
 |_ n ih=>
  intro h
  rw[Zcf h]
  by_cases h0:n/10=0
  ·rw[h0,Zbh]
   refine⟨dch n,[],rfl,?_⟩
   rw[Zi1];omega
  ·obtain⟨c,t,e,hc⟩:=ih (n/10) (by omega) h0
   rw[e]
   exact⟨c,t++[dch n],rfl,hc⟩
def Zi0(n:Nat):decN n≠[]:=by
 unfold decN
 split
 ·simp
 ·rename_i h
  obtain⟨c,t,e,_⟩:=Zj9 h
  rw[e];simp
def Zpc(n:Nat):Zcu (decN n)=true:=by
 have ha:=Zb6 n
 by_cases h:n=0
 ·subst h;rfl
 ·obtain⟨c,t,e,hc⟩:=Zj9 h
  have e2:decN n=c::t:=by unfold decN;rw[Ys5 h,e]
  rw[e2]at ha ⊢
  show (Zb7 (c::t)&&(decide (c.toNat≠48)||decide (t=[])))=true
  rw[ha,decide_eq_true hc];rfl
def Yji{c:UInt8}(h:Zj6 c=true){k:Nat}:dch (10*k+(c.toNat-48))=c:=by
 unfold Zj6 at h
 simp only[decide_eq_true_eq]at h
 apply UInt8.toNat_inj.1
 rw[Zi1];omega
def Yd4:∀(t:Str) (c:UInt8),Zb7 (c::t)=true→c.toNat≠48→Zc1 (numV (c::t))=c::t:=by
 intro t
 generalize hn:t.length=n
 induction n generalizing t with
 |zero=>
  intro c ha hc
  have:t=[]:=Ytl hn
  subst this
  have hd:Zj6 c=true:=by simpa[Zb7]using ha
  have:=Yji hd (k:=0)
  have h2:48≤c.toNat∧c.toNat≤57:=by simpa[Zj6]using hd
  have e:numV [c]=c.toNat-48:=by simp[numV]
  rw[e,Zcf (by omega),show (c.toNat-48)/10=0 by omega,Zbh]
  simp only[Nat.mul_zero,Yvn]at this
  rw[this];rfl
 |succ n ih=>
  intro c ha hc
  obtain⟨u,d,rfl⟩:∃u d,t=u++[d]:=⟨t.dropLast,t.getLast (by rintro rfl;simp at hn),(Ywf _).symm⟩
  simp at hn
  have ha':Zb7 (c::u)=true∧Zj6 d=true:=by
   rw[←Yvj,Zs1,Ytt]at ha
   exact ha
  have ih':=ih u (by omega) c ha'.1 hc
  have h2:48≤d.toNat∧d.toNat≤57:=by simpa[Zj6]using ha'.2
  rw[←Yvj,Zg5]
  have hpos:numV (c::u)≠0:=by
   intro h0
   rw[h0,Zbh]at ih'
   cases ih'
  rw[Zcf (by omega),show (10*numV (c::u)+(d.toNat-48))/10=numV (c::u) by omega,ih',Yji ha'.2]
def Zc0{s:Str}(h:Zcu s=true):decN (numV s)=s:=by
 cases s with
 |nil=>cases h
 |cons c t=>
  have h:(Zb7 (c::t)&&(decide (c.toNat≠48)||decide (t=[])))=true:=h
  rw[Ytt,Ywj,decide_eq_true_eq,decide_eq_true_eq]at h
  obtain⟨ha,hc⟩:=h
  by_cases h48:c.toNat=48
  ·rcases hc with hc|hc
   ·exact absurd h48 hc
   ·subst hc
    have:c=48:=UInt8.toNat_inj.1 h48
    subst this;rfl
  ·have e:=Yd4 t c ha h48
   have:numV (c::t)≠0:=by
    intro h0
    rw[h0,Zbh]at e
    cases e
   unfold decN
   rw[Ys5 this,e]
def Zj8{a b:Nat}(h:decN a=decN b):a=b:=by rw[←Zck a,h,Zck]
def Zpg:∀{k a b:Nat},a≠0→b<10^k→Zc1 (a*10^k+b)=Zc1 a++Zhz b k:=by
 intro k
 induction k with
 |zero=>
  intro a b ha hb
  have:b=0:=by simpa using hb
  subst this
  simp[Zhz,Zbh]
 |succ k ih=>
  intro a b ha hb
  rw[Ytw]at hb ⊢
  have hb2:b/10<10^k:=(Ytx (by decide)).2 hb
  have hp:0<10^k:=Ywa (by decide)
  have hpos:a*(10^k*10)+b≠0:=by
   have:=Ywh (Nat.pos_of_ne_zero ha) (Ywh hp (by decide:0<10));omega
  have e1:(a*(10^k*10)+b)/10=a*10^k+b/10:=by
   rw[←Ywm,Yt3 _ 10,Nat.mul_add_div (by decide)]
  have e2:dch (a*(10^k*10)+b)=dch b:=by
   apply UInt8.toNat_inj.1
   rw[Zi1,Zi1,←Ywm,Yt3 _ 10,Nat.mul_add_mod]
  rw[Zcf hpos,e1,ih ha hb2,e2,Yum]
  congr 1
  by_cases hb0:b=0
  ·subst hb0
   unfold Zhz
   rw[Nat.zero_div,Zbh]
   simp only[List.length_nil,Nat.sub_zero,Yvs]
   rw[List.replicate_succ']
   rfl
  ·unfold Zhz
   rw[Zcf hb0,Ytu,Yux,←Yum]
   rw[show k+1-((Zc1 (b/10)).length+1)=k-(Zc1 (b/10)).length by omega]
def Yht{b k:Nat}(h:b<10^k):(Zhz b k).length=k:=by
 have:=Zax.1 h
 simp[Zhz];omega
def Zj7(b:Nat):Zhz b 1=decN b:=by
 unfold Zhz decN
 split
 ·subst_vars;rw[Zbh];rfl
 ·rename_i h
  obtain⟨c,t,e,_⟩:=Zj9 h
  rw[e]
  simp
def Zsq(h:n≠0):0<(Zc1 n).length:=by
 obtain⟨c,t,e,_⟩:=Zj9 h
 rw[e];simp
def Ze2{k:Nat}(hk:0<k):(decN n).length≤k↔n<10^k:=by
 unfold decN
 split
 ·subst_vars
  simp
  exact⟨fun _=>Ywa (by decide),fun _=>hk⟩
 ·exact Zax.symm
def Zpf{n:Nat}:∃c t,decN n=c::t∧48≤c.toNat∧c.toNat≤57:=by
 have h:=Zb6 n
 cases hs:decN n with
 |nil=>exact absurd hs (Zi0 n)
 |cons c t=>
  rw[hs]at h
  have:Zj6 c=true:=by
   simp[Zb7]at h;exact h.1
  exact⟨c,t,rfl,by simpa[Zj6]using this⟩
end Go.Mx
