/-
  number.Check.
-/
import Derived.Test.YtppobccilnifoaaGreatDoorPaA
import Derived.Test.YtppobccilnifoaaGreatDoorMxGr3
import Derived.Test.YtppobccilnifoaaGreatDoorKaF
set_option linter.all false
namespace Go.Mx
open Go Go.Proofs
set_option maxRecDepth 1000000
def A.ta91_0:MCode:=.seq (.seq (.reg [mv 46 8,⟨(some 47),.un .not (.tmp 46),none⟩,⟨(some 48),.call (.const (.func 150 [] [])) [(.tmp 47),(.const (.int .i64 1))],none⟩,mv 49 5,⟨(some 50),.len 0 (.tmp 49),none⟩,bc 51 .gtr 50 600,mv 52 51,⟨(some 53),.mov (.tmp 6),(some (52,false))⟩,⟨(some 54),.len 0 (.tmp 53),(some (52,false))⟩,⟨(some 55),.bin .gtr (.node []) false (.tmp 54) (.const (.int .i64 600)),(some (52,false))⟩,⟨(some 56),.pick (.tmp 52) (.const (.bool true)) (.tmp 55),none⟩,⟨(some 57),.call (.const (.func 150 [] [])) [(.tmp 56),(.const (.int .i64 4))],none⟩,⟨(some 58),.bslice 26 1 2 [(.int .i64 0),(.int .i64 0)] [(0,1,(.tmp 48)),(1,1,(.tmp 57))],none⟩,⟨(some 59),.call (.const (.func 149 [] [])) [(.tmp 58)],none⟩,mv 9 59])
 (.seq (.reg [mv 60 9,⟨(some 61),.bin .neq (.prim .int) true (.tmp 60) (.const (.int .i64 0)),none⟩])
 (.cond (.tmp 61)
 (.seq (.reg [mv 62 9,mv 2 62])
 (.ret))
 (.skip))))
 (.seq (.reg [mv 63 7,mv 64 63,⟨(some 65),.mov (.tmp 5),(some (64,true))⟩,⟨(some 66),.call (.const (.func 152 [] [])) [(.tmp 65)],(some (64,true))⟩,⟨(some 67),.mov (.tmp 6),(some (64,true))⟩,⟨(some 68),.call (.const (.func 152 [] [])) [(.tmp 67)],(some (64,true))⟩,⟨(some 69),.call (.const (.func 151 [] [])) [(.tmp 66),(.tmp 68)],(some (64,true))⟩,⟨(some 70),.call (.const (.func 154 [] [])) [(.const (.int .i64 1))],(some (64,true))⟩,⟨(some 71),.call (.const (.func 153 [] [])) [(.tmp 69),(.tmp 70)],(some (64,true))⟩,⟨(some 72),.bin .neq (.prim .int) true (.tmp 71) (.const (.int .i64 0)),(some (64,true))⟩,⟨(some 73),.pick (.tmp 64) (.tmp 72) (.const (.bool false)),none⟩,mv 10 73])
 (.seq (.reg [mv 74 10,⟨(some 75),.call (.const (.func 150 [] [])) [(.tmp 74),(.const (.int .i64 1))],none⟩,mv 2 75])
 (.ret)))
def A.b91:MCode:=.seq (.reg [mc 2 0])
 (.seq (.reg [mv 12 0,⟨(some 13),.call (.const (.func 146 [] [])) [(.tmp 12),(.const (.str [45]))],none⟩,mv 11 13,xt 14 11 0,xt 15 11 1,mv 3 14,mv 4 15])
 (.seq (.reg [mv 17 3,⟨(some 18),.call (.const (.func 147 [] [])) [(.tmp 17),(.const (.str [47]))],none⟩,mv 16 18,xt 19 16 0,xt 20 16 1,xt 21 16 2,mv 5 19,mv 6 20,mv 7 21])
 (.seq (.reg [mv 22 5,⟨(some 23),.call (.const (.func 148 [] [])) [(.tmp 22)],none⟩,mv 24 23,⟨(some 25),.mov (.tmp 4),(some (24,true))⟩,⟨(some 26),.un .not (.tmp 25),(some (24,true))⟩,⟨(some 27),.mov (.tmp 26),(some (24,true))⟩,⟨(some 28),.mov (.tmp 5),(some (27,false))⟩,⟨(some 29),.bin .neq (.prim .str) true (.tmp 28) (.const (.str [48])),(some (27,false))⟩,⟨(some 30),.pick (.tmp 27) (.const (.bool true)) (.tmp 29),(some (24,true))⟩,⟨(some 31),.pick (.tmp 24) (.tmp 30) (.const (.bool false)),none⟩,mv 8 31])
 (.seq (.seq (.reg [mv 32 7])
 (.cond (.tmp 32)
 (.reg [mv 33 8,mv 34 33,⟨(some 35),.mov (.tmp 6),(some (34,true))⟩,⟨(some 36),.call (.const (.func 148 [] [])) [(.tmp 35)],(some (34,true))⟩,⟨(some 37),.pick (.tmp 34) (.tmp 36) (.const (.bool false)),none⟩,mv 38 37,⟨(some 39),.mov (.tmp 6),(some (38,true))⟩,⟨(some 40),.bin .neq (.prim .str) true (.tmp 39) (.const (.str [48])),(some (38,true))⟩,⟨(some 41),.pick (.tmp 38) (.tmp 40) (.const (.bool false)),none⟩,mv 42 41,⟨(some 43),.mov (.tmp 6),(some (42,true))⟩,⟨(some 44),.bin .neq (.prim .str) true (.tmp 43) (.const (.str [49])),(some (42,true))⟩,⟨(some 45),.pick (.tmp 42) (.tmp 44) (.const (.bool false)),none⟩,mv 8 45])
 (.skip)))
 A.ta91_0))))
theorem A.c91:cFunc Tryz.prog 91=some ⟨76,[.tmp 2],A.b91⟩:=by kernel_rfl
def A.k91{K Q f c args st}:=@A.kk 91 _ _ _ A.c91 rfl K Q f c args st
theorem isDec_all{s:Str}(h:isDec s=true):allD s=true∧1≤s.length:=by
 cases s with
 |nil=>cases h
 |cons c s=>
  unfold isDec at h
  rw[Bool.and_eq_true]at h
  exact⟨h.1,by simp⟩
def chkT(form br:Bool)(p d:Str):Nat:=if form=false then 1 else if 600<p.length∨600<d.length then 4 else if br=true∧Nat.gcd (numV p) (numV d)≠1 then 1 else 0
theorem negS_all{s:Str}(h:allD s=true):negS s=false∧bodyS s=s:=by
 cases s with
 |nil=>exact⟨rfl,rfl⟩
 |cons c s=>
  have hc:digC c=true:=by simp[allD]at h;exact h.1
  unfold digC at hc
  simp only[decide_eq_true_eq]at hc
  have:negS (c::s)=false:=by simp[negS];omega
  refine⟨this,?_⟩
  unfold bodyS;rw[this];rfl
theorem read_nat{s:Str}{h:T O}{N:Nat}(hd:allD s=true)(hl:s.length≤100000):Fn A.C 152 [.str s] h N (fun v h' n'=>In h' n' v (numV s:Nat)):=by
 obtain⟨h1,h2⟩:=negS_all hd
 have:=read_fn (s:=s) (h:=h) (N:=N) (by rw[h2];exact hd) (by rw[h2];exact hl)
 rw[h1,h2]at this
 exact this
set_option maxHeartbeats 1000000 in
theorem ck_tail{H:T O}{n:Nat}{r0:T V}{p d:Str}{form br:Bool}(hp:form=true→allD p=true)(hd:form=true→br=true→allD d=true)(lp:p.length≤100000)(ld:d.length≤100000)(a5:r0.get 5=some (.str p))(a6:r0.get 6=some (.str d))(a7:r0.get 7=some (.bool br))(a8:r0.get 8=some (.bool form)):
  Code A.C none A.ta91_0 ⟨r0,76,[]⟩ ⟨H,n,[]⟩ (fun e fr st=>e=.ret∧∃r,fr=⟨r,76,[]⟩∧r.get 2=some (.int .i64 (chkT form br p d:Nat))∧oldIds n st.w=[]∧Keeps H n st.h st.n):=by
 rw[code_run]
 cases form with
 |false=>
  by_cases c1:600<p.length
  ·have c1':(600:Int)<(p.length:Int):=by omega
   simp(disch:=first|(simp;done)|omega|(simp only[dg_length,dgi_length,List.length_cons];omega)|rfl) [-getElem?_pos,A.ta91_0,a5,a6,a7,a8,nwhen_eq,c1',splice,nfirst2,firstNZ,eqPrim,chkT]
   exact kset Keeps.refl _
  ·have c1':¬(600:Int)<(p.length:Int):=by omega
   by_cases c2:600<d.length
   ·have c2':(600:Int)<(d.length:Int):=by omega
    simp(disch:=first|(simp;done)|omega|(simp only[dg_length,dgi_length,List.length_cons];omega)|rfl) [-getElem?_pos,A.ta91_0,a5,a6,a7,a8,nwhen_eq,c1',c2',splice,nfirst2,firstNZ,eqPrim,chkT]
    exact kset Keeps.refl _
   ·have c2':¬(600:Int)<(d.length:Int):=by omega
    simp(disch:=first|(simp;done)|omega|(simp only[dg_length,dgi_length,List.length_cons];omega)|rfl) [-getElem?_pos,A.ta91_0,a5,a6,a7,a8,nwhen_eq,c1',c2',splice,nfirst2,firstNZ,eqPrim,chkT]
    exact kset Keeps.refl _
 |true=>
  by_cases c1:600<p.length
  ·have c1':(600:Int)<(p.length:Int):=by omega
   simp(disch:=first|(simp;done)|omega|(simp only[dg_length,dgi_length,List.length_cons];omega)|rfl) [-getElem?_pos,A.ta91_0,a5,a6,a7,a8,nwhen_eq,c1,c1',splice,nfirst2,firstNZ,eqPrim,chkT]
   exact kset Keeps.refl _
  ·have c1':¬(600:Int)<(p.length:Int):=by omega
   by_cases c2:600<d.length
   ·have c2':(600:Int)<(d.length:Int):=by omega
    simp(disch:=first|(simp;done)|omega|(simp only[dg_length,dgi_length,List.length_cons];omega)|rfl) [-getElem?_pos,A.ta91_0,a5,a6,a7,a8,nwhen_eq,c1,c2,c1',c2',splice,nfirst2,firstNZ,eqPrim,chkT]
    exact kset Keeps.refl _
   ·have c2':¬(600:Int)<(d.length:Int):=by omega
    have c3:¬(600<p.length∨600<d.length):=by omega
    cases br with
    |false=>
     simp(disch:=first|(simp;done)|omega|(simp only[dg_length,dgi_length,List.length_cons];omega)|rfl) [-getElem?_pos,A.ta91_0,a5,a6,a7,a8,nwhen_eq,c1,c2,c1',c2',splice,nfirst2,firstNZ,eqPrim,chkT]
     exact kset Keeps.refl _
    |true=>
     have lwp:wl ((numV p:Nat):Int)≤100000:=Nat.le_trans (wl_pow10 (numV_lt' (hp rfl))) lp
     have lwd:wl ((numV d:Nat):Int)≤100000:=Nat.le_trans (wl_pow10 (numV_lt' (hd rfl rfl))) ld
     simp(disch:=first|(simp;done)|omega|(simp only[dg_length,dgi_length,List.length_cons];omega)|rfl) [-getElem?_pos,A.ta91_0,a5,a6,a7,a8,nwhen_eq,c1,c2,c1',c2',splice,nfirst2,firstNZ,eqPrim]
     have kz:=kset (Keeps.refl (h:=H) (n:=n)) (.cells [.int .i64 0,.int .i64 0] 26 true)
     refine run_fn (read_nat (hp rfl) (by omega)) ?_
     rintro v3 h3 n3 k3 hv3
     simp(disch:=first|(simp;done)|omega|(simp only[dg_length,dgi_length,List.length_cons];omega)|rfl) [-getElem?_pos,a6]
     refine run_fn (read_nat (hd rfl rfl) (by omega)) ?_
     rintro v4 h4 n4 k4 hv4
     simp(disch:=first|(simp;done)|omega|(simp only[dg_length,dgi_length,List.length_cons];omega)|rfl) [-getElem?_pos,]
     refine run_fn (gcd_fn (hv3.keep k4) hv4 (by omega) (by omega)) ?_
     rintro v5 h5 n5 k5 hv5
     simp(disch:=first|(simp;done)|omega|(simp only[dg_length,dgi_length,List.length_cons];omega)|rfl) [-getElem?_pos,]
     refine run_fn of_fn ?_
     rintro _ h6 n6 k6 rfl
     simp(disch:=first|(simp;done)|omega|(simp only[dg_length,dgi_length,List.length_cons];omega)|rfl) [-getElem?_pos,]
     have hg:Int.gcd (numV p:Nat) (numV d:Nat)=Nat.gcd (numV p) (numV d):=rfl
     rw[hg]at hv5
     have lg:wl ((Nat.gcd (numV p) (numV d):Nat):Int)<100000000:=by
      by_cases hz:numV p=0
      ·rw[hz,Nat.gcd_zero_left];omega
      ·have:=wl_le (a:=((Nat.gcd (numV p) (numV d):Nat):Int)) (b:=((numV p:Nat):Int)) (by
        have:=Nat.gcd_le_left (numV d) (show 0<numV p by omega)
        omega)
       omega
     have l1:wl (1:Int)<100000000:=by decide+kernel
     refine run_fn (cmp_fn (hv5.keep k6) (In.small (z:=1) (by omega) (by omega)) lg l1) ?_
     rintro _ h7 n7 k7 rfl
     have kk:=((((kz.trans k3).trans k4).trans k5).trans k6).trans k7
     generalize hgg:Nat.gcd (numV p) (numV d)=g at*
     by_cases g1:g=1
     ·subst g1
      simp(disch:=first|(simp;done)|omega|(simp only[dg_length,dgi_length,List.length_cons];omega)|rfl) [-getElem?_pos,eqPrim,nwhen_eq,chkT,c1,c2,sg3,hgg]
      exact kk
     ·have g2:¬sg3 ((g:Int)-1)=0:=by unfold sg3;split<;>(try split)<;>omega
      simp(disch:=first|(simp;done)|omega|(simp only[dg_length,dgi_length,List.length_cons];omega)|rfl) [-getElem?_pos,eqPrim,nwhen_eq,chkT,c1,c2,g1,g2,hgg]
      exact kk
theorem check_fn{s:Str}(hl:s.length≤100000){h:T O}{N:Nat}:Fn A.C 91 [.str s] h N (fun v _ _=>v=.int .i64 (chkNum s:Nat)):=by
 intro w
 have hb:(bodyS s).length≤s.length:=by unfold bodyS;split<;>simp
 have hc:=fun st=>cut_eq (s:=bodyS s) (st:=st) (by omega)
 rw[call_run,A.k91 (by simp)]
 show Run _ _ _ (valQ (Ret (fun v _ _=>v=.int .i64 (chkB (negS s) (bodyS s):Nat)) h N w))
 unfold chkB
 have hle:=slashAt_le (bodyS s)
 have hp1:((bodyS s).take (slashAt (bodyS s))).length≤100000:=by simp;omega
 have hd1:((bodyS s).drop (slashAt (bodyS s)+1)).length≤100000:=by simp;omega
 simp(disch:=first|(simp;done)|omega|(simp only[dg_length,dgi_length,List.length_cons];omega)|rfl) [-getElem?_pos,A.b91,cutPrefix_eq,hc]
 generalize negS s=neg at*
 generalize hbr:decide (slashAt (bodyS s)<(bodyS s).length)=br at*
 generalize hpe:(bodyS s).take (slashAt (bodyS s))=p at*
 generalize hde:(bodyS s).drop (slashAt (bodyS s)+1)=d at*
 clear hbr hpe hde hc
 have chk:chkP neg p br d=chkT (formS neg p br d) br p d:=rfl
 rw[chk]
 have fin:∀(h1:T O) (n1:Nat) (r:T V) (form:Bool),Keeps h N h1 n1→form=formS neg p br d→r.get 5=some (.str p)→r.get 6=some (.str d)→r.get 7=some (.bool br)→r.get 8=some (.bool form)→Run A.C [.fin [.tmp 2] ⟨h,N,w⟩] (exR (A.C.code none A.ta91_0 ⟨r,76,[]⟩ ⟨h1,n1,[]⟩)) (valQ (Ret (fun v _ _=>v=.int .i64 (chkT (formS neg p br d) br p d:Nat)) h N w)):=by
  intro h1 n1 r form k1 hform a5 a6 a7 a8
  refine run_code (ck_tail (form:=form) (br:=br) (p:=p) (d:=d) ?_ ?_ hp1 hd1 a5 a6 a7 a8) ?_
  ·intro hf
   rw[hform]at hf
   unfold formS at hf
   simp only[Bool.and_eq_true]at hf
   exact(isDec_all hf.1.1).1
  ·intro hf hbt
   rw[hform]at hf
   unfold formS at hf
   rw[hbt]at hf
   simp only[Bool.and_eq_true,Bool.not_true,Bool.false_or]at hf
   exact(isDec_all hf.2.1.1).1
  ·rintro e fr ⟨h2,n2,W2⟩ ⟨rfl,r2,rfl,hr2,hW,hK⟩
   simp only at hW hK
   have hW2:=oldIds_lo k1.le hW
   simp(disch:=first|(simp;done)|omega|(simp only[dg_length,dgi_length,List.length_cons];omega)|rfl) [-getElem?_pos,hr2,Ret,hW2,hform]
   exact k1.trans hK
 refine run_fn (isDecimal_fn (by omega)) ?_
 rintro v h1 n1 k1 rfl
 have z0:isDec [48]=true:=by decide
 by_cases hA:isDec p=true
 ·have hB:(neg=true∧p=[48])∨(neg=false)∨(neg=true∧p≠[48]):=by
   cases neg
   ·exact .inr (.inl rfl)
   ·by_cases hq:p=[48]
    ·exact .inl ⟨rfl,hq⟩
    ·exact .inr (.inr ⟨rfl,hq⟩)
  rcases hB with⟨rfl,rfl⟩|rfl|⟨rfl,hpz⟩
  ·cases br
   ·simp(disch:=first|(simp;done)|omega|(simp only[dg_length,dgi_length,List.length_cons];omega)|rfl) [-getElem?_pos,eqPrim,z0]
    exact fin _ _ _ false k1 (by simp[formS]) (by simp) (by simp) (by simp) (by simp)
   ·simp(disch:=first|(simp;done)|omega|(simp only[dg_length,dgi_length,List.length_cons];omega)|rfl) [-getElem?_pos,eqPrim,z0]
    exact fin _ _ _ false k1 (by simp[formS]) (by simp) (by simp) (by simp) (by simp)
  ·cases br
   ·simp(disch:=first|(simp;done)|omega|(simp only[dg_length,dgi_length,List.length_cons];omega)|rfl) [-getElem?_pos,eqPrim,hA]
    exact fin _ _ _ true k1 (by simp[formS,hA]) (by simp) (by simp) (by simp) (by simp)
   ·simp(disch:=first|(simp;done)|omega|(simp only[dg_length,dgi_length,List.length_cons];omega)|rfl) [-getElem?_pos,eqPrim,hA]
    refine run_fn (isDecimal_fn (by omega)) ?_
    rintro v h2 n2 k2 rfl
    by_cases hD:isDec d=true
    ·by_cases h48:d=[48]
     ·subst h48
      simp(disch:=first|(simp;done)|omega|(simp only[dg_length,dgi_length,List.length_cons];omega)|rfl) [-getElem?_pos,eqPrim,z0,hA]
      exact fin _ _ _ false (k1.trans k2) (by simp[formS]) (by simp) (by simp) (by simp) (by simp)
     ·have e8:(d==[48])=false:=by simp[h48]
      have e9:(d==[49])=decide (d=[49]):=by by_cases h:d=[49]<;>simp[h]
      simp(disch:=first|(simp;done)|omega|(simp only[dg_length,dgi_length,List.length_cons];omega)|rfl) [-getElem?_pos,eqPrim,hA,hD,e8,h48]
      exact fin _ _ _ (!(d==[49])) (k1.trans k2) (by simp[formS,hA,hD,h48,e9]) (by simp) (by simp) (by simp) (by simp)
    ·have hD:isDec d=false:=by simpa using hD
     simp(disch:=first|(simp;done)|omega|(simp only[dg_length,dgi_length,List.length_cons];omega)|rfl) [-getElem?_pos,eqPrim,hA,hD]
     exact fin _ _ _ false (k1.trans k2) (by simp[formS,hD]) (by simp) (by simp) (by simp) (by simp)
  ·have e1:(p==[48])=false:=by simp[hpz]
   cases br
   ·simp(disch:=first|(simp;done)|omega|(simp only[dg_length,dgi_length,List.length_cons];omega)|rfl) [-getElem?_pos,eqPrim,hA,e1,hpz]
    exact fin _ _ _ true k1 (by simp[formS,hA,hpz]) (by simp) (by simp) (by simp) (by simp)
   ·simp(disch:=first|(simp;done)|omega|(simp only[dg_length,dgi_length,List.length_cons];omega)|rfl) [-getElem?_pos,eqPrim,hA,e1,hpz]
    refine run_fn (isDecimal_fn (by omega)) ?_
    rintro v h2 n2 k2 rfl
    by_cases hD:isDec d=true
    ·by_cases h48:d=[48]
     ·subst h48
      simp(disch:=first|(simp;done)|omega|(simp only[dg_length,dgi_length,List.length_cons];omega)|rfl) [-getElem?_pos,eqPrim,z0,hA]
      exact fin _ _ _ false (k1.trans k2) (by simp[formS]) (by simp) (by simp) (by simp) (by simp)
     ·have e8:(d==[48])=false:=by simp[h48]
      have e9:(d==[49])=decide (d=[49]):=by by_cases h:d=[49]<;>simp[h]
      simp(disch:=first|(simp;done)|omega|(simp only[dg_length,dgi_length,List.length_cons];omega)|rfl) [-getElem?_pos,eqPrim,hA,hD,e8,h48]
      exact fin _ _ _ (!(d==[49])) (k1.trans k2) (by simp[formS,hA,hD,h48,hpz,e9]) (by simp) (by simp) (by simp) (by simp)
    ·have hD:isDec d=false:=by simpa using hD
     simp(disch:=first|(simp;done)|omega|(simp only[dg_length,dgi_length,List.length_cons];omega)|rfl) [-getElem?_pos,eqPrim,hA,hD]
     exact fin _ _ _ false (k1.trans k2) (by simp[formS,hD]) (by simp) (by simp) (by simp) (by simp)
 ·have hA:isDec p=false:=by simpa using hA
  cases br
  ·simp(disch:=first|(simp;done)|omega|(simp only[dg_length,dgi_length,List.length_cons];omega)|rfl) [-getElem?_pos,eqPrim,hA]
   exact fin _ _ _ false k1 (by simp[formS,hA]) (by simp) (by simp) (by simp) (by simp)
  ·simp(disch:=first|(simp;done)|omega|(simp only[dg_length,dgi_length,List.length_cons];omega)|rfl) [-getElem?_pos,eqPrim,hA]
   exact fin _ _ _ false k1 (by simp[formS,hA]) (by simp) (by simp) (by simp) (by simp)
end Go.Mx
namespace Go.Mx
open Go Go.Proofs
set_option maxRecDepth 1000000
def A.b59:MCode:=.seq (.reg [⟨(some 1),.box 78 (.tmp 0),none⟩,mc 2 0])
 (.seq (.seq (.regD [⟨(some 4),.faddr 0 (.tmp 1),none⟩,ld 5 4,⟨(some 6),.call (.const (.func 58 [] [])) [(.tmp 5),(.const (.int .i64 1)),(.const (.int .i64 999999999))],none⟩,⟨(some 7),.faddr 1 (.tmp 1),none⟩,ld 8 7,⟨(some 9),.call (.const (.func 58 [] [])) [(.tmp 8),(.const (.int .i64 0)),(.const (.int .i64 100000000))],none⟩,⟨(some 10),.faddr 2 (.tmp 1),none⟩,ld 11 10,ln 12 11,bc 13 .gtr 12 16,⟨(some 14),.call (.const (.func 50 [] [])) [(.tmp 13),(.const (.int .i64 5))],none⟩,⟨(some 15),.bslice 26 1 3 [(.int .i64 0),(.int .i64 0),(.int .i64 0)] [(0,1,(.tmp 6)),(1,1,(.tmp 9)),(2,1,(.tmp 14))],none⟩,⟨(some 16),.call (.const (.func 49 [] [])) [(.tmp 15)],none⟩,mv 3 16] [0,1,3,0,8,31,0,64,192,448,1023,2047,4095,8191])
 (.seq (.reg [mv 17 3,⟨(some 18),.bin .neq (.prim .int) true (.tmp 17) (.const (.int .i64 0)),none⟩])
 (.cond (.tmp 18)
 (.seq (.reg [mv 19 3,mv 2 19])
 (.ret))
 (.skip))))
 (.seq (.reg [⟨(some 20),.faddr 2 (.tmp 1),none⟩,ld 21 20,⟨(some 22),.call (.const (.func 104 [] [])) [(.tmp 21),(.const (.func 91 [] []))],none⟩,⟨(some 23),.call (.const (.func 49 [] [])) [(.tmp 22)],none⟩,mv 2 23])
 (.ret)))
theorem A.c59:cFunc Tryz.prog 59=some ⟨24,[.tmp 2],A.b59⟩:=by kernel_rfl
def A.k59{K Q f c args st}:=@A.kk 59 _ _ _ A.c59 rfl K Q f c args st
theorem pfirst3{h:T O}{N i:Nat}{w:List Nat}{a0 a1 a2:Int}(hi:i<N):A.C.call (.func 49 [] []) [.slice i 0 3 (some 3) 1] ⟨h.set i (.cells [.int .i64 a0,.int .i64 a1,.int .i64 a2] 26 true),N,w⟩=some (.int .i64 (firstNZ [a0,a1,a2]),⟨h.set i (.cells [.int .i64 a0,.int .i64 a1,.int .i64 a2] 26 true),N,w⟩):=
 first_eq (l:=[a0,a1,a2]) (Sl.row (e:=26) (rw:=true) (cp:=some 3) hi (by simp[dI]) rfl (by simp)) (by simp)
def recErr(x:Rc):Int:=firstNZ [if x.f<1∨999999999<x.f then 3 else 0,if x.t<0∨100000000<x.t then 3 else 0,if 16<x.vs.length then 5 else 0]
def chkRc(x:Rc):Int:=if recErr x=0 then firstNZ (x.vs.map fun s=>((chkNum s:Nat):Int)) else recErr x
theorem rcheck0_fn{h:T O}{N:Nat}{x:Rc}{u:V}(hu:Sl h N u (strs x.vs))(hl:x.vs.length<1000)(hs:∀s∈x.vs,s.length≤100000):Fn A.C 59 [.agg [.int .i64 x.f,.int .i64 x.t,u]] h N (fun v _ _=>v=.int .i64 (chkRc x)):=by
 intro w
 have o1:=hu.form.one
 have o2:=hu.form.cells
 unfold V.one at o1
 unfold V.cells at o2
 have hlen:=hu.len
 rw[strs_len]at hlen
 have k0:Keeps h N ((h.set N (.cells [.int .i64 x.f,.int .i64 x.t,u] 78 true)).set (N+1) (.cells [.int .i64 (if x.f<1∨999999999<x.f then 3 else 0),.int .i64 (if x.t<0∨100000000<x.t then 3 else 0),.int .i64 (if 16<x.vs.length then 5 else 0)] 26 true)) (N+1+1):=(Keeps.refl.new _).new _
 have hi:(16<(x.vs.length:Int))=(16<x.vs.length):=by apply propext;omega
 rw[call_run,A.k59 (by simp)]
 simp(disch:=first|(simp;done)|omega|rfl) [-getElem?_pos,A.b59,o1,o2,hlen,splice,partV,slc,within_eq,when_eq,pfirst3,hi,pairsOk.chk]
 by_cases hz:recErr x=0
 ·have hz':=hz
  unfold recErr at hz'
  simp(disch:=first|(simp;done)|omega|rfl) [-getElem?_pos,hz',eqPrim,partV]
  refine run_fn (mapRE_fn (l:=strs x.vs) (Q:=fun j _ _ c=>∃s,x.vs[j]?=some s∧c=.int .i64 ((chkNum s:Nat):Int)) (fun _=>True) (fun _ _ _ _ _ _ _ q _ _=>q) (hu.keep k0) (by rw[strs_len];omega) ?_) ?_
  ·intro j y hy h' n' k'
   simp only[strs,List.getElem?_map,Option.map_eq_some_iff]at hy
   obtain⟨s,hs1,rfl⟩:=hy
   intro w'
   exact(check_fn (hs s (List.mem_of_getElem? hs1)) w').mono fun v st ⟨q1,q2,q3⟩=>⟨q1,q2,v,rfl,rfl,by rw[q3];rfl,fun _ _=>trivial,s,hs1,q3⟩
  ·rintro u1 h2 n2 k2 ⟨out,q1,q2,q3⟩
   rw[strs_len]at q2 q3
   have hout:out=rowsI (x.vs.map fun s=>((chkNum s:Nat):Int)):=by
    apply List.ext_getElem?
    intro j
    by_cases hj:j<x.vs.length
    ·obtain⟨y,g1,s,g2,rfl⟩:=q3 j hj
     rw[g1];simp[rowsI,g2]
    ·rw[List.getElem?_eq_none (by omega),List.getElem?_eq_none (by simp[rowsI];omega)]
   rw[hout]at q1
   have:=first_eq (w:=[]) q1.sl (by simp;omega)
   simp(disch:=first|(simp;done)|omega|rfl) [-getElem?_pos,this,Ret,chkRc,hz]
   exact k0.trans k2
 ·have hz':=hz
  unfold recErr at hz'
  simp(disch:=first|(simp;done)|omega|rfl) [-getElem?_pos,hz',eqPrim,partV,Ret,chkRc,hz]
  exact⟨k0,rfl⟩
end Go.Mx
namespace Go.Mx
open Go Go.Proofs
set_option maxRecDepth 1000000
def A.lb28_0:MCode:=.seq (.reg [bi 83 .lss 82 81])
 (.seq (.cond (.tmp 83)
 (.skip)
 (.exit 0))
 (.seq (.block 1 (.seq (.reg [ia 84 1 80 82,ld 85 84,mv 7 85])
 (.reg [mv 86 7,⟨(some 87),.faddr 0 (.tmp 3),none⟩,ld 88 87,⟨(some 89),.faddr 1 (.tmp 3),none⟩,ld 90 89,⟨(some 91),.build [(.int .i64 0),(.int .i64 0)] [(0,1,(.tmp 88)),(1,1,(.tmp 90))],none⟩,⟨(some 92),.call (.const (.func 62 [] [])) [(.tmp 86),(.tmp 91)],none⟩])))
 (.reg [bc 93 .add 82 1,mv 82 93])))
def A.ta28_0:MCode:=.seq (.seq (.reg [mv 77 0,⟨(some 78),.nilck (.tmp 77),none⟩,⟨(some 79),.faddr 6 (.tmp 78),none⟩,ld 80 79,ln 81 80,mc 82 0])
 (.block 0 (.loop A.lb28_0)))
 (.seq (.reg [mc 4 0])
 (.ret))
def A.b28:MCode:=.seq (.reg [⟨(some 3),.box 78 (.tmp 1),none⟩,mc 4 0])
 (.seq (.seq (.reg [mv 8 0,⟨(some 9),.bin .eql (.prim .ptr) true (.tmp 8) (.const .nilptr),none⟩])
 (.cond (.tmp 9)
 (.seq (.reg [mc 4 19])
 (.ret))
 (.skip)))
 (.seq (.seq (.regD [⟨(some 10),.load (some 3) (.tmp 3),none⟩,⟨(some 11),.call (.const (.func 59 [] [])) [(.tmp 10)],none⟩,⟨(some 12),.faddr 0 (.tmp 3),none⟩,ld 13 12,mv 14 0,⟨(some 15),.nilck (.tmp 14),none⟩,⟨(some 16),.faddr 3 (.tmp 15),none⟩,ld 17 16,bi 18 .leq 13 17,⟨(some 19),.call (.const (.func 50 [] [])) [(.tmp 18),(.const (.int .i64 11))],none⟩,⟨(some 20),.bslice 26 1 2 [(.int .i64 0),(.int .i64 0)] [(0,1,(.tmp 11)),(1,1,(.tmp 19))],none⟩,⟨(some 21),.call (.const (.func 49 [] [])) [(.tmp 20)],none⟩,mv 5 21] [0,1,0,4,0,16,48,112,252,511,1023,2047,4095])
 (.seq (.reg [mv 22 5,⟨(some 23),.bin .neq (.prim .int) true (.tmp 22) (.const (.int .i64 0)),none⟩])
 (.cond (.tmp 23)
 (.seq (.reg [mv 24 5,mv 4 24])
 (.ret))
 (.skip))))
 (.seq (.seq (.reg [mv 25 0,⟨(some 26),.nilck (.tmp 25),none⟩,⟨(some 27),.faddr 1 (.tmp 26),none⟩,ld 28 27])
 (.cond (.tmp 28)
 (.seq (.reg [mv 29 0,⟨(some 30),.nilck (.tmp 29),none⟩,⟨(some 31),.faddr 5 (.tmp 30),none⟩,ld 32 31,bc 33 .add 32 1,⟨(some 34),.nilck (.tmp 29),none⟩,⟨(some 35),.faddr 5 (.tmp 34),none⟩,so 35 33])
 (.seq (.reg [mc 4 18])
 (.ret)))
 (.skip)))
 (.seq (.reg [mv 36 0,⟨(some 37),.faddr 0 (.tmp 3),none⟩,ld 38 37,⟨(some 39),.nilck (.tmp 36),none⟩,⟨(some 40),.faddr 3 (.tmp 39),none⟩,so 40 38])
 (.seq (.regD [mv 41 0,mv 42 0,⟨(some 43),.nilck (.tmp 42),none⟩,⟨(some 44),.faddr 2 (.tmp 43),none⟩,ld 45 44,⟨(some 46),.load (some 3) (.tmp 3),none⟩,⟨(some 47),.call (.const (.func 60 [] [])) [(.tmp 46)],none⟩,⟨(some 48),.bslice 78 3 1 [(.int .i64 0),(.int .i64 0),.nilslice] [(0,3,(.tmp 47))],none⟩,⟨(some 49),.append 3 40 78 [(.int .i64 0),(.int .i64 0),.nilslice] (.tmp 45) (.tmp 48),none⟩,⟨(some 50),.nilck (.tmp 41),none⟩,⟨(some 51),.faddr 2 (.tmp 50),none⟩,so 51 49] [0,0,2,6,14,0,32,96,254,511,1023,2047])
 (.seq (.seq (.regD [mv 52 0,⟨(some 53),.nilck (.tmp 52),none⟩,⟨(some 54),.faddr 2 (.tmp 53),none⟩,ld 55 54,ln 56 55,mv 57 0,⟨(some 58),.nilck (.tmp 57),none⟩,⟨(some 59),.faddr 0 (.tmp 58),none⟩,ld 60 59,bi 61 .gtr 56 60] [0,1,3,7,15,0,32,96,224,511])
 (.cond (.tmp 61)
 (.seq (.reg [mv 62 0,mv 63 0,⟨(some 64),.nilck (.tmp 63),none⟩,⟨(some 65),.faddr 2 (.tmp 64),none⟩,ld 66 65,⟨(some 67),.call (.const (.func 61 [] [])) [(.tmp 66),(.const (.int .i64 0)),(.const (.int .i64 1))],none⟩,⟨(some 68),.nilck (.tmp 62),none⟩,⟨(some 69),.faddr 2 (.tmp 68),none⟩,so 69 67])
 (.reg [mv 70 0,⟨(some 71),.nilck (.tmp 70),none⟩,⟨(some 72),.faddr 4 (.tmp 71),none⟩,ld 73 72,bc 74 .add 73 1,⟨(some 75),.nilck (.tmp 70),none⟩,⟨(some 76),.faddr 4 (.tmp 75),none⟩,so 76 74]))
 (.skip)))
 A.ta28_0))))))
theorem A.c28:cFunc Tryz.prog 28=some ⟨94,[.tmp 4],A.b28⟩:=by kernel_rfl
def A.k28{K Q f c args st}:=@A.kk 28 _ _ _ A.c28 rfl K Q f c args st
def pushed(cap:Int)(rc:List (Rc×V))(p:Rc×V):List (Rc×V):=if cap<((rc.length+1:Nat):Int) then (rc++[p]).drop 1 else rc++[p]
theorem put_bad{h:T O}{N:Nat}{S:RS}{x:Rc}{u:V}(I:RI h N S)(hu:Sl h N u (strs x.vs))(hl:x.vs.length<1000)(hs:∀s∈x.vs,s.length≤100000)(hb:chkRc x≠0∨x.f≤S.last):Fn A.C 28 [.ptr S.R 0,.agg [.int .i64 x.f,.int .i64 x.t,u]] h N (fun v _ _=>v=.int .i64 (if chkRc x≠0 then chkRc x else 11)):=by
 intro w
 have o1:=hu.form.one
 have o2:=hu.form.cells
 unfold V.one at o1
 unfold V.cells at o2
 have hR:=I.lt S.R RI.mR
 have hr:=I.r
 unfold RS.cells at hr
 have k0:=(Keeps.refl (h:=h) (n:=N)).new (.cells [.int .i64 x.f,.int .i64 x.t,u] 78 true)
 have d0:¬S.R=N:=by omega
 rw[call_run,A.k28 (by simp)]
 simp(disch:=first|(simp;done)|omega|rfl) [-getElem?_pos,A.b28,o1,o2,eqPrim,splice,partV,slc]
 refine run_fn (rcheck0_fn (hu.keep k0) hl hs) ?_
 rintro _ h1 n1 k1 rfl
 have kle:=k1.le
 have g0:=(k1.get N (by omega)).trans (by rw[T.get_set,if_pos rfl])
 have gR:=(k1.get S.R (by omega)).trans ((k0.get _ hR).trans hr)
 have e1:N<n1:=by omega
 have e2:S.R<n1:=by omega
 have kk:=k0.trans k1
 by_cases hc:chkRc x=0
 ·have hle:x.f≤S.last:=by rcases hb with hb|hb;exact absurd hc hb;exact hb
  simp(disch:=first|(simp;done)|omega|rfl) [-getElem?_pos,g0,gR,e1,e2,hc,hle,partV,when_eq,splice,pfirst2,firstNZ,eqPrim,pairsOk.chk,Ret]
  exact kk.new _
 ·by_cases hle:x.f≤S.last
  ·simp(disch:=first|(simp;done)|omega|rfl) [-getElem?_pos,g0,gR,e1,e2,hc,hle,partV,when_eq,splice,pfirst2,firstNZ,eqPrim,pairsOk.chk,Ret]
   exact kk.new _
  ·simp(disch:=first|(simp;done)|omega|rfl) [-getElem?_pos,g0,gR,e1,e2,hc,hle,partV,when_eq,splice,pfirst2,firstNZ,eqPrim,pairsOk.chk,Ret]
   exact kk.new _
theorem put_frozen{h:T O}{N:Nat}{S:RS}{x:Rc}{u:V}(I:RI h N S)(hu:Sl h N u (strs x.vs))(hl:x.vs.length<1000)(hs:∀s∈x.vs,s.length≤100000)(hc:chkRc x=0)(hle:¬x.f≤S.last)(hfz:S.fz=true)(h0:0≤S.ref)(h1:S.ref<1000000):FnD A.C (·∈S.ids) 28 [.ptr S.R 0,.agg [.int .i64 x.f,.int .i64 x.t,u]] h N (fun v h' n'=>v=.int .i64 18∧RI h' n' {S with ref:=S.ref+1}):=by
 intro w
 have o1:=hu.form.one
 have o2:=hu.form.cells
 unfold V.one at o1
 unfold V.cells at o2
 have hR:=I.lt S.R RI.mR
 have hr:=I.r
 unfold RS.cells at hr
 have r1:=I.vr.one
 have r2:=I.vl.one
 unfold V.one at r1 r2
 unfold V.cells at r1 r2
 have k0:=(Keeps.refl (h:=h) (n:=N)).new (.cells [.int .i64 x.f,.int .i64 x.t,u] 78 true)
 rw[call_run,A.k28 (by simp)]
 simp(disch:=first|(simp;done)|omega|rfl) [-getElem?_pos,A.b28,o1,o2,eqPrim,splice,partV,slc]
 refine run_fn (rcheck0_fn (hu.keep k0) hl hs) ?_
 rintro _ h1 n1 k1 rfl
 have kle:=k1.le
 have g0:=(k1.get N (by omega)).trans (by rw[T.get_set,if_pos rfl])
 have gR:=(k1.get S.R (by omega)).trans ((k0.get _ hR).trans hr)
 have e1:N<n1:=by omega
 have e2:S.R<n1:=by omega
 have e3:¬S.R=n1:=by omega
 have kk:=(k0.trans k1).new (.cells [.int .i64 0,.int .i64 0] 26 true)
 have IH:=(I.keep (D:=fun _=>False) kk.upd (by simp) (by simp)).setR S.cap true S.last S.over (S.ref+1)
 simp only[RS.cells]at IH
 rw[hfz]at gR
 simp(disch:=first|(simp;done)|omega|rfl) [-getElem?_pos, -oldIds,g0,gR,e1,e2,e3,hc,hle,partV,when_eq,splice,pfirst2,firstNZ,eqPrim,pairsOk.chk,storeK2,r1,r2]
 refine retD_fin ?_ ?_ ⟨rfl,?_⟩
 ·simp[RS.ids]
 ·exact kk.upd.set (.inl RI.mR)
 ·rw[hfz];exact IH
end Go.Mx
