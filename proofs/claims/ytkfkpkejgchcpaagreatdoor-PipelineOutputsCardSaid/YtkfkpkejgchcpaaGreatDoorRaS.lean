/-lensletref09-/
import Derived.Test.YtkfkpkejgchcpaaGreatDoorRcK
set_option linter.all false
namespace Go.Mx
open Go Go.Proofs
set_option maxRecDepth 1000000
def A.lb38_0:Zah:=.seq (sr [mv 52 8,fa 53 3 3,ld 54 53,ln 55 54,bi 56 .lss 52 55]
 (cd 56
 (.skip)
 (.exit 0)))
 (.seq (.block 1 (sr [mv 59 0,fa 60 3 3,ld 61 60,mv 62 8,ia 63 1 61 62,ld 64 63,c2 65 75 59 64,bc 66 .lss 65 0]
 (cd 66
 (sr [mc 4 10]
 (.ret))
 (.skip))))
 (.reg [mv 57 8,bc 58 .add 57 1,mv 8 58]))
def A.b38:Zah:=sr [bx 3 47 1,mc 4 0]
 (.seq (sr [fa 9 0 3,ld 10 9,c1 11 74 10,ge 12 (.un .not (tq 11))]
 (cd 12
 (sr [mc 4 8]
 (.ret))
 (.skip)))
 (.seq (sr [mv 13 0,fa 14 0 3,ld 15 14,c2 16 75 13 15,bc 17 .geq 16 0]
 (cd 17
 (sr [mc 4 9]
 (.ret))
 (.skip)))
 (sr [fa 19 1 3,ld 20 19,fa 21 3 3,ld 22 21,ln 23 22,c2 24 76 20 23,mv 18 24,xt 25 18 0,xt 26 18 1,mv 5 25,mv 6 26]
 (.seq (sr [mv 27 5,ge 28 (.un .not (tq 27))]
 (cd 28
 (sr [mc 4 13]
 (.ret))
 (.skip)))
 (.seq (sr [fa 29 1 3,ld 30 29,ge 31 (.bin .eql (.prim .str) true (tq 30) (.const (.str [115,99,97,108,101]))),mv 32 31,gz 33 32 (.faddr 1 (tq 3)),gz 34 32 (.load none (tq 33)),gz 35 32 (.bin .eql (.prim .str) true (tq 34) (.const (.str [115,117,109]))),pt 36 32 35]
 (cd 36
 (sr [fa 37 2 3,ld 38 37,c1 39 40 38,mv 7 39]
 (sr [mv 40 7,ni 41 40 0]
 (cd 41
 (sr [mv 42 7,mv 4 42]
 (.ret))
 (.skip))))
 (sr [fa 43 2 3,ld 44 43,ge 45 (.bin .neq (.prim .str) true (tq 44) (.const (.str [])))]
 (cd 45
 (sr [mc 4 1]
 (.ret))
 (.skip)))))
 (.seq (sr [fa 46 3 3,ld 47 46,ln 48 47,bc 49 .gtr 48 16]
 (cd 49
 (sr [mc 4 5]
 (.ret))
 (.skip)))
 (.seq (sr [mv 50 6,ge 51 (.un .not (tq 50))]
 (cd 51
 (sr [mc 4 2]
 (.ret))
 (.skip)))
 (.seq (sr [mc 8 0]
 (.block 0 (.loop A.lb38_0)))
 (sr [fa 67 4 3,ld 68 67,ge 69 (.call (fq 39) [tq 68,.const (.int .i64 1),.const (.int .i64 1000)]),mv 4 69]
 (.ret))))))))))
def A.k38:=@A.kk 38 70 [.tmp 4] A.b38 (by kernel_rfl) rfl
def A.lb11_0:Zah:=.seq (sr [mv 11 3,mv 12 0,ln 13 12,bi 14 .lss 11 13]
 (cd 14
 (.skip)
 (.exit 0)))
 (.seq (.block 1 (.seq (.regD [mv 17 0,mv 18 3,ge 19 (.sliceSl 5 (tq 17) none (some (tq 18)) none),mv 20 0,mv 21 3,ia 22 5 20 21,lN 23 5 22,c2 24 38 19 23,mv 4 24] [0,0,3,0,0,24,56,127,255])
 (sr [mv 25 4,ni 26 25 0]
 (cd 26
 (sr [mv 27 4,mv 2 27]
 (.ret))
 (.skip)))))
 (.reg [mv 15 3,bc 16 .add 15 1,mv 3 16]))
def A.b11:Zah:=sr [mc 2 0]
 (.seq (sr [mv 5 0,ln 6 5,ei 7 6 0]
 (cd 7
 (sr [mc 2 12]
 (.ret))
 (.skip)))
 (.seq (sr [mv 8 0,ln 9 8,bc 10 .gtr 9 16]
 (cd 10
 (sr [mc 2 5]
 (.ret))
 (.skip)))
 (.seq (sr [mc 3 0]
 (.block 0 (.loop A.lb11_0)))
 (sr [mc 2 0]
 (.ret)))))
def A.k11:=@A.kk 11 28 [.tmp 2] A.b11 (by kernel_rfl) rfl
def Ztk{s:Str}{o:Opn}(h:opOf s=some o):o.factor=true↔(s=[115,99,97,108,101]∨s=[115,117,109]):=by
 unfold opOf at h
 repeat' (split at h)
 all_goals first|(cases h;done)|(obtain rfl:=Ysx h;simp_all)
def Yp5(h:T O)(N:Nat)(g:List Stg)(s:Stg)(inp:V)(e:Ex)(r:T V)(st:St):Prop:=Zad N st.w=[]∧Keeps h N st.h st.n∧N<st.n∧st.h.get N=some (.cells (Zb9 s inp) 47 true)∧((e=.exit 0∧s.inputs.any (fun n=>decide (g.length≤pos g n))=false)∨(e=.ret∧s.inputs.any (fun n=>decide (g.length≤pos g n))=true∧r.get 4=some (.int .i64 10)))
def Yop(h:T O)(N:Nat)(g:List Stg)(s:Stg)(inp:V)(m:Nat)(r:T V)(st:St):Prop:=Zad N st.w=[]∧Keeps h N st.h st.n∧N<st.n∧st.h.get N=some (.cells (Zb9 s inp) 47 true)∧∃k,k+m=s.inputs.length∧r.get 8=some (.int .i64 k)∧s.inputs.any (fun n=>decide (g.length≤pos g n))=(s.inputs.drop k).any (fun n=>decide (g.length≤pos g n))
def Zmf{h:T O}{N:Nat}{v inp:V}{g:List Stg}{s:Stg}(hg:Gr h N v g)(hl:g.length<1000000)(hi:Sl h N inp (strs s.inputs))(hil:s.inputs.length<1000000){r0:T V}(a0:r0.get 0=some v)(a3:r0.get 3=some (.ptr N 0)):
  ∀k r st,(∀t,inD [(4,4),(8,8),(52,66)] t=false→r.get t=r0.get t)→Fx [(4,4),(8,8),(52,66)] r0 70 ⟨r,70,[]⟩→Yop h N g s inp k r st→Code A.C none A.lb38_0 ⟨r,70,[]⟩ st (Rd [(4,4),(8,8),(52,66)] r0 70 (Yop h N g s inp) k (Yp5 h N g s inp)):=by
 rintro m r ⟨H,n1,W⟩ hr hf ⟨hW,hK,hN,hrow,k,hk,h8,hz⟩
 simp only at hW hK hN hrow
 rw[Zaj]
 have lz:=hi.len
 rw[Zby]at lz
 have c3:H.get N=some (.cells [.str s.name,.str s.op,.str s.factor,inp,.int .i64 s.cost] 47 true):=hrow
 cases m with
 |zero=>
  have:k=s.inputs.length:=by omega
  subst this
  rw[Yti]at hz
  simp(disch:=first|(simp;done)|omega|rfl) [-getElem?_pos,A.lb38_0,hr,hf,a0,a3,h8,c3,lz]
  exact⟨hW,hK,hN,hrow,.inl ⟨rfl,hz⟩⟩
 |succ m=>
  have hlt:k<s.inputs.length:=by omega
  have hlt':(k:Int)<(s.inputs.length:Int):=by omega
  obtain⟨n,hn⟩:=Zag hlt
  obtain⟨b1,b2,b3,b4,b5,z1,z2,z3,z4⟩:=hi.at (Zb5 hn)
  have z3:=(hK.get _ z2).trans z3
  rw[Zaq hn,List.any_cons]at hz
  have hat:=fun w=>Zqf (n:=n) (w:=w) (hg.keep hK) hl
  by_cases hp:g.length≤pos g n
  ·have p1:Zhy g n<0:=by unfold Zhy;rw[Yr3 (by omega)];omega
   rw[decide_eq_true hp,Bool.true_or]at hz
   simp(disch:=first|(simp;done)|omega|rfl) [-getElem?_pos,A.lb38_0,hr,hf,a0,a3,h8,c3,lz,hlt,hlt',z1,z3,z4,hat,p1]
   exact⟨hW,hK,hN,hrow,.inr ⟨rfl,hz,by simp⟩⟩
  ·have p1:¬Zhy g n<0:=by unfold Zhy;rw[Yr6 (by omega)];omega
   rw[decide_eq_false hp,Bool.false_or]at hz
   simp(disch:=first|(simp;done)|omega|rfl) [-getElem?_pos,A.lb38_0,hr,hf,a0,a3,h8,c3,lz,hlt,hlt',z1,z3,z4,hat,p1]
   exact⟨m,by omega,hW,hK,hN,hrow,k+1,by omega,by simp,hz⟩
def Yae{h:T O}{N:Nat}{v inp:V}{g:List Stg}{s:Stg}(hg:Gr h N v g)(hl:g.length<1000000)(hi:Sl h N inp (strs s.inputs))(hil:s.inputs.length<1000000)(hf:s.factor.length≤20):Fn A.C 38 [v,.agg (Zb9 s inp)] h N (fun u _ _=>u=.int .i64 (chkStage g s:Nat)):=by
 intro w
 rw[Zac,A.k38 (by simp)]
 have hio:=hi.form.one
 unfold V.one at hio
 have k0:=(Keeps.refl (h:=h) (n:=N)).new (.cells (Zb9 s inp) 47 true)
 unfold Zb9 at k0
 have lz:=hi.len
 rw[Zby]at lz
 have hat:=fun n w=>Zqf (n:=n) (w:=w) (hg.keep k0) hl
 unfold chkStage
 by_cases c1:Zgm s.name=true
 ·by_cases c2:pos g s.name<g.length
  ·have p2:(0:Int)≤Zhy g s.name:=by unfold Zhy;rw[Yr6 c2];omega
   simp(disch:=first|(simp;done)|omega|rfl) [-getElem?_pos,A.b38,Zb9,hio,Zcp,c1,hat,p2,Ret,c2]
   exact k0
  ·have p2:¬(0:Int)≤Zhy g s.name:=by unfold Zhy;rw[Yr3 c2];omega
   obtain⟨b,hb,hb2⟩:=Zz2 s.op s.inputs.length
   cases ho:opOf s.op with
   |none=>
    rw[ho]at hb
    simp(disch:=first|(simp;done)|omega|rfl) [-getElem?_pos,A.b38,Zb9,hio,Zcp,c1,hat,p2,Ret,c2,lz,hb,ho]
    exact k0
   |some o=>
    rw[ho]at hb
    have hof:=Ztk ho
    by_cases hfa:o.factor=true
    ·have hsc:s.op=[115,99,97,108,101]∨s.op=[115,117,109]:=hof.1 hfa
     have e1:(s.op==[115,99,97,108,101])=true∨((s.op==[115,99,97,108,101])=false∧(s.op==[115,117,109])=true):=by
      rcases hsc with hsc|hsc
      ·exact .inl (by rw[hsc];rfl)
      ·exact .inr ⟨by rw[hsc];rfl,by rw[hsc];rfl⟩
     clear hsc
     rcases e1 with e1|⟨e1,e2⟩
     all_goals
      first|simp(disch:=first|(simp;done)|omega|rfl) [-getElem?_pos,A.b38,Zb9,hio,Zcp,c1,hat,p2,c2,lz,hb,ho,Zae,e1,e2]|simp(disch:=first|(simp;done)|omega|rfl) [-getElem?_pos,A.b38,Zb9,hio,Zcp,c1,hat,p2,c2,lz,hb,ho,Zae,e1]
      refine Zaf (Zqy (by omega)) ?_
      rintro u h2 n2 k2 rfl
      have kle2:=k2.le
      have kk:=k0.trans k2
      have r2:=k2.get N (by omega)
      simp at r2
      by_cases c4:chkNum s.factor=0
      ·have c4':Zcl o s.factor=0:=by simp[Zcl,hfa,c4]
       by_cases c5:16<s.inputs.length
       ·have c5':16<(s.inputs.length:Int):=by omega
        simp(disch:=first|(simp;done)|omega|rfl) [-getElem?_pos,r2,Zae,c4,c5,c5',lz,Ret,c4']
        exact kk
       ·have c5':¬16<(s.inputs.length:Int):=by omega
        have hbv:=hb2 (by omega) o ho
        by_cases c6:o.lo≤s.inputs.length∧s.inputs.length≤o.hi
        ·have c6':¬(s.inputs.length<o.lo∨o.hi<s.inputs.length):=by omega
         rw[decide_eq_true c6]at hbv
         subst hbv
         simp(disch:=first|(simp;done)|omega|rfl) [-getElem?_pos,r2,Zae,c4,c5,c5',lz]
         refine Zai [(4,4),(8,8),(52,66)] (Yp5 h N g s inp) (Yop h N g s inp) s.inputs.length ?_ ?_ ?_
         ·exact⟨by simp,kk,by show N<n2;omega,by rw[Zb9];exact r2,0,by omega,by simp,by simp⟩
         ·exact Zmf hg hl hi hil (by simp) (by simp)
         ·rintro e r ⟨H,n3,W⟩ hr ⟨hW,hK,hN,hrow,⟨rfl,hz⟩|⟨rfl,hz,h4⟩⟩
          ·simp only at hW hK hN hrow
           unfold Zb9 at hrow
           have hz':¬∃x,x∈s.inputs∧g.length≤pos g x:=by simpa using hz
           simp(disch:=first|(simp;done)|omega|rfl) [-getElem?_pos,hr,hrow,Zkm,Ret,hW,hK,c5,c6',hz',c4']
           split<;>rfl
          ·simp only at hW hK hN hrow
           have hz':∃x,x∈s.inputs∧g.length≤pos g x:=by simpa using hz
           simp(disch:=first|(simp;done)|omega|rfl) [-getElem?_pos,hr,h4,Ret,hW,hK,c5,c6',hz',c4']
        ·have c6':s.inputs.length<o.lo∨o.hi<s.inputs.length:=by omega
         rw[decide_eq_false c6]at hbv
         subst hbv
         simp(disch:=first|(simp;done)|omega|rfl) [-getElem?_pos,r2,Zae,c4,c5,c5',c6',lz,Ret,c4']
         exact kk
      ·have c4':¬Zcl o s.factor=0:=by simp[Zcl,hfa,c4]
       simp(disch:=first|(simp;done)|omega|rfl) [-getElem?_pos,r2,Zae,c4,Ret,Zcl,hfa]
       exact kk
    ·have hfa:o.factor=false:=by simpa using hfa
     have e1:(s.op==[115,99,97,108,101])=false:=by
      cases h:(s.op==[115,99,97,108,101])with
      |false=>rfl
      |true=>rw[hof.2 (.inl (by simpa using h))]at hfa;cases hfa
     have e2:(s.op==[115,117,109])=false:=by
      cases h:(s.op==[115,117,109])with
      |false=>rfl
      |true=>rw[hof.2 (.inr (by simpa using h))]at hfa;cases hfa
     by_cases c4:s.factor=[]
     ·have c4':Zcl o s.factor=0:=by simp[Zcl,hfa,c4]
      have e3:(s.factor==[])=true:=by simp[c4]
      have e4:s.factor.isEmpty=true:=by simp[c4]
      clear c4
      by_cases c5:16<s.inputs.length
      ·have c5':16<(s.inputs.length:Int):=by omega
       simp(disch:=first|(simp;done)|omega|rfl) [-getElem?_pos,A.b38,Zb9,hio,Zcp,c1,hat,p2,c2,lz,hb,ho,Zae,e1,e2,e3,e4,c5,c5',lz,Ret,c4']
       exact k0
      ·have c5':¬16<(s.inputs.length:Int):=by omega
       have hbv:=hb2 (by omega) o ho
       by_cases c6:o.lo≤s.inputs.length∧s.inputs.length≤o.hi
       ·have c6':¬(s.inputs.length<o.lo∨o.hi<s.inputs.length):=by omega
        rw[decide_eq_true c6]at hbv
        subst hbv
        simp(disch:=first|(simp;done)|omega|rfl) [-getElem?_pos,A.b38,Zb9,hio,Zcp,c1,hat,p2,c2,lz,hb,ho,Zae,e1,e2,e3,e4,c5,c5',lz]
        refine Zai [(4,4),(8,8),(52,66)] (Yp5 h N g s inp) (Yop h N g s inp) s.inputs.length ?_ ?_ ?_
        ·exact⟨by simp,k0,by show N<N+1;omega,by simp[Zb9],0,by omega,by simp,by simp⟩
        ·exact Zmf hg hl hi hil (by simp) (by simp)
        ·rintro e r ⟨H,n3,W⟩ hr ⟨hW,hK,hN,hrow,⟨rfl,hz⟩|⟨rfl,hz,h4⟩⟩
         ·simp only at hW hK hN hrow
          unfold Zb9 at hrow
          have hz':¬∃x,x∈s.inputs∧g.length≤pos g x:=by simpa using hz
          simp(disch:=first|(simp;done)|omega|rfl) [-getElem?_pos,hr,hrow,Zkm,Ret,hW,hK,c5,c6',hz',c4']
          split<;>rfl
         ·simp only at hW hK hN hrow
          have hz':∃x,x∈s.inputs∧g.length≤pos g x:=by simpa using hz
          simp(disch:=first|(simp;done)|omega|rfl) [-getElem?_pos,hr,h4,Ret,hW,hK,c5,c6',hz',c4']
       ·have c6':s.inputs.length<o.lo∨o.hi<s.inputs.length:=by omega
        rw[decide_eq_false c6]at hbv
        subst hbv
        simp(disch:=first|(simp;done)|omega|rfl) [-getElem?_pos,A.b38,Zb9,hio,Zcp,c1,hat,p2,c2,lz,hb,ho,Zae,e1,e2,e3,e4,c5,c5',c6',lz,Ret,c4']
        exact k0
     ·have e3:(s.factor==[])=false:=by simp[c4]
      have e4:s.factor.isEmpty=false:=by simp[c4]
      simp(disch:=first|(simp;done)|omega|rfl) [-getElem?_pos,A.b38,Zb9,hio,Zcp,c1,hat,p2,c2,lz,hb,ho,Zae,e1,e2,e3,e4,c4,Ret,Zcl,hfa]
      exact k0
 ·have c1:Zgm s.name=false:=by simpa using c1
  simp(disch:=first|(simp;done)|omega|rfl) [-getElem?_pos,A.b38,Zb9,hio,Zcp,c1,Ret]
  exact k0
def Yqf(g:List Stg):Prop:=∀s∈g,s.factor.length≤20∧s.inputs.length<1000000
def Zmh{h:T O}{N:Nat}{v:V}{g:List Stg}(hg:Gr h N v g)(hl:g.length<1000000)(hf:Yqf g):Fn A.C 11 [v] h N (fun u _ _=>u=.int .i64 (chkGraph g:Nat)):=by
 intro w
 rw[Zac,A.k11 (by simp)]
 have lg:=hg.len
 by_cases h0:g.length=0
 ·have h0':(g.length:Int)=0:=by omega
  simp(disch:=first|(simp;done)|omega|rfl) [-getElem?_pos,A.b11,lg,h0,Zae,Ret,chkGraph]
  exact Keeps.refl
 ·have h0':¬(g.length:Int)=0:=by omega
  have hne:g≠[]:=fun h=>by rw[h]at h0;simp at h0
  by_cases h16:16<g.length
  ·have h16':16<(g.length:Int):=by omega
   simp(disch:=first|(simp;done)|omega|rfl) [-getElem?_pos,A.b11,lg,h0,h0',hne,h16,h16',Zae,Ret,chkGraph]
   exact Keeps.refl
  ·have h16':¬16<(g.length:Int):=by omega
   have hc:chkGraph g=Zqa [] g:=by simp[chkGraph,h0,h16,hne]
   simp(disch:=first|(simp;done)|omega|rfl) [-getElem?_pos,A.b11,lg,h0,h0',hne,h16,h16',Zae]
   refine Zai [(2,4),(11,27)] (fun e r st=>Zad N st.w=[]∧Keeps h N st.h st.n∧((e=.exit 0∧Zqa [] g=0)∨(e=.ret∧r.get 2=some (.int .i64 (Zqa [] g:Nat))))) (fun m r st=>Zad N st.w=[]∧Keeps h N st.h st.n∧∃k,k+m=g.length∧r.get 3=some (.int .i64 k)∧Zqa [] g=Zqa (g.take k) (g.drop k)) g.length ?_ ?_ ?_
   ·exact⟨by simp,Keeps.refl,0,by omega,by simp,by simp⟩
   ·rintro m r ⟨H,n1,W⟩ hr hf2 ⟨hW,hK,k,hk,h3,hz⟩
    simp only at hW hK
    rw[Zaj]
    cases m with
    |zero=>
     have:k=g.length:=by omega
     subst this
     rw[Yti,Zqa]at hz
     simp(disch:=first|(simp;done)|omega|rfl) [-getElem?_pos,A.lb11_0,hr,hf2,h3,hW,hK,hz,lg]
    |succ m=>
     have hlt:k<g.length:=by omega
     obtain⟨s,hs⟩:=Zag hlt
     have hgH:=hg.keep hK
     obtain⟨i,o,cc,e,rw,inp,q1,q2,q3,q4,q5⟩:=hgH.at hs
     obtain⟨ff1,ff2⟩:=hf s (Yr8 hs)
     rw[Zaq hs,Zqa]at hz
     have hk1:(k:Int)<(g.length:Int):=by omega
     obtain⟨v',e1,e2⟩:=hgH.slice (w:=[]) (lo:=0) (hi:=k) (by omega) (by omega) none (some (.int .i64 k)) (.inr ⟨rfl,rfl⟩) (.inl rfl)
     rw[Yuj]at e2
     simp(disch:=first|(simp;done)|omega|rfl) [-getElem?_pos,A.lb11_0,hr,hf2,h3,hk1,hlt,lg,q1,q3,q4,Zcj,evOpt,e1]
     have hlt2:(g.take k).length<1000000:=by simp;omega
     have qi:i<n1:=q2
     refine Zaf (Yae e2 hlt2 q5 ff2 ff1) ?_
     rintro u h3' n3 k3 rfl
     have kk:=hK.trans k3
     by_cases hz0:chkStage (g.take k) s=0
     ·rw[hz0]at hz
      simp at hz
      simp(disch:=first|(simp;done)|omega|rfl) [-getElem?_pos,hr,hf2,h3,hz0,Zae,hW,qi]
      exact⟨m,by omega,kk,k+1,by omega,by simp,by rw[hz,Yta,hs];rfl⟩
     ·rw[Yr6 hz0]at hz
      simp(disch:=first|(simp;done)|omega|rfl) [-getElem?_pos,hr,hf2,h3,hz0,Zae,hW,hz,qi]
      exact kk
   ·rintro e r ⟨H,n1,W⟩ hr ⟨hW,hK,⟨rfl,hz⟩|⟨rfl,h4⟩⟩
    ·simp only at hW hK
     simp(disch:=first|(simp;done)|omega|rfl) [-getElem?_pos,hr,hz,Ret,hW,hK,hc]
    ·simp only at hW hK
     simp(disch:=first|(simp;done)|omega|rfl) [-getElem?_pos,hr,h4,Ret,hW,hK,hc]
def A.lb42_0:Zah:=.seq (sr [mv 66 14,fa 67 3 11,ld 68 67,ln 69 68,bi 70 .lss 66 69]
 (cd 70
 (.skip)
 (.exit 1)))
 (.seq (.block 2 (sr [mv 73 3,mv 74 0,fa 75 3 11,ld 76 75,mv 77 14,ia 78 1 76 77,ld 79 78,c2 80 75 74 79,ia 81 1 73 80,ld 82 81,mv 15 82]
 (sr [fa 83 1 11,ld 84 83,ge 85 (.bin .eql (.prim .str) true (tq 84) (.const (.str [97,100,100])))]
 (cd 85
 (.reg [mv 86 13,mv 87 15,c2 88 82 86 87,mv 13 88])
 (.reg [mv 89 13,mv 90 15,c2 91 83 89 90,mv 13 91])))))
 (.reg [mv 71 14,bc 72 .add 71 1,mv 14 72]))
def A.b42:Zah:=sr [bx 7 49 2,ge 10 (.mov (.const (.str [])))]
 (sr [mv 16 0,mv 17 1,ia 18 5 16 17,lN 19 5 18,ge 11 (.alloc [(.str []),(.str []),(.str []),.nilslice,.int .i64 0] 47),gn (.store 5 (tq 11) (tq 19))]
 (.seq (sr [fa 20 1 11,ld 21 20,ge 22 (.bin .eql (.prim .str) true (tq 21) (.const (.str [102,114,97,109,101])))]
 (cd 22
 (sr [fa 23 3 7,ld 24 23,mv 10 24]
 (.ret))
 (.skip)))
 (sr [mv 25 0,fa 26 3 11,ld 27 26,ge 28 (.iaddrSl 1 (tq 27) (kq 0)),ld 29 28,c2 30 75 25 29,mv 12 30]
 (.seq (sr [fa 31 1 11,ld 32 31]
 (.block 0 (sr [ge 34 (.bin .eql (.prim .str) true (tq 32) (.const (.str [115,99,97,108,101]))),mv 33 34]
 (cd 33
 (.seq (.regD [fa 35 2 11,ld 36 35,mv 37 3,mv 38 12,ia 39 1 37 38,ld 40 39,c2 41 81 36 40,mv 10 41] [0,1,0,0,12,28,63,127])
 (.ret))
 (sr [ge 43 (.bin .eql (.prim .str) true (tq 32) (.const (.str [100,101,108,97,121]))),mv 42 43]
 (cd 42
 (sr [mv 44 4,mv 45 12,ia 46 1 44 45,ld 47 46,mv 10 47]
 (.ret))
 (sr [ge 49 (.bin .eql (.prim .str) true (tq 32) (.const (.str [115,117,109]))),mv 48 49]
 (cd 48
 (.seq (.regD [fa 50 2 11,ld 51 50,mv 52 4,mv 53 1,ia 54 1 52 53,ld 55 54,c2 56 81 51 55,mv 57 3,mv 58 12,ia 59 1 57 58,ld 60 59,c2 61 82 56 60,mv 10 61] [0,1,0,0,12,28,63,0,0,384,896,2047,4095])
 (.ret))
 (.skip)))))))))
 (sr [mv 62 3,mv 63 12,ia 64 1 62 63,ld 65 64,mv 13 65]
 (.seq (sr [mc 14 1]
 (.block 1 (.loop A.lb42_0)))
 (sr [mv 92 13,mv 10 92]
 (.ret))))))))
def A.k42:=@A.kk 42 93 [.tmp 10] A.b42 (by kernel_rfl) rfl
def Yh2{s:Str}{o:Opn}(h:opOf s=some o):(s=[102,114,97,109,101]∧o=⟨false,0,0⟩)∨(s=[97,100,100]∧o=⟨false,1,16⟩)∨(s=[115,99,97,108,101]∧o=⟨true,1,1⟩)∨(s=[109,97,120]∧o=⟨false,1,16⟩)∨(s=[100,101,108,97,121]∧o=⟨false,1,1⟩)∨(s=[115,117,109]∧o=⟨true,1,1⟩):=by
 unfold opOf at h
 repeat' split at h
 all_goals first|(cases h;done)|(obtain rfl:=Ysx h;simp_all)
def Tx.at{h:T O}{N:Nat}{v:V}{l:List Rat}(s:Tx h N v l){j:Nat}{q:Rat}(hj:l[j]?=some q):∃i o c e rw,Zns v=some (i,o)∧i<N∧h.get i=some (.cells c e rw)∧c[o+j]?=some (.str (Za0 q)):=Sl.at s (Yml hj)
def agQ(a:Bool)(l:List Rat):Rat:=if a=true then l.foldl (fun a b=>a+b) 0 else Zos l
def Zur(a:Bool)(q:Rat):agQ a [q]=q:=by
 unfold agQ
 split
 ·simp[Rat.zero_add]
 ·rfl
def Zus{a:Bool}{l:List Rat}{q:Rat}(h:0<l.length):agQ a (l++[q])=if a=true then agQ a l+q else mx2 (agQ a l) q:=by
 unfold agQ
 split
 ·rw[List.foldl_append];rfl
 ·match l,h with
  |x::t,_=>simp[Zos,List.foldl_append]
def Ym9{a b:Rat}{k:Nat}(ha:Qb k a)(hb:Qb k b):Qb k (mx2 a b):=by
 unfold mx2
 split<;>assumption
def Ydv{a:Bool}:∀{n:Nat} {l:List Rat},l.length=n→(∀q∈l,Qb 2400 q)→Qb (n*2401+1) (agQ a l)
 |0,[],_,_=>by
  have:agQ a []=0:=by cases a<;>rfl
  rw[this]
  exact Qb.zero.mono (by omega)
 |n+1,l,hl,h=>by
  have hne:l≠[]:=fun e=>by rw[e]at hl;cases hl
  obtain⟨t,q,rfl⟩:∃t q,l=t++[q]:=⟨l.dropLast,l.getLast hne,(Yvb hne).symm⟩
  have ht:t.length=n:=by simpa using hl
  have hq:=h q (by simp)
  cases n with
  |zero=>
   obtain rfl:t=[]:=List.length_eq_zero_iff.1 ht
   rw[List.nil_append,Zur]
   exact hq.mono (by omega)
  |succ n=>
   have ih:=Ydv (a:=a) ht fun x hx=>h x (by simp[hx])
   rw[Zus (by omega)]
   split
   ·exact(ih.add hq).mono (by omega)
   ·exact Ym9 (ih.mono (by omega)) (hq.mono (by omega))
set_option maxHeartbeats 4000000
def Yex{h:T O}{N i:Nat}{vg vn vb:V}{g:List Stg}{s:Stg}{f:FmR}{now before:List Rat}(hg:Gr h N vg g)(hG:OkG g)(hs:g[i]?=some s)(hfl:s.factor.length≤20)(hnow:Tx h N vn now)(hnl:now.length=i)(hb:Tx h N vb before)(hbl:before.length=g.length)(hfv:chkNum f.val=0)(hq:∀q∈now,Qb 2400 q)(hbq:∀q∈before,Qb 2400 q):Fn A.C 42 [vg,.int .i64 i,.agg (fmC f),vn,vb] h N (fun u _ _=>u=.str (Za0 (Znz g s (fmQ f) (before[i]?.getD 0) now before))):=by
 intro w
 have g16:=hG.v.le
 have hlt:=Zaz hs
 have lg:=hg.len
 have hlt':(i:Int)<(g.length:Int):=by omega
 obtain⟨o,ho1,ho2,ho3,ho4⟩:=hG.op s (Yr8 hs)
 obtain⟨ig,og,cg,eg,rwg,inp,q1,q2,q3,q4,q5⟩:=hg.at hs
 obtain⟨z1,z2,z3,z4,z5,z6⟩:=Zjd q4
 have hio:=q5.form.one
 have hil:=q5.len
 rw[Zby]at hil
 have rp:=Yaf hG hs
 have hcs:(V.agg (Zb9 s inp)).cells=Zb9 s inp:=rfl
 have hls:(Zb9 s inp).length=5:=rfl
 have hos:(Zb9 s inp).all V.one=true:=by
  unfold Zb9
  simp only[List.all_cons,List.all_nil,hio]
  rfl
 have sps:splice [.str [],.str [],.str [],.nilslice,.int .i64 0] 0 (Zb9 s inp)=Zb9 s inp:=rfl
 have hcf:(V.agg (fmC f)).cells=fmC f:=rfl
 have hlf:(fmC f).length=4:=rfl
 have hof:(fmC f).all V.one=true:=rfl
 have kG:Keeps h N (((h.set N (.cells (fmC f) 49 true)).set (N+1) (.cells [.str [],.str [],.str [],.nilslice,.int .i64 0] 47 true)).set (N+1) (.cells (Zb9 s inp) 47 true)) (N+1+1):=((Keeps.refl.new _).new _).set (by omega)
 have gF:(((h.set N (.cells (fmC f) 49 true)).set (N+1) (.cells [.str [],.str [],.str [],.nilslice,.int .i64 0] 47 true)).set (N+1) (.cells (Zb9 s inp) 47 true)).get N=some (.cells (fmC f) 49 true):=by rw[T.get_set,Yr3 (by omega),T.get_set,Yr3 (by omega),T.get_set,Yr6 rfl]
 have gS:(((h.set N (.cells (fmC f) 49 true)).set (N+1) (.cells [.str [],.str [],.str [],.nilslice,.int .i64 0] 47 true)).set (N+1) (.cells (Zb9 s inp) 47 true)).get (N+1)=some (.cells (Zb9 s inp) 47 true):=by rw[T.get_set,Yr6 rfl]
 have s0:(Zb9 s inp)[1]?=some (.str s.op):=rfl
 have s1:(Zb9 s inp)[2]?=some (.str s.factor):=rfl
 have s2:(Zb9 s inp)[3]?=some inp:=rfl
 have f3:(fmC f)[3]?=some (.str f.val):=rfl
 have d1:¬ig=N:=by omega
 have d2:ig<N+1:=by omega
 rw[Zac,A.k42 (by simp)]
 rcases Yh2 ho1 with⟨hop,rfl⟩|⟨hop,rfl⟩|⟨hop,rfl⟩|⟨hop,rfl⟩|⟨hop,rfl⟩|⟨hop,rfl⟩
 ·simp(disch:=first|(simp;done)|omega|rfl) [-getElem?_pos, -V.cells, -V.one,A.b42,lg,hlt,hlt',q1,q2,q3,q4,hcs,hls,hos,sps,hcf,hlf,hof,Zal,d1,d2,s0,f3,gF,gS,hop,Zae,Ret]
  have e:Znz g s (fmQ f) (before[i]?.getD 0) now before=fmQ f:=by simp[Znz,opQ,hop]
  rw[e]
  exact⟨kG,(Zit hfv).1.symm⟩
 ·obtain⟨n0,tl,hin⟩:∃n0 tl,s.inputs=n0::tl:=by
   match hI:s.inputs,(show 1≤s.inputs.length from ho3)with
   |n0::tl,_=>exact⟨n0,tl,rfl⟩
   |[],h=>simp at h
  have p0:=rp n0 (by rw[hin];simp)
  have hn0:s.inputs[0]?=some n0:=by rw[hin];rfl
  obtain⟨x0,hx0⟩:=Zag (l:=now) (k:=pos g n0) (by omega)
  obtain⟨b0,hb0⟩:=Zag (l:=before) (k:=pos g n0) (by omega)
  obtain⟨bi,hbi⟩:=Zag (l:=before) (k:=i) (by omega)
  obtain⟨ii,oi,ci,ei,rwi,t1,t2,t3,t4⟩:=q5.at (Zb5 hn0)
  rw[Ytb]at t4
  have t3:=(kG.get ii t2).trans t3
  have t5:ii<N+1+1:=by omega
  obtain⟨iN,oN,cN,eN,rwN,u1,u2,u3,u4⟩:=hnow.at hx0
  have u3:=(kG.get iN u2).trans u3
  have u5:iN<N+1+1:=by omega
  have hpi:Zhy g n0=(pos g n0:Int):=by unfold Zhy;rw[Yr6 (by omega)]
  have hat:=fun w=>Zqf (n:=n0) (w:=w) (hg.keep kG) (by omega)
  simp only[hpi]at hat
  have lnw:=hnow.len
  have lbw:=hb.len
  have e1:pos g n0<now.length:=by omega
  have e1':(pos g n0:Int)<(now.length:Int):=by omega
  have e2:pos g n0<before.length:=by omega
  have e2':(pos g n0:Int)<(before.length:Int):=by omega
  have e3:i<before.length:=by omega
  have e3':(i:Int)<(before.length:Int):=by omega
  have e4:(0:Int)<(s.inputs.length:Int):=by rw[hin];simp
  have e5:0<s.inputs.length:=by rw[hin];simp
  have i16:s.inputs.length≤16:=ho4
  have hiq:∀q∈Zfa g s now,Qb 2400 q:=fun q hqm=>by
   obtain⟨nm,hnm,rfl⟩:=Yt1.1 hqm
   obtain⟨y,hy⟩:=Zag (l:=now) (k:=pos g nm) (by have:=rp nm hnm;omega)
   rw[hy]
   exact hq y (Yr8 hy)
  have hiql:(Zfa g s now).length=s.inputs.length:=Ysw ..
  have hi1:(Zfa g s now).take 1=[x0]:=by simp[Zfa,hin,hx0]
  have eF:Znz g s (fmQ f) (before[i]?.getD 0) now before=agQ true (Zfa g s now):=by simp[Znz,opQ,hop,agQ]
  rw[eF]
  simp(disch:=first|(simp;done)|omega|rfl) [-getElem?_pos, -V.cells, -V.one,A.b42,lg,hlt,hlt',q1,q2,q3,q4,hcs,hls,hos,sps,hcf,hlf,hof,Zal,d1,d2,s0,s1,s2,f3,gF,gS,hop,Zae,hat,hil,t1,t3,t4,t5,e4,e5,u1,u3,u4,u5,lnw,e1,e1']
  clear hat t3 u3
  generalize (((h.set N (.cells (fmC f) 49 true)).set (N+1) (.cells [.str [],.str [],.str [],.nilslice,.int .i64 0] 47 true)).set (N+1) (.cells (Zb9 s inp) 47 true))=G at*
  refine Zai [(13,15),(66,91)] (fun e r st=>e=.exit 1∧Zad N st.w=[]∧Keeps G (N+1+1) st.h st.n∧r.get 13=some (.str (Za0 (agQ true (Zfa g s now))))) (fun m r st=>Zad N st.w=[]∧Keeps G (N+1+1) st.h st.n∧∃k,0<k∧k+m=s.inputs.length∧r.get 14=some (.int .i64 k)∧r.get 13=some (.str (Za0 (agQ true ((Zfa g s now).take k))))) (s.inputs.length-1) ?_ ?_ ?_
  ·exact⟨by simp[Zad],Keeps.refl,1,by omega,by omega,by simp,by simp[hi1,Zur]⟩
  ·rintro m r ⟨H,n1,W⟩ hr hf ⟨hW,hK,k,k0,hk,h14,h13⟩
   simp only at hW hK
   rw[Zaj]
   have leK:=hK.le
   have gS':=(hK.get (N+1) (by omega)).trans gS
   have w1:N+1<n1:=by omega
   cases m with
   |zero=>
    obtain rfl:k=s.inputs.length:=by omega
    rw[Ysd (by omega)]at h13
    simp(disch:=first|(simp;done)|omega|rfl) [-getElem?_pos,A.lb42_0,hr,hf,h14,gS',w1,s2,hil,h13,hW,hK]
   |succ m=>
    obtain⟨nk,hnk⟩:=Zag (l:=s.inputs) (k:=k) (by omega)
    have pk:=rp nk (Yr8 hnk)
    obtain⟨xk,hxk⟩:=Zag (l:=now) (k:=pos g nk) (by omega)
    obtain⟨ii,oi,ci,ei,rwi,t1,t2,t3,t4⟩:=(q5.keep (kG.trans hK)).at (Zb5 hnk)
    obtain⟨iN,oN,cN,eN,rwN,u1,u2,u3,u4⟩:=(hnow.keep (kG.trans hK)).at hxk
    have hpi:Zhy g nk=(pos g nk:Int):=by unfold Zhy;rw[Yr6 (by omega)]
    have hat:=fun w=>Zqf (n:=nk) (w:=w) (hg.keep (kG.trans hK)) (by omega)
    simp only[hpi]at hat
    have f1:k<s.inputs.length:=by omega
    have f1':(k:Int)<(s.inputs.length:Int):=by omega
    have f2:pos g nk<now.length:=by omega
    have f2':(pos g nk:Int)<(now.length:Int):=by omega
    have hxi:(Zfa g s now)[k]?=some xk:=by unfold Zfa;rw[Ysa,hnk];simp[hxk]
    have htk:(Zfa g s now).take (k+1)=(Zfa g s now).take k++[xk]:=by rw[Yta,hxi];rfl
    have hag:=Ydv (a:=true) (l:=(Zfa g s now).take k) (n:=k) (by rw[Ysi];omega) (fun q hqm=>hiq q (Ytn hqm))
    have hap:=Zus (a:=true) (l:=(Zfa g s now).take k) (q:=xk) (by rw[Ysi];omega)
    rw[←htk]at hap
    simp only[Yse,if_true,if_false]at hap
    simp(disch:=first|(simp;done)|omega|rfl) [-getElem?_pos,A.lb42_0,hr,hf,h14,h13,gS',w1,s0,s2,hil,f1,f1',f2,f2',t1,t2,t3,t4,u1,u2,u3,u4,hat,lnw,hop,Zae]
    refine Zaf (Zuv hag (hq xk (Yr8 hxk)) (by omega) (by decide)) ?_
    rintro _ H3 n3 k3 rfl
    rw[←hap]
    simp(disch:=first|(simp;done)|omega|rfl) [-getElem?_pos,hr,hf,h14,hW]
    exact⟨m,by omega,hK.trans k3,k+1,by omega,by omega,by simp,by simp⟩
  ·rintro _ r ⟨H,n1,W⟩ hr ⟨rfl,hW,hK,h13⟩
   simp only at hW hK
   simp(disch:=first|(simp;done)|omega|rfl) [-getElem?_pos,hr,h13,Ret]
   exact⟨hW,kG.trans hK⟩
 ·obtain⟨n0,hin⟩:=List.length_eq_one_iff.1 (show s.inputs.length=1 from Nat.le_antisymm ho4 ho3)
  have p0:=rp n0 (by rw[hin];simp)
  have hn0:s.inputs[0]?=some n0:=by rw[hin];rfl
  obtain⟨x0,hx0⟩:=Zag (l:=now) (k:=pos g n0) (by omega)
  obtain⟨b0,hb0⟩:=Zag (l:=before) (k:=pos g n0) (by omega)
  obtain⟨bi,hbi⟩:=Zag (l:=before) (k:=i) (by omega)
  obtain⟨ii,oi,ci,ei,rwi,t1,t2,t3,t4⟩:=q5.at (Zb5 hn0)
  rw[Ytb]at t4
  have t3:=(kG.get ii t2).trans t3
  have t5:ii<N+1+1:=by omega
  obtain⟨iN,oN,cN,eN,rwN,u1,u2,u3,u4⟩:=hnow.at hx0
  have u3:=(kG.get iN u2).trans u3
  have u5:iN<N+1+1:=by omega
  have hpi:Zhy g n0=(pos g n0:Int):=by unfold Zhy;rw[Yr6 (by omega)]
  have hat:=fun w=>Zqf (n:=n0) (w:=w) (hg.keep kG) (by omega)
  simp only[hpi]at hat
  have lnw:=hnow.len
  have lbw:=hb.len
  have e1:pos g n0<now.length:=by omega
  have e1':(pos g n0:Int)<(now.length:Int):=by omega
  have e2:pos g n0<before.length:=by omega
  have e2':(pos g n0:Int)<(before.length:Int):=by omega
  have e3:i<before.length:=by omega
  have e3':(i:Int)<(before.length:Int):=by omega
  have e4:(0:Int)<(s.inputs.length:Int):=by rw[hin];simp
  have e5:0<s.inputs.length:=by rw[hin];simp
  have hc:chkNum s.factor=0:=by simpa[Zcl]using ho2
  have hm:∀{h':T O} {N':Nat},Fn A.C 81 [.str s.factor,.str (Za0 x0)] h' N' (fun u _ _=>u=.str (Za0 (Ze8 s.factor*x0))):=fun {h' N'}=>by
   have:=Ybc (h:=h') (N:=N') (Ydj hc hfl) (hq x0 (Yr8 hx0)) (by decide) (by decide)
   rwa [(Zit hc).1]at this
  simp(disch:=first|(simp;done)|omega|rfl) [-getElem?_pos, -V.cells, -V.one,A.b42,lg,hlt,hlt',q1,q2,q3,q4,hcs,hls,hos,sps,hcf,hlf,hof,Zal,d1,d2,s0,s1,s2,f3,gF,gS,hop,Zae,hat,hil,t1,t3,t4,t5,e4,e5,u1,u3,u4,u5,lnw,e1,e1']
  refine Zaf hm ?_
  rintro _ H2 n2 k2 rfl
  simp(disch:=first|(simp;done)|omega|rfl) [-getElem?_pos,Ret]
  exact⟨kG.trans k2,by simp[Znz,opQ,hop,Zfa,hin,hx0,Zua,opOf]⟩
 ·obtain⟨n0,tl,hin⟩:∃n0 tl,s.inputs=n0::tl:=by
   match hI:s.inputs,(show 1≤s.inputs.length from ho3)with
   |n0::tl,_=>exact⟨n0,tl,rfl⟩
   |[],h=>simp at h
  have p0:=rp n0 (by rw[hin];simp)
  have hn0:s.inputs[0]?=some n0:=by rw[hin];rfl
  obtain⟨x0,hx0⟩:=Zag (l:=now) (k:=pos g n0) (by omega)
  obtain⟨b0,hb0⟩:=Zag (l:=before) (k:=pos g n0) (by omega)
  obtain⟨bi,hbi⟩:=Zag (l:=before) (k:=i) (by omega)
  obtain⟨ii,oi,ci,ei,rwi,t1,t2,t3,t4⟩:=q5.at (Zb5 hn0)
  rw[Ytb]at t4
  have t3:=(kG.get ii t2).trans t3
  have t5:ii<N+1+1:=by omega
  obtain⟨iN,oN,cN,eN,rwN,u1,u2,u3,u4⟩:=hnow.at hx0
  have u3:=(kG.get iN u2).trans u3
  have u5:iN<N+1+1:=by omega
  have hpi:Zhy g n0=(pos g n0:Int):=by unfold Zhy;rw[Yr6 (by omega)]
  have hat:=fun w=>Zqf (n:=n0) (w:=w) (hg.keep kG) (by omega)
  simp only[hpi]at hat
  have lnw:=hnow.len
  have lbw:=hb.len
  have e1:pos g n0<now.length:=by omega
  have e1':(pos g n0:Int)<(now.length:Int):=by omega
  have e2:pos g n0<before.length:=by omega
  have e2':(pos g n0:Int)<(before.length:Int):=by omega
  have e3:i<before.length:=by omega
  have e3':(i:Int)<(before.length:Int):=by omega
  have e4:(0:Int)<(s.inputs.length:Int):=by rw[hin];simp
  have e5:0<s.inputs.length:=by rw[hin];simp
  have i16:s.inputs.length≤16:=ho4
  have hiq:∀q∈Zfa g s now,Qb 2400 q:=fun q hqm=>by
   obtain⟨nm,hnm,rfl⟩:=Yt1.1 hqm
   obtain⟨y,hy⟩:=Zag (l:=now) (k:=pos g nm) (by have:=rp nm hnm;omega)
   rw[hy]
   exact hq y (Yr8 hy)
  have hiql:(Zfa g s now).length=s.inputs.length:=Ysw ..
  have hi1:(Zfa g s now).take 1=[x0]:=by simp[Zfa,hin,hx0]
  have eF:Znz g s (fmQ f) (before[i]?.getD 0) now before=agQ false (Zfa g s now):=by simp[Znz,opQ,hop,agQ]
  rw[eF]
  simp(disch:=first|(simp;done)|omega|rfl) [-getElem?_pos, -V.cells, -V.one,A.b42,lg,hlt,hlt',q1,q2,q3,q4,hcs,hls,hos,sps,hcf,hlf,hof,Zal,d1,d2,s0,s1,s2,f3,gF,gS,hop,Zae,hat,hil,t1,t3,t4,t5,e4,e5,u1,u3,u4,u5,lnw,e1,e1']
  clear hat t3 u3
  generalize (((h.set N (.cells (fmC f) 49 true)).set (N+1) (.cells [.str [],.str [],.str [],.nilslice,.int .i64 0] 47 true)).set (N+1) (.cells (Zb9 s inp) 47 true))=G at*
  refine Zai [(13,15),(66,91)] (fun e r st=>e=.exit 1∧Zad N st.w=[]∧Keeps G (N+1+1) st.h st.n∧r.get 13=some (.str (Za0 (agQ false (Zfa g s now))))) (fun m r st=>Zad N st.w=[]∧Keeps G (N+1+1) st.h st.n∧∃k,0<k∧k+m=s.inputs.length∧r.get 14=some (.int .i64 k)∧r.get 13=some (.str (Za0 (agQ false ((Zfa g s now).take k))))) (s.inputs.length-1) ?_ ?_ ?_
  ·exact⟨by simp[Zad],Keeps.refl,1,by omega,by omega,by simp,by simp[hi1,Zur]⟩
  ·rintro m r ⟨H,n1,W⟩ hr hf ⟨hW,hK,k,k0,hk,h14,h13⟩
   simp only at hW hK
   rw[Zaj]
   have leK:=hK.le
   have gS':=(hK.get (N+1) (by omega)).trans gS
   have w1:N+1<n1:=by omega
   cases m with
   |zero=>
    obtain rfl:k=s.inputs.length:=by omega
    rw[Ysd (by omega)]at h13
    simp(disch:=first|(simp;done)|omega|rfl) [-getElem?_pos,A.lb42_0,hr,hf,h14,gS',w1,s2,hil,h13,hW,hK]
   |succ m=>
    obtain⟨nk,hnk⟩:=Zag (l:=s.inputs) (k:=k) (by omega)
    have pk:=rp nk (Yr8 hnk)
    obtain⟨xk,hxk⟩:=Zag (l:=now) (k:=pos g nk) (by omega)
    obtain⟨ii,oi,ci,ei,rwi,t1,t2,t3,t4⟩:=(q5.keep (kG.trans hK)).at (Zb5 hnk)
    obtain⟨iN,oN,cN,eN,rwN,u1,u2,u3,u4⟩:=(hnow.keep (kG.trans hK)).at hxk
    have hpi:Zhy g nk=(pos g nk:Int):=by unfold Zhy;rw[Yr6 (by omega)]
    have hat:=fun w=>Zqf (n:=nk) (w:=w) (hg.keep (kG.trans hK)) (by omega)
    simp only[hpi]at hat
    have f1:k<s.inputs.length:=by omega
    have f1':(k:Int)<(s.inputs.length:Int):=by omega
    have f2:pos g nk<now.length:=by omega
    have f2':(pos g nk:Int)<(now.length:Int):=by omega
    have hxi:(Zfa g s now)[k]?=some xk:=by unfold Zfa;rw[Ysa,hnk];simp[hxk]
    have htk:(Zfa g s now).take (k+1)=(Zfa g s now).take k++[xk]:=by rw[Yta,hxi];rfl
    have hag:=Ydv (a:=false) (l:=(Zfa g s now).take k) (n:=k) (by rw[Ysi];omega) (fun q hqm=>hiq q (Ytn hqm))
    have hap:=Zus (a:=false) (l:=(Zfa g s now).take k) (q:=xk) (by rw[Ysi];omega)
    rw[←htk]at hap
    simp only[Yse,if_true,if_false]at hap
    simp(disch:=first|(simp;done)|omega|rfl) [-getElem?_pos,A.lb42_0,hr,hf,h14,h13,gS',w1,s0,s2,hil,f1,f1',f2,f2',t1,t2,t3,t4,u1,u2,u3,u4,hat,lnw,hop,Zae]
    refine Zaf (Ye8 hag (hq xk (Yr8 hxk)) (by omega) (by decide) (by have:=Yhp (hq xk (Yr8 hxk));omega)) ?_
    rintro _ H3 n3 k3 rfl
    rw[←hap]
    simp(disch:=first|(simp;done)|omega|rfl) [-getElem?_pos,hr,hf,h14,hW]
    exact⟨m,by omega,hK.trans k3,k+1,by omega,by omega,by simp,by simp⟩
  ·rintro _ r ⟨H,n1,W⟩ hr ⟨rfl,hW,hK,h13⟩
   simp only at hW hK
   simp(disch:=first|(simp;done)|omega|rfl) [-getElem?_pos,hr,h13,Ret]
   exact⟨hW,kG.trans hK⟩
 ·obtain⟨n0,hin⟩:=List.length_eq_one_iff.1 (show s.inputs.length=1 from Nat.le_antisymm ho4 ho3)
  have p0:=rp n0 (by rw[hin];simp)
  have hn0:s.inputs[0]?=some n0:=by rw[hin];rfl
  obtain⟨x0,hx0⟩:=Zag (l:=now) (k:=pos g n0) (by omega)
  obtain⟨b0,hb0⟩:=Zag (l:=before) (k:=pos g n0) (by omega)
  obtain⟨bi,hbi⟩:=Zag (l:=before) (k:=i) (by omega)
  obtain⟨ii,oi,ci,ei,rwi,t1,t2,t3,t4⟩:=q5.at (Zb5 hn0)
  rw[Ytb]at t4
  have t3:=(kG.get ii t2).trans t3
  have t5:ii<N+1+1:=by omega
  obtain⟨iN,oN,cN,eN,rwN,u1,u2,u3,u4⟩:=hnow.at hx0
  have u3:=(kG.get iN u2).trans u3
  have u5:iN<N+1+1:=by omega
  have hpi:Zhy g n0=(pos g n0:Int):=by unfold Zhy;rw[Yr6 (by omega)]
  have hat:=fun w=>Zqf (n:=n0) (w:=w) (hg.keep kG) (by omega)
  simp only[hpi]at hat
  have lnw:=hnow.len
  have lbw:=hb.len
  have e1:pos g n0<now.length:=by omega
  have e1':(pos g n0:Int)<(now.length:Int):=by omega
  have e2:pos g n0<before.length:=by omega
  have e2':(pos g n0:Int)<(before.length:Int):=by omega
  have e3:i<before.length:=by omega
  have e3':(i:Int)<(before.length:Int):=by omega
  have e4:(0:Int)<(s.inputs.length:Int):=by rw[hin];simp
  have e5:0<s.inputs.length:=by rw[hin];simp
  obtain⟨iB,oB,cB,eB,rwB,v1,v2,v3,v4⟩:=hb.at hb0
  have v3:=(kG.get iB v2).trans v3
  have v5:iB<N+1+1:=by omega
  simp(disch:=first|(simp;done)|omega|rfl) [-getElem?_pos, -V.cells, -V.one,A.b42,lg,hlt,hlt',q1,q2,q3,q4,hcs,hls,hos,sps,hcf,hlf,hof,Zal,d1,d2,s0,s1,s2,f3,gF,gS,hop,Zae,hat,hil,t1,t3,t4,t5,e4,e5,v1,v3,v4,v5,lbw,e2,e2',Ret]
  exact⟨kG,by simp[Znz,opQ,hop,Zun,hin,hb0]⟩
 ·obtain⟨n0,hin⟩:=List.length_eq_one_iff.1 (show s.inputs.length=1 from Nat.le_antisymm ho4 ho3)
  have p0:=rp n0 (by rw[hin];simp)
  have hn0:s.inputs[0]?=some n0:=by rw[hin];rfl
  obtain⟨x0,hx0⟩:=Zag (l:=now) (k:=pos g n0) (by omega)
  obtain⟨b0,hb0⟩:=Zag (l:=before) (k:=pos g n0) (by omega)
  obtain⟨bi,hbi⟩:=Zag (l:=before) (k:=i) (by omega)
  obtain⟨ii,oi,ci,ei,rwi,t1,t2,t3,t4⟩:=q5.at (Zb5 hn0)
  rw[Ytb]at t4
  have t3:=(kG.get ii t2).trans t3
  have t5:ii<N+1+1:=by omega
  obtain⟨iN,oN,cN,eN,rwN,u1,u2,u3,u4⟩:=hnow.at hx0
  have u3:=(kG.get iN u2).trans u3
  have u5:iN<N+1+1:=by omega
  have hpi:Zhy g n0=(pos g n0:Int):=by unfold Zhy;rw[Yr6 (by omega)]
  have hat:=fun w=>Zqf (n:=n0) (w:=w) (hg.keep kG) (by omega)
  simp only[hpi]at hat
  have lnw:=hnow.len
  have lbw:=hb.len
  have e1:pos g n0<now.length:=by omega
  have e1':(pos g n0:Int)<(now.length:Int):=by omega
  have e2:pos g n0<before.length:=by omega
  have e2':(pos g n0:Int)<(before.length:Int):=by omega
  have e3:i<before.length:=by omega
  have e3':(i:Int)<(before.length:Int):=by omega
  have e4:(0:Int)<(s.inputs.length:Int):=by rw[hin];simp
  have e5:0<s.inputs.length:=by rw[hin];simp
  have hc:chkNum s.factor=0:=by simpa[Zcl]using ho2
  have hm:∀{h':T O} {N':Nat},Fn A.C 81 [.str s.factor,.str (Za0 bi)] h' N' (fun u _ _=>u=.str (Za0 (Ze8 s.factor*bi))):=fun {h' N'}=>by
   have:=Ybc (h:=h') (N:=N') (Ydj hc hfl) (hbq bi (Yr8 hbi)) (by decide) (by decide)
   rwa [(Zit hc).1]at this
  obtain⟨iB,oB,cB,eB,rwB,v1,v2,v3,v4⟩:=hb.at hbi
  have v3:=(kG.get iB v2).trans v3
  have v5:iB<N+1+1:=by omega
  simp(disch:=first|(simp;done)|omega|rfl) [-getElem?_pos, -V.cells, -V.one,A.b42,lg,hlt,hlt',q1,q2,q3,q4,hcs,hls,hos,sps,hcf,hlf,hof,Zal,d1,d2,s0,s1,s2,f3,gF,gS,hop,Zae,hat,hil,t1,t3,t4,t5,e4,e5,v1,v3,v4,v5,lbw,e3,e3']
  refine Zaf hm ?_
  rintro _ H2 n2 k2 rfl
  have u3:=(k2.get iN u5).trans u3
  have le2:=k2.le
  have u6:iN<n2:=by omega
  simp(disch:=first|(simp;done)|omega|rfl) [-getElem?_pos,u1,u3,u4,u6,lnw,e1,e1']
  refine Zaf (Zuv (((Ydj hc hfl).mul (hbq bi (Yr8 hbi))).mono (show _≤400000000 by decide)) (hq x0 (Yr8 hx0)) (by decide) (by decide)) ?_
  rintro _ H3 n3 k3 rfl
  simp(disch:=first|(simp;done)|omega|rfl) [-getElem?_pos,Ret]
  exact⟨(kG.trans k2).trans k3,by simp[Znz,opQ,hop,Zfa,hin,hx0,Zua,opOf,hbi]⟩
end Go.Mx
