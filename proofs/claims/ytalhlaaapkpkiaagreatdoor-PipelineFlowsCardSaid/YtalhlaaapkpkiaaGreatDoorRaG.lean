/-lensletref09-/
import Derived.Test.YtalhlaaapkpkiaaGreatDoorRcI
set_option linter.all false
namespace Go.Mx
open Go Go.Proofs
set_option maxRecDepth 1000000
noncomputable def A.w49:=A.q Tryz.f49
noncomputable def A.lb49_0:=A.ql A.w49 0 []
noncomputable def A.b49:=(fun x0=>A.qb A.w49 [x0]) A.lb49_0
def A.k49:=@A.kk 49 20 [.tmp 4] A.b49 (by kernel_rfl) rfl
noncomputable def A.b54:=A.q Tryz.f54
def A.k54:=@A.kk 54 22 [.tmp 4,.tmp 5] A.b54 (by kernel_rfl) rfl
noncomputable def A.b19:=A.q Tryz.f19
def A.k19:=@A.kk 19 15 [.tmp 6] A.b19 (by kernel_rfl) rfl
def Zqv{h:T O}{N:Nat}{v:V}{g:List Stg}{n:Str}{w:List Nat}(hg:Gr h N v g)(hl:g.length<1000000):A.C.call (.func 49 [] []) [v,.str n] ⟨h,N,w⟩=some (.int .i64 (Zh4 g n),⟨h,N,w⟩):=by
 apply Call.eq
 have lg:=hg.len
 rw[Zae,A.k49 (by simp)]
 simp(disch:=first|(simp;done)|omega|rfl) [-getElem?_pos,A.b49]
 refine Zah [(4,19)] (fun e r st=>st=⟨h,N,[]⟩∧((e=.exit 0∧¬pos g n<g.length)∨(e=.ret∧pos g n<g.length∧r.get 4=some (.int .i64 (pos g n:Nat))))) (fun m r st=>st=⟨h,N,[]⟩∧∃k,k+m=g.length∧r.get 5=some (.int .i64 k)∧pos g n=k+pos (g.drop k) n) g.length ?_ ?_ ?_
 ·exact⟨rfl,0,by omega,by simp,by simp⟩
 ·rintro m r _ hr hf ⟨rfl,k,hk,h5,hp⟩
  rw[Zai]
  cases m with
  |zero=>
   have:k=g.length:=by omega
   subst this
   rw[Yub,pos]at hp
   simp(disch:=first|(simp;done)|omega|rfl) [-getElem?_pos,A.lb49_0,hr,hf,h5,lg]
   omega
  |succ m=>
   have hlt:k<g.length:=by omega
   obtain⟨s,hs⟩:=Zag hlt
   obtain⟨i,o,cc,e,rw,inp,q1,q2,q3,q4,q5⟩:=hg.at hs
   obtain⟨p0,p1,p2,p3,p4,p5⟩:=Zms q4
   have hk1:(k:Int)<(g.length:Int):=by omega
   rw[Zap hs,pos]at hp
   have e1:(s.name==n)=decide (s.name=n):=by rw[Bool.eq_iff_iff];simp
   by_cases hn:s.name=n
   ·rw[Ys8 hn]at hp
    simp(disch:=first|(simp;done)|omega|rfl) [-getElem?_pos,A.lb49_0,hr,hf,h5,hk1,hlt,lg,q1,q3,p1,e1,Zad,hn]
    exact⟨by omega,by rw[hp];simp⟩
   ·rw[Ys5 hn]at hp
    simp(disch:=first|(simp;done)|omega|rfl) [-getElem?_pos,A.lb49_0,hr,hf,h5,hk1,hlt,lg,q1,q3,p1,e1,Zad,hn]
    exact⟨m,by omega,k+1,by omega,by simp,by omega⟩
 ·rintro e r _ hr ⟨rfl,⟨rfl,hp⟩|⟨rfl,hp,h4⟩⟩
  ·simp(disch:=first|(simp;done)|omega|rfl) [-getElem?_pos,hr,Zh4,hp]
  ·simp(disch:=first|(simp;done)|omega|rfl) [-getElem?_pos,hr,Zh4,hp,h4]
def Zks{x lo hi:Int}{st:St}:A.C.call (.func 19 [] []) [.int .i64 x,.int .i64 lo,.int .i64 hi] st=some (.int .i64 (if x<lo∨hi<x then 3 else 0),st):=by
 apply Call.eq
 rw[Zae,A.k19 (by simp)]
 by_cases h1:x<lo
 ·simp[A.b19,h1]
 ·by_cases h2:hi<x<;>simp[A.b19,h1,h2]
def Yay(s:Str)(n:Nat):∃b,(∀st,A.C.call (.func 54 [] []) [.str s,.int .i64 n] st=some (.tup [.bool (opOf s).isSome,.bool b],st))∧(n≤16→∀o,opOf s=some o→b=decide (o.lo≤n∧n≤o.hi)):=by
 by_cases h0:s=[102,114,97,109,101]
 ·subst h0
  refine⟨decide (n=0),fun st=>?_,?_⟩
  ·apply Call.eq
   rw[Zae,A.k54 (by simp)]
   simp[A.b54,opOf,Zad]
   try omega
  ·intro hn o ho
   simp[opOf]at ho
   subst ho
   rw[decide_eq_decide]
   show _↔(0≤n∧n≤0)
   omega
 by_cases h1:s=[97,100,100]
 ·subst h1
  refine⟨decide (0<n),fun st=>?_,?_⟩
  ·apply Call.eq
   rw[Zae,A.k54 (by simp)]
   simp[A.b54,opOf,Zad]
   try omega
  ·intro hn o ho
   simp[opOf]at ho
   subst ho
   rw[decide_eq_decide]
   show _↔(1≤n∧n≤16)
   omega
 by_cases h2:s=[109,97,120]
 ·subst h2
  refine⟨decide (0<n),fun st=>?_,?_⟩
  ·apply Call.eq
   rw[Zae,A.k54 (by simp)]
   simp[A.b54,opOf,Zad]
   try omega
  ·intro hn o ho
   simp[opOf]at ho
   subst ho
   rw[decide_eq_decide]
   show _↔(1≤n∧n≤16)
   omega
 by_cases h3:s=[115,99,97,108,101]
 ·subst h3
  refine⟨decide (n=1),fun st=>?_,?_⟩
  ·apply Call.eq
   rw[Zae,A.k54 (by simp)]
   simp[A.b54,opOf,Zad]
   try omega
  ·intro hn o ho
   simp[opOf]at ho
   subst ho
   rw[decide_eq_decide]
   show _↔(1≤n∧n≤1)
   omega
 by_cases h4:s=[100,101,108,97,121]
 ·subst h4
  refine⟨decide (n=1),fun st=>?_,?_⟩
  ·apply Call.eq
   rw[Zae,A.k54 (by simp)]
   simp[A.b54,opOf,Zad]
   try omega
  ·intro hn o ho
   simp[opOf]at ho
   subst ho
   rw[decide_eq_decide]
   show _↔(1≤n∧n≤1)
   omega
 by_cases h5:s=[115,117,109]
 ·subst h5
  refine⟨decide (n=1),fun st=>?_,?_⟩
  ·apply Call.eq
   rw[Zae,A.k54 (by simp)]
   simp[A.b54,opOf,Zad]
   try omega
  ·intro hn o ho
   simp[opOf]at ho
   subst ho
   rw[decide_eq_decide]
   show _↔(1≤n∧n≤1)
   omega
 have e0:(s==[102,114,97,109,101])=false:=by simp[h0]
 have e1:(s==[97,100,100])=false:=by simp[h1]
 have e2:(s==[109,97,120])=false:=by simp[h2]
 have e3:(s==[115,99,97,108,101])=false:=by simp[h3]
 have e4:(s==[100,101,108,97,121])=false:=by simp[h4]
 have e5:(s==[115,117,109])=false:=by simp[h5]
 have ho:opOf s=none:=by simp[opOf,h0,h1,h2,h3,h4,h5]
 refine⟨false,fun st=>?_,fun _ o h=>by rw[ho]at h;cases h⟩
 apply Call.eq
 rw[Zae,A.k54 (by simp)]
 simp[A.b54,ho,Zad,e0,e1,e2,e3,e4,e5,h0,h1,h2,h3,h4,h5]
noncomputable def A.w17:=A.q Tryz.f17
noncomputable def A.lb17_0:=A.ql A.w17 0 []
noncomputable def A.b17:=(fun x0=>A.qb A.w17 [x0]) A.lb17_0
def A.k17:=@A.kk 17 70 [.tmp 4] A.b17 (by kernel_rfl) rfl
noncomputable def A.w6:=A.q Tryz.f6
noncomputable def A.lb6_0:=A.ql A.w6 0 []
noncomputable def A.b6:=(fun x0=>A.qb A.w6 [x0]) A.lb6_0
def A.k6:=@A.kk 6 28 [.tmp 2] A.b6 (by kernel_rfl) rfl
def Zt7{s:Str}{o:Opn}(h:opOf s=some o):o.factor=true↔(s=[115,99,97,108,101]∨s=[115,117,109]):=by
 unfold opOf at h
 repeat' (split at h)
 all_goals first|(cases h;done)|(obtain rfl:=Ytz h;simp_all)
def Yq7(h:T O)(N:Nat)(g:List Stg)(s:Stg)(inp:V)(e:Ex)(r:T V)(st:St):Prop:=Zac N st.w=[]∧Keeps h N st.h st.n∧N<st.n∧st.h.get N=some (.cells (Zb2 s inp) 46 true)∧((e=.exit 0∧s.inputs.any (fun n=>decide (g.length≤pos g n))=false)∨(e=.ret∧s.inputs.any (fun n=>decide (g.length≤pos g n))=true∧r.get 4=some (.int .i64 10)))
def Ypp(h:T O)(N:Nat)(g:List Stg)(s:Stg)(inp:V)(m:Nat)(r:T V)(st:St):Prop:=Zac N st.w=[]∧Keeps h N st.h st.n∧N<st.n∧st.h.get N=some (.cells (Zb2 s inp) 46 true)∧∃k,k+m=s.inputs.length∧r.get 8=some (.int .i64 k)∧s.inputs.any (fun n=>decide (g.length≤pos g n))=(s.inputs.drop k).any (fun n=>decide (g.length≤pos g n))
def Zmz{h:T O}{N:Nat}{v inp:V}{g:List Stg}{s:Stg}(hg:Gr h N v g)(hl:g.length<1000000)(hi:Sl h N inp (strs s.inputs))(hil:s.inputs.length<1000000){r0:T V}(a0:r0.get 0=some v)(a3:r0.get 3=some (.ptr N 0)):
  ∀k r st,(∀t,inD [(4,4),(8,8),(52,66)] t=false→r.get t=r0.get t)→Fx [(4,4),(8,8),(52,66)] r0 70 ⟨r,70,[]⟩→Ypp h N g s inp k r st→Code A.C none A.lb17_0 ⟨r,70,[]⟩ st (Rd [(4,4),(8,8),(52,66)] r0 70 (Ypp h N g s inp) k (Yq7 h N g s inp)):=by
 rintro m r ⟨H,n1,W⟩ hr hf ⟨hW,hK,hN,hrow,k,hk,h8,hz⟩
 simp only at hW hK hN hrow
 rw[Zai]
 have lz:=hi.len
 rw[Zbv]at lz
 have c3:H.get N=some (.cells [.str s.name,.str s.op,.str s.factor,inp,.int .i64 s.cost] 46 true):=hrow
 cases m with
 |zero=>
  have:k=s.inputs.length:=by omega
  subst this
  rw[Yub]at hz
  simp(disch:=first|(simp;done)|omega|rfl) [-getElem?_pos,A.lb17_0,hr,hf,a0,a3,h8,c3,lz]
  exact⟨hW,hK,hN,hrow,.inl ⟨rfl,hz⟩⟩
 |succ m=>
  have hlt:k<s.inputs.length:=by omega
  have hlt':(k:Int)<(s.inputs.length:Int):=by omega
  obtain⟨n,hn⟩:=Zag hlt
  obtain⟨b1,b2,b3,b4,b5,z1,z2,z3,z4⟩:=hi.at (Zb3 hn)
  have z3:=(hK.get _ z2).trans z3
  rw[Zap hn,List.any_cons]at hz
  have hat:=fun w=>Zqv (n:=n) (w:=w) (hg.keep hK) hl
  by_cases hp:g.length≤pos g n
  ·have p1:Zh4 g n<0:=by unfold Zh4;rw[Ys5 (by omega)];omega
   rw[decide_eq_true hp,Bool.true_or]at hz
   simp(disch:=first|(simp;done)|omega|rfl) [-getElem?_pos,A.lb17_0,hr,hf,a0,a3,h8,c3,lz,hlt,hlt',z1,z3,z4,hat,p1]
   exact⟨hW,hK,hN,hrow,.inr ⟨rfl,hz,by simp⟩⟩
  ·have p1:¬Zh4 g n<0:=by unfold Zh4;rw[Ys8 (by omega)];omega
   rw[decide_eq_false hp,Bool.false_or]at hz
   simp(disch:=first|(simp;done)|omega|rfl) [-getElem?_pos,A.lb17_0,hr,hf,a0,a3,h8,c3,lz,hlt,hlt',z1,z3,z4,hat,p1]
   exact⟨m,by omega,hW,hK,hN,hrow,k+1,by omega,by simp,hz⟩
def Ya9{h:T O}{N:Nat}{v inp:V}{g:List Stg}{s:Stg}(hg:Gr h N v g)(hl:g.length<1000000)(hi:Sl h N inp (strs s.inputs))(hil:s.inputs.length<1000000)(hf:s.factor.length≤20):Fn A.C 17 [v,.agg (Zb2 s inp)] h N (fun u _ _=>u=.int .i64 (chkStage g s:Nat)):=by
 intro w
 rw[Zae,A.k17 (by simp)]
 have hio:=hi.form.one
 unfold V.one at hio
 have k0:=(Keeps.refl (h:=h) (n:=N)).new (.cells (Zb2 s inp) 46 true)
 unfold Zb2 at k0
 have lz:=hi.len
 rw[Zbv]at lz
 have hat:=fun n w=>Zqv (n:=n) (w:=w) (hg.keep k0) hl
 unfold chkStage
 by_cases c1:Zgr s.name=true
 ·by_cases c2:pos g s.name<g.length
  ·have p2:(0:Int)≤Zh4 g s.name:=by unfold Zh4;rw[Ys8 c2];omega
   simp(disch:=first|(simp;done)|omega|rfl) [-getElem?_pos,A.b17,Zb2,hio,Zcp,c1,hat,p2,Ret,c2]
   exact k0
  ·have p2:¬(0:Int)≤Zh4 g s.name:=by unfold Zh4;rw[Ys5 c2];omega
   obtain⟨b,hb,hb2⟩:=Yay s.op s.inputs.length
   cases ho:opOf s.op with
   |none=>
    rw[ho]at hb
    simp(disch:=first|(simp;done)|omega|rfl) [-getElem?_pos,A.b17,Zb2,hio,Zcp,c1,hat,p2,Ret,c2,lz,hb,ho]
    exact k0
   |some o=>
    rw[ho]at hb
    have hof:=Zt7 ho
    by_cases hfa:o.factor=true
    ·have hsc:s.op=[115,99,97,108,101]∨s.op=[115,117,109]:=hof.1 hfa
     have e1:(s.op==[115,99,97,108,101])=true∨((s.op==[115,99,97,108,101])=false∧(s.op==[115,117,109])=true):=by
      rcases hsc with hsc|hsc
      ·exact .inl (by rw[hsc];rfl)
      ·exact .inr ⟨by rw[hsc];rfl,by rw[hsc];rfl⟩
     clear hsc
     rcases e1 with e1|⟨e1,e2⟩
     all_goals
      first|simp(disch:=first|(simp;done)|omega|rfl) [-getElem?_pos,A.b17,Zb2,hio,Zcp,c1,hat,p2,c2,lz,hb,ho,Zad,e1,e2]|simp(disch:=first|(simp;done)|omega|rfl) [-getElem?_pos,A.b17,Zb2,hio,Zcp,c1,hat,p2,c2,lz,hb,ho,Zad,e1]
      refine Zaf (Zm4 (by omega)) ?_
      rintro u h2 n2 k2 rfl
      have kle2:=k2.le
      have kk:=k0.trans k2
      have r2:=k2.get N (by omega)
      simp at r2
      by_cases c4:chkNum s.factor=0
      ·have c4':Zct o s.factor=0:=by simp[Zct,hfa,c4]
       by_cases c5:16<s.inputs.length
       ·have c5':16<(s.inputs.length:Int):=by omega
        simp(disch:=first|(simp;done)|omega|rfl) [-getElem?_pos,r2,Zad,c4,c5,c5',lz,Ret,c4']
        exact kk
       ·have c5':¬16<(s.inputs.length:Int):=by omega
        have hbv:=hb2 (by omega) o ho
        by_cases c6:o.lo≤s.inputs.length∧s.inputs.length≤o.hi
        ·have c6':¬(s.inputs.length<o.lo∨o.hi<s.inputs.length):=by omega
         rw[decide_eq_true c6]at hbv
         subst hbv
         simp(disch:=first|(simp;done)|omega|rfl) [-getElem?_pos,r2,Zad,c4,c5,c5',lz]
         refine Zah [(4,4),(8,8),(52,66)] (Yq7 h N g s inp) (Ypp h N g s inp) s.inputs.length ?_ ?_ ?_
         ·exact⟨by simp,kk,by show N<n2;omega,by rw[Zb2];exact r2,0,by omega,by simp,by simp⟩
         ·exact Zmz hg hl hi hil (by simp) (by simp)
         ·rintro e r ⟨H,n3,W⟩ hr ⟨hW,hK,hN,hrow,⟨rfl,hz⟩|⟨rfl,hz,h4⟩⟩
          ·simp only at hW hK hN hrow
           unfold Zb2 at hrow
           have hz':¬∃x,x∈s.inputs∧g.length≤pos g x:=by simpa using hz
           simp(disch:=first|(simp;done)|omega|rfl) [-getElem?_pos,hr,hrow,Zks,Ret,hW,hK,c5,c6',hz',c4']
           split<;>rfl
          ·simp only at hW hK hN hrow
           have hz':∃x,x∈s.inputs∧g.length≤pos g x:=by simpa using hz
           simp(disch:=first|(simp;done)|omega|rfl) [-getElem?_pos,hr,h4,Ret,hW,hK,c5,c6',hz',c4']
        ·have c6':s.inputs.length<o.lo∨o.hi<s.inputs.length:=by omega
         rw[decide_eq_false c6]at hbv
         subst hbv
         simp(disch:=first|(simp;done)|omega|rfl) [-getElem?_pos,r2,Zad,c4,c5,c5',c6',lz,Ret,c4']
         exact kk
      ·have c4':¬Zct o s.factor=0:=by simp[Zct,hfa,c4]
       simp(disch:=first|(simp;done)|omega|rfl) [-getElem?_pos,r2,Zad,c4,Ret,Zct,hfa]
       exact kk
    ·have hfa:o.factor=false:=by simpa using hfa
     have e1:(s.op==[115,99,97,108,101])=false:=by
      cases h:(s.op==[115,99,97,108,101])with
      |false=>rfl
      |true=>rw[hof.2 (.inl (by simpa using h))]at hfa;cases hfa
     have e2:(s.op==[115,117,109])=false:=by
      cases h:(s.op==[115,117,109])with
      |false=>rfl
      |true=>rw[hof.2 (.inr (by simpa using h))]at hfa;cases hfa
     by_cases c4:s.factor=[]
     ·have c4':Zct o s.factor=0:=by simp[Zct,hfa,c4]
      have e3:(s.factor==[])=true:=by simp[c4]
      have e4:s.factor.isEmpty=true:=by simp[c4]
      clear c4
      by_cases c5:16<s.inputs.length
      ·have c5':16<(s.inputs.length:Int):=by omega
       simp(disch:=first|(simp;done)|omega|rfl) [-getElem?_pos,A.b17,Zb2,hio,Zcp,c1,hat,p2,c2,lz,hb,ho,Zad,e1,e2,e3,e4,c5,c5',lz,Ret,c4']
       exact k0
      ·have c5':¬16<(s.inputs.length:Int):=by omega
       have hbv:=hb2 (by omega) o ho
       by_cases c6:o.lo≤s.inputs.length∧s.inputs.length≤o.hi
       ·have c6':¬(s.inputs.length<o.lo∨o.hi<s.inputs.length):=by omega
        rw[decide_eq_true c6]at hbv
        subst hbv
        simp(disch:=first|(simp;done)|omega|rfl) [-getElem?_pos,A.b17,Zb2,hio,Zcp,c1,hat,p2,c2,lz,hb,ho,Zad,e1,e2,e3,e4,c5,c5',lz]
        refine Zah [(4,4),(8,8),(52,66)] (Yq7 h N g s inp) (Ypp h N g s inp) s.inputs.length ?_ ?_ ?_
        ·exact⟨by simp,k0,by show N<N+1;omega,by simp[Zb2],0,by omega,by simp,by simp⟩
        ·exact Zmz hg hl hi hil (by simp) (by simp)
        ·rintro e r ⟨H,n3,W⟩ hr ⟨hW,hK,hN,hrow,⟨rfl,hz⟩|⟨rfl,hz,h4⟩⟩
         ·simp only at hW hK hN hrow
          unfold Zb2 at hrow
          have hz':¬∃x,x∈s.inputs∧g.length≤pos g x:=by simpa using hz
          simp(disch:=first|(simp;done)|omega|rfl) [-getElem?_pos,hr,hrow,Zks,Ret,hW,hK,c5,c6',hz',c4']
          split<;>rfl
         ·simp only at hW hK hN hrow
          have hz':∃x,x∈s.inputs∧g.length≤pos g x:=by simpa using hz
          simp(disch:=first|(simp;done)|omega|rfl) [-getElem?_pos,hr,h4,Ret,hW,hK,c5,c6',hz',c4']
       ·have c6':s.inputs.length<o.lo∨o.hi<s.inputs.length:=by omega
        rw[decide_eq_false c6]at hbv
        subst hbv
        simp(disch:=first|(simp;done)|omega|rfl) [-getElem?_pos,A.b17,Zb2,hio,Zcp,c1,hat,p2,c2,lz,hb,ho,Zad,e1,e2,e3,e4,c5,c5',c6',lz,Ret,c4']
        exact k0
     ·have e3:(s.factor==[])=false:=by simp[c4]
      have e4:s.factor.isEmpty=false:=by simp[c4]
      simp(disch:=first|(simp;done)|omega|rfl) [-getElem?_pos,A.b17,Zb2,hio,Zcp,c1,hat,p2,c2,lz,hb,ho,Zad,e1,e2,e3,e4,c4,Ret,Zct,hfa]
      exact k0
 ·have c1:Zgr s.name=false:=by simpa using c1
  simp(disch:=first|(simp;done)|omega|rfl) [-getElem?_pos,A.b17,Zb2,hio,Zcp,c1,Ret]
  exact k0
def Yrh(g:List Stg):Prop:=∀s∈g,s.factor.length≤20∧s.inputs.length<1000000
def Ybb{h:T O}{N:Nat}{v:V}{g:List Stg}(hg:Gr h N v g)(hl:g.length<1000000)(hf:Yrh g):Fn A.C 6 [v] h N (fun u _ _=>u=.int .i64 (chkGraph g:Nat)):=by
 intro w
 rw[Zae,A.k6 (by simp)]
 have lg:=hg.len
 by_cases h0:g.length=0
 ·have h0':(g.length:Int)=0:=by omega
  simp(disch:=first|(simp;done)|omega|rfl) [-getElem?_pos,A.b6,lg,h0,Zad,Ret,chkGraph]
  exact Keeps.refl
 ·have h0':¬(g.length:Int)=0:=by omega
  have hne:g≠[]:=fun h=>by rw[h]at h0;simp at h0
  by_cases h16:16<g.length
  ·have h16':16<(g.length:Int):=by omega
   simp(disch:=first|(simp;done)|omega|rfl) [-getElem?_pos,A.b6,lg,h0,h0',hne,h16,h16',Zad,Ret,chkGraph]
   exact Keeps.refl
  ·have h16':¬16<(g.length:Int):=by omega
   have hc:chkGraph g=Zqq [] g:=by simp[chkGraph,h0,h16,hne]
   simp(disch:=first|(simp;done)|omega|rfl) [-getElem?_pos,A.b6,lg,h0,h0',hne,h16,h16',Zad]
   refine Zah [(2,4),(11,27)] (fun e r st=>Zac N st.w=[]∧Keeps h N st.h st.n∧((e=.exit 0∧Zqq [] g=0)∨(e=.ret∧r.get 2=some (.int .i64 (Zqq [] g:Nat))))) (fun m r st=>Zac N st.w=[]∧Keeps h N st.h st.n∧∃k,k+m=g.length∧r.get 3=some (.int .i64 k)∧Zqq [] g=Zqq (g.take k) (g.drop k)) g.length ?_ ?_ ?_
   ·exact⟨by simp,Keeps.refl,0,by omega,by simp,by simp⟩
   ·rintro m r ⟨H,n1,W⟩ hr hf2 ⟨hW,hK,k,hk,h3,hz⟩
    simp only at hW hK
    rw[Zai]
    cases m with
    |zero=>
     have:k=g.length:=by omega
     subst this
     rw[Yub,Zqq]at hz
     simp(disch:=first|(simp;done)|omega|rfl) [-getElem?_pos,A.lb6_0,hr,hf2,h3,hW,hK,hz,lg]
    |succ m=>
     have hlt:k<g.length:=by omega
     obtain⟨s,hs⟩:=Zag hlt
     have hgH:=hg.keep hK
     obtain⟨i,o,cc,e,rw,inp,q1,q2,q3,q4,q5⟩:=hgH.at hs
     obtain⟨ff1,ff2⟩:=hf s (Ys9 hs)
     rw[Zap hs,Zqq]at hz
     have hk1:(k:Int)<(g.length:Int):=by omega
     obtain⟨v',e1,e2⟩:=hgH.slice (w:=[]) (lo:=0) (hi:=k) (by omega) (by omega) none (some (.int .i64 k)) (.inr ⟨rfl,rfl⟩) (.inl rfl)
     rw[Yu3]at e2
     simp(disch:=first|(simp;done)|omega|rfl) [-getElem?_pos,A.lb6_0,hr,hf2,h3,hk1,hlt,lg,q1,q3,q4,Zb0,evOpt,e1]
     have hlt2:(g.take k).length<1000000:=by simp;omega
     have qi:i<n1:=q2
     refine Zaf (Ya9 e2 hlt2 q5 ff2 ff1) ?_
     rintro u h3' n3 k3 rfl
     have kk:=hK.trans k3
     by_cases hz0:chkStage (g.take k) s=0
     ·rw[hz0]at hz
      simp at hz
      simp(disch:=first|(simp;done)|omega|rfl) [-getElem?_pos,hr,hf2,h3,hz0,Zad,hW,qi]
      exact⟨m,by omega,kk,k+1,by omega,by simp,by rw[hz,Yug,hs];rfl⟩
     ·rw[Ys8 hz0]at hz
      simp(disch:=first|(simp;done)|omega|rfl) [-getElem?_pos,hr,hf2,h3,hz0,Zad,hW,hz,qi]
      exact kk
   ·rintro e r ⟨H,n1,W⟩ hr ⟨hW,hK,⟨rfl,hz⟩|⟨rfl,h4⟩⟩
    ·simp only at hW hK
     simp(disch:=first|(simp;done)|omega|rfl) [-getElem?_pos,hr,hz,Ret,hW,hK,hc]
    ·simp only at hW hK
     simp(disch:=first|(simp;done)|omega|rfl) [-getElem?_pos,hr,h4,Ret,hW,hK,hc]
def Yns{s:Str}{o:Opn}(h:opOf s=some o):(s=[102,114,97,109,101]∧o=⟨false,0,0⟩)∨(s=[97,100,100]∧o=⟨false,1,16⟩)∨(s=[115,99,97,108,101]∧o=⟨true,1,1⟩)∨(s=[109,97,120]∧o=⟨false,1,16⟩)∨(s=[100,101,108,97,121]∧o=⟨false,1,1⟩)∨(s=[115,117,109]∧o=⟨true,1,1⟩):=by
 unfold opOf at h
 repeat' split at h
 all_goals first|(cases h;done)|(obtain rfl:=Ytz h;simp_all)
def Tx.at{h:T O}{N:Nat}{v:V}{l:List Rat}(s:Tx h N v l){j:Nat}{q:Rat}(hj:l[j]?=some q):∃i o c e rw,Zlv v=some (i,o)∧i<N∧h.get i=some (.cells c e rw)∧c[o+j]?=some (.str (Zaz q)):=Sl.at s (Zvp hj)
end Go.Mx
