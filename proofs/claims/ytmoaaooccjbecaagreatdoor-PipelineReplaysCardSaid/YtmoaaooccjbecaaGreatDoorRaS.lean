/-lensletref09-/
import Derived.Test.YtmoaaooccjbecaaGreatDoorRcK
set_option linter.all false
namespace Go.Mx
open Go Go.Proofs
set_option maxRecDepth 1000000
noncomputable def A.w45:=A.q Tryz.f45
noncomputable def A.lb45_0:=A.ql A.w45 0 []
noncomputable def A.b45:=(fun x0=>A.qb A.w45 [x0]) A.lb45_0
def A.k45:=@A.kk 45 70 [.tmp 4] A.b45 (by kernel_rfl) rfl
noncomputable def A.w13:=A.q Tryz.f13
noncomputable def A.lb13_0:=A.ql A.w13 0 []
noncomputable def A.b13:=(fun x0=>A.qb A.w13 [x0]) A.lb13_0
def A.k13:=@A.kk 13 28 [.tmp 2] A.b13 (by kernel_rfl) rfl
def Zt4{s:Str}{o:Opn}(h:opOf s=some o):o.factor=true↔(s=[115,99,97,108,101]∨s=[115,117,109]):=by
 unfold opOf at h
 repeat' (split at h)
 all_goals first|(cases h;done)|(obtain rfl:=Yt4 h;simp_all)
def Yrg(h:T O)(N:Nat)(g:List Stg)(s:Stg)(inp:V)(e:Ex)(r:T V)(st:St):Prop:=Zaa N st.w=[]∧Keeps h N st.h st.n∧N<st.n∧st.h.get N=some (.cells (Zce s inp) 49 true)∧((e=.exit 0∧s.inputs.any (fun n=>decide (g.length≤pos g n))=false)∨(e=.ret∧s.inputs.any (fun n=>decide (g.length≤pos g n))=true∧r.get 4=some (.int .i64 10)))
def Yp0(h:T O)(N:Nat)(g:List Stg)(s:Stg)(inp:V)(m:Nat)(r:T V)(st:St):Prop:=Zaa N st.w=[]∧Keeps h N st.h st.n∧N<st.n∧st.h.get N=some (.cells (Zce s inp) 49 true)∧∃k,k+m=s.inputs.length∧r.get 8=some (.int .i64 k)∧s.inputs.any (fun n=>decide (g.length≤pos g n))=(s.inputs.drop k).any (fun n=>decide (g.length≤pos g n))
def Zmq{h:T O}{N:Nat}{v inp:V}{g:List Stg}{s:Stg}(hg:Gr h N v g)(hl:g.length<1000000)(hi:Sl h N inp (strs s.inputs))(hil:s.inputs.length<1000000){r0:T V}(a0:r0.get 0=some v)(a3:r0.get 3=some (.ptr N 0)):
  ∀k r st,(∀t,inD [(4,4),(8,8),(52,66)] t=false→r.get t=r0.get t)→Fx [(4,4),(8,8),(52,66)] r0 70 ⟨r,70,[]⟩→Yp0 h N g s inp k r st→Code A.C none A.lb45_0 ⟨r,70,[]⟩ st (Rd [(4,4),(8,8),(52,66)] r0 70 (Yp0 h N g s inp) k (Yrg h N g s inp)):=by
 rintro m r ⟨H,n1,W⟩ hr hf ⟨hW,hK,hN,hrow,k,hk,h8,hz⟩
 simp only at hW hK hN hrow
 rw[Zai]
 have lz:=hi.len
 rw[Za7]at lz
 have c3:H.get N=some (.cells [.str s.name,.str s.op,.str s.factor,inp,.int .i64 s.cost] 49 true):=hrow
 cases m with
 |zero=>
  have:k=s.inputs.length:=by omega
  subst this
  rw[Yug]at hz
  simp(disch:=first|(simp;done)|omega|rfl) [-getElem?_pos,A.lb45_0,hr,hf,a0,a3,h8,c3,lz]
  exact⟨hW,hK,hN,hrow,.inl ⟨rfl,hz⟩⟩
 |succ m=>
  have hlt:k<s.inputs.length:=by omega
  have hlt':(k:Int)<(s.inputs.length:Int):=by omega
  obtain⟨n,hn⟩:=Zag hlt
  obtain⟨b1,b2,b3,b4,b5,z1,z2,z3,z4⟩:=hi.at (Zbo hn)
  have z3:=(hK.get _ z2).trans z3
  rw[Zao hn,List.any_cons]at hz
  have hat:=fun w=>Zqp (n:=n) (w:=w) (hg.keep hK) hl
  by_cases hp:g.length≤pos g n
  ·have p1:Zh8 g n<0:=by unfold Zh8;rw[Yte (by omega)];omega
   rw[decide_eq_true hp,Bool.true_or]at hz
   simp(disch:=first|(simp;done)|omega|rfl) [-getElem?_pos,A.lb45_0,hr,hf,a0,a3,h8,c3,lz,hlt,hlt',z1,z3,z4,hat,p1]
   exact⟨hW,hK,hN,hrow,.inr ⟨rfl,hz,by simp⟩⟩
  ·have p1:¬Zh8 g n<0:=by unfold Zh8;rw[Ytg (by omega)];omega
   rw[decide_eq_false hp,Bool.false_or]at hz
   simp(disch:=first|(simp;done)|omega|rfl) [-getElem?_pos,A.lb45_0,hr,hf,a0,a3,h8,c3,lz,hlt,hlt',z1,z3,z4,hat,p1]
   exact⟨m,by omega,hW,hK,hN,hrow,k+1,by omega,by simp,hz⟩
def Ya8{h:T O}{N:Nat}{v inp:V}{g:List Stg}{s:Stg}(hg:Gr h N v g)(hl:g.length<1000000)(hi:Sl h N inp (strs s.inputs))(hil:s.inputs.length<1000000)(hf:s.factor.length≤20):Fn A.C 45 [v,.agg (Zce s inp)] h N (fun u _ _=>u=.int .i64 (chkStage g s:Nat)):=by
 intro w
 rw[Zad,A.k45 (by simp)]
 have hio:=hi.form.one
 unfold V.one at hio
 have k0:=(Keeps.refl (h:=h) (n:=N)).new (.cells (Zce s inp) 49 true)
 unfold Zce at k0
 have lz:=hi.len
 rw[Za7]at lz
 have hat:=fun n w=>Zqp (n:=n) (w:=w) (hg.keep k0) hl
 unfold chkStage
 by_cases c1:Zgy s.name=true
 ·by_cases c2:pos g s.name<g.length
  ·have p2:(0:Int)≤Zh8 g s.name:=by unfold Zh8;rw[Ytg c2];omega
   simp(disch:=first|(simp;done)|omega|rfl) [-getElem?_pos,A.b45,Zce,hio,Zcs,c1,hat,p2,Ret,c2]
   exact k0
  ·have p2:¬(0:Int)≤Zh8 g s.name:=by unfold Zh8;rw[Yte c2];omega
   obtain⟨b,hb,hb2⟩:=Yaw s.op s.inputs.length
   cases ho:opOf s.op with
   |none=>
    rw[ho]at hb
    simp(disch:=first|(simp;done)|omega|rfl) [-getElem?_pos,A.b45,Zce,hio,Zcs,c1,hat,p2,Ret,c2,lz,hb,ho]
    exact k0
   |some o=>
    rw[ho]at hb
    have hof:=Zt4 ho
    by_cases hfa:o.factor=true
    ·have hsc:s.op=[115,99,97,108,101]∨s.op=[115,117,109]:=hof.1 hfa
     have e1:(s.op==[115,99,97,108,101])=true∨((s.op==[115,99,97,108,101])=false∧(s.op==[115,117,109])=true):=by
      rcases hsc with hsc|hsc
      ·exact .inl (by rw[hsc];rfl)
      ·exact .inr ⟨by rw[hsc];rfl,by rw[hsc];rfl⟩
     clear hsc
     rcases e1 with e1|⟨e1,e2⟩
     all_goals
      first|simp(disch:=first|(simp;done)|omega|rfl) [-getElem?_pos,A.b45,Zce,hio,Zcs,c1,hat,p2,c2,lz,hb,ho,Zae,e1,e2]|simp(disch:=first|(simp;done)|omega|rfl) [-getElem?_pos,A.b45,Zce,hio,Zcs,c1,hat,p2,c2,lz,hb,ho,Zae,e1]
      refine Zaf (Zmv (by omega)) ?_
      rintro u h2 n2 k2 rfl
      have kle2:=k2.le
      have kk:=k0.trans k2
      have r2:=k2.get N (by omega)
      simp at r2
      by_cases c4:chkNum s.factor=0
      ·have c4':Zco o s.factor=0:=by simp[Zco,hfa,c4]
       by_cases c5:16<s.inputs.length
       ·have c5':16<(s.inputs.length:Int):=by omega
        simp(disch:=first|(simp;done)|omega|rfl) [-getElem?_pos,r2,Zae,c4,c5,c5',lz,Ret,c4']
        exact kk
       ·have c5':¬16<(s.inputs.length:Int):=by omega
        have hbv:=hb2 (by omega) o ho
        by_cases c6:o.lo≤s.inputs.length∧s.inputs.length≤o.hi
        ·have c6':¬(s.inputs.length<o.lo∨o.hi<s.inputs.length):=by omega
         rw[decide_eq_true c6]at hbv
         subst hbv
         simp(disch:=first|(simp;done)|omega|rfl) [-getElem?_pos,r2,Zae,c4,c5,c5',lz]
         refine Zah [(4,4),(8,8),(52,66)] (Yrg h N g s inp) (Yp0 h N g s inp) s.inputs.length ?_ ?_ ?_
         ·exact⟨by simp,kk,by show N<n2;omega,by rw[Zce];exact r2,0,by omega,by simp,by simp⟩
         ·exact Zmq hg hl hi hil (by simp) (by simp)
         ·rintro e r ⟨H,n3,W⟩ hr ⟨hW,hK,hN,hrow,⟨rfl,hz⟩|⟨rfl,hz,h4⟩⟩
          ·simp only at hW hK hN hrow
           unfold Zce at hrow
           have hz':¬∃x,x∈s.inputs∧g.length≤pos g x:=by simpa using hz
           simp(disch:=first|(simp;done)|omega|rfl) [-getElem?_pos,hr,hrow,Zd3,Ret,hW,hK,c5,c6',hz',c4']
           split<;>rfl
          ·simp only at hW hK hN hrow
           have hz':∃x,x∈s.inputs∧g.length≤pos g x:=by simpa using hz
           simp(disch:=first|(simp;done)|omega|rfl) [-getElem?_pos,hr,h4,Ret,hW,hK,c5,c6',hz',c4']
        ·have c6':s.inputs.length<o.lo∨o.hi<s.inputs.length:=by omega
         rw[decide_eq_false c6]at hbv
         subst hbv
         simp(disch:=first|(simp;done)|omega|rfl) [-getElem?_pos,r2,Zae,c4,c5,c5',c6',lz,Ret,c4']
         exact kk
      ·have c4':¬Zco o s.factor=0:=by simp[Zco,hfa,c4]
       simp(disch:=first|(simp;done)|omega|rfl) [-getElem?_pos,r2,Zae,c4,Ret,Zco,hfa]
       exact kk
    ·have hfa:o.factor=false:=by simpa using hfa
     have e1:(s.op==[115,99,97,108,101])=false:=by
      cases h:(s.op==[115,99,97,108,101])with
      |false=>rfl
      |true=>rw[hof.2 (.inl (by simpa using h))]at hfa;cases hfa
     have e2:(s.op==[115,117,109])=false:=by
      cases h:(s.op==[115,117,109])with
      |false=>rfl
      |true=>rw[hof.2 (.inr (by simpa using h))]at hfa;cases hfa
     by_cases c4:s.factor=[]
     ·have c4':Zco o s.factor=0:=by simp[Zco,hfa,c4]
      have e3:(s.factor==[])=true:=by simp[c4]
      have e4:s.factor.isEmpty=true:=by simp[c4]
      clear c4
      by_cases c5:16<s.inputs.length
      ·have c5':16<(s.inputs.length:Int):=by omega
       simp(disch:=first|(simp;done)|omega|rfl) [-getElem?_pos,A.b45,Zce,hio,Zcs,c1,hat,p2,c2,lz,hb,ho,Zae,e1,e2,e3,e4,c5,c5',lz,Ret,c4']
       exact k0
      ·have c5':¬16<(s.inputs.length:Int):=by omega
       have hbv:=hb2 (by omega) o ho
       by_cases c6:o.lo≤s.inputs.length∧s.inputs.length≤o.hi
       ·have c6':¬(s.inputs.length<o.lo∨o.hi<s.inputs.length):=by omega
        rw[decide_eq_true c6]at hbv
        subst hbv
        simp(disch:=first|(simp;done)|omega|rfl) [-getElem?_pos,A.b45,Zce,hio,Zcs,c1,hat,p2,c2,lz,hb,ho,Zae,e1,e2,e3,e4,c5,c5',lz]
        refine Zah [(4,4),(8,8),(52,66)] (Yrg h N g s inp) (Yp0 h N g s inp) s.inputs.length ?_ ?_ ?_
        ·exact⟨by simp,k0,by show N<N+1;omega,by simp[Zce],0,by omega,by simp,by simp⟩
        ·exact Zmq hg hl hi hil (by simp) (by simp)
        ·rintro e r ⟨H,n3,W⟩ hr ⟨hW,hK,hN,hrow,⟨rfl,hz⟩|⟨rfl,hz,h4⟩⟩
         ·simp only at hW hK hN hrow
          unfold Zce at hrow
          have hz':¬∃x,x∈s.inputs∧g.length≤pos g x:=by simpa using hz
          simp(disch:=first|(simp;done)|omega|rfl) [-getElem?_pos,hr,hrow,Zd3,Ret,hW,hK,c5,c6',hz',c4']
          split<;>rfl
         ·simp only at hW hK hN hrow
          have hz':∃x,x∈s.inputs∧g.length≤pos g x:=by simpa using hz
          simp(disch:=first|(simp;done)|omega|rfl) [-getElem?_pos,hr,h4,Ret,hW,hK,c5,c6',hz',c4']
       ·have c6':s.inputs.length<o.lo∨o.hi<s.inputs.length:=by omega
        rw[decide_eq_false c6]at hbv
        subst hbv
        simp(disch:=first|(simp;done)|omega|rfl) [-getElem?_pos,A.b45,Zce,hio,Zcs,c1,hat,p2,c2,lz,hb,ho,Zae,e1,e2,e3,e4,c5,c5',c6',lz,Ret,c4']
        exact k0
     ·have e3:(s.factor==[])=false:=by simp[c4]
      have e4:s.factor.isEmpty=false:=by simp[c4]
      simp(disch:=first|(simp;done)|omega|rfl) [-getElem?_pos,A.b45,Zce,hio,Zcs,c1,hat,p2,c2,lz,hb,ho,Zae,e1,e2,e3,e4,c4,Ret,Zco,hfa]
      exact k0
 ·have c1:Zgy s.name=false:=by simpa using c1
  simp(disch:=first|(simp;done)|omega|rfl) [-getElem?_pos,A.b45,Zce,hio,Zcs,c1,Ret]
  exact k0
def Yrq(g:List Stg):Prop:=∀s∈g,s.factor.length≤20∧s.inputs.length<1000000
def Ybc{h:T O}{N:Nat}{v:V}{g:List Stg}(hg:Gr h N v g)(hl:g.length<1000000)(hf:Yrq g):Fn A.C 13 [v] h N (fun u _ _=>u=.int .i64 (chkGraph g:Nat)):=by
 intro w
 rw[Zad,A.k13 (by simp)]
 have lg:=hg.len
 by_cases h0:g.length=0
 ·have h0':(g.length:Int)=0:=by omega
  simp(disch:=first|(simp;done)|omega|rfl) [-getElem?_pos,A.b13,lg,h0,Zae,Ret,chkGraph]
  exact Keeps.refl
 ·have h0':¬(g.length:Int)=0:=by omega
  have hne:g≠[]:=fun h=>by rw[h]at h0;simp at h0
  by_cases h16:16<g.length
  ·have h16':16<(g.length:Int):=by omega
   simp(disch:=first|(simp;done)|omega|rfl) [-getElem?_pos,A.b13,lg,h0,h0',hne,h16,h16',Zae,Ret,chkGraph]
   exact Keeps.refl
  ·have h16':¬16<(g.length:Int):=by omega
   have hc:chkGraph g=Zqj [] g:=by simp[chkGraph,h0,h16,hne]
   simp(disch:=first|(simp;done)|omega|rfl) [-getElem?_pos,A.b13,lg,h0,h0',hne,h16,h16',Zae]
   refine Zah [(2,4),(11,27)] (fun e r st=>Zaa N st.w=[]∧Keeps h N st.h st.n∧((e=.exit 0∧Zqj [] g=0)∨(e=.ret∧r.get 2=some (.int .i64 (Zqj [] g:Nat))))) (fun m r st=>Zaa N st.w=[]∧Keeps h N st.h st.n∧∃k,k+m=g.length∧r.get 3=some (.int .i64 k)∧Zqj [] g=Zqj (g.take k) (g.drop k)) g.length ?_ ?_ ?_
   ·exact⟨by simp,Keeps.refl,0,by omega,by simp,by simp⟩
   ·rintro m r ⟨H,n1,W⟩ hr hf2 ⟨hW,hK,k,hk,h3,hz⟩
    simp only at hW hK
    rw[Zai]
    cases m with
    |zero=>
     have:k=g.length:=by omega
     subst this
     rw[Yug,Zqj]at hz
     simp(disch:=first|(simp;done)|omega|rfl) [-getElem?_pos,A.lb13_0,hr,hf2,h3,hW,hK,hz,lg]
    |succ m=>
     have hlt:k<g.length:=by omega
     obtain⟨s,hs⟩:=Zag hlt
     have hgH:=hg.keep hK
     obtain⟨i,o,cc,e,rw,inp,q1,q2,q3,q4,q5⟩:=hgH.at hs
     obtain⟨ff1,ff2⟩:=hf s (Yti hs)
     rw[Zao hs,Zqj]at hz
     have hk1:(k:Int)<(g.length:Int):=by omega
     obtain⟨v',e1,e2⟩:=hgH.slice (w:=[]) (lo:=0) (hi:=k) (by omega) (by omega) none (some (.int .i64 k)) (.inr ⟨rfl,rfl⟩) (.inl rfl)
     rw[Yvx]at e2
     simp(disch:=first|(simp;done)|omega|rfl) [-getElem?_pos,A.lb13_0,hr,hf2,h3,hk1,hlt,lg,q1,q3,q4,Zcn,evOpt,e1]
     have hlt2:(g.take k).length<1000000:=by simp;omega
     have qi:i<n1:=q2
     refine Zaf (Ya8 e2 hlt2 q5 ff2 ff1) ?_
     rintro u h3' n3 k3 rfl
     have kk:=hK.trans k3
     by_cases hz0:chkStage (g.take k) s=0
     ·rw[hz0]at hz
      simp at hz
      simp(disch:=first|(simp;done)|omega|rfl) [-getElem?_pos,hr,hf2,h3,hz0,Zae,hW,qi]
      exact⟨m,by omega,kk,k+1,by omega,by simp,by rw[hz,Yt8,hs];rfl⟩
     ·rw[Ytg hz0]at hz
      simp(disch:=first|(simp;done)|omega|rfl) [-getElem?_pos,hr,hf2,h3,hz0,Zae,hW,hz,qi]
      exact kk
   ·rintro e r ⟨H,n1,W⟩ hr ⟨hW,hK,⟨rfl,hz⟩|⟨rfl,h4⟩⟩
    ·simp only at hW hK
     simp(disch:=first|(simp;done)|omega|rfl) [-getElem?_pos,hr,hz,Ret,hW,hK,hc]
    ·simp only at hW hK
     simp(disch:=first|(simp;done)|omega|rfl) [-getElem?_pos,hr,h4,Ret,hW,hK,hc]
noncomputable def A.w86:=A.q Tryz.f86
noncomputable def A.lb86_0:=A.ql A.w86 0 []
noncomputable def A.b86:=(fun x0=>A.qb A.w86 [x0]) A.lb86_0
def A.k86:=@A.kk 86 93 [.tmp 10] A.b86 (by kernel_rfl) rfl
def Yi1{s:Str}{o:Opn}(h:opOf s=some o):(s=[102,114,97,109,101]∧o=⟨false,0,0⟩)∨(s=[97,100,100]∧o=⟨false,1,16⟩)∨(s=[115,99,97,108,101]∧o=⟨true,1,1⟩)∨(s=[109,97,120]∧o=⟨false,1,16⟩)∨(s=[100,101,108,97,121]∧o=⟨false,1,1⟩)∨(s=[115,117,109]∧o=⟨true,1,1⟩):=by
 unfold opOf at h
 repeat' split at h
 all_goals first|(cases h;done)|(obtain rfl:=Yt4 h;simp_all)
def Tx.at{h:T O}{N:Nat}{v:V}{l:List Rat}(s:Tx h N v l){j:Nat}{q:Rat}(hj:l[j]?=some q):∃i o c e rw,Zn2 v=some (i,o)∧i<N∧h.get i=some (.cells c e rw)∧c[o+j]?=some (.str (Za0 q)):=Sl.at s (Ynq hj)
def agQ(a:Bool)(l:List Rat):Rat:=if a=true then l.foldl (fun a b=>a+b) 0 else Zo1 l
def Zve(a:Bool)(q:Rat):agQ a [q]=q:=by
 unfold agQ
 split
 ·simp[Rat.zero_add]
 ·rfl
def Zvf{a:Bool}{l:List Rat}{q:Rat}(h:0<l.length):agQ a (l++[q])=if a=true then agQ a l+q else mx2 (agQ a l) q:=by
 unfold agQ
 split
 ·rw[List.foldl_append];rfl
 ·match l,h with
  |x::t,_=>simp[Zo1,List.foldl_append]
def Yoj{a b:Rat}{k:Nat}(ha:Qb k a)(hb:Qb k b):Qb k (mx2 a b):=by
 unfold mx2
 split<;>assumption
def Yeq{a:Bool}:∀{n:Nat} {l:List Rat},l.length=n→(∀q∈l,Qb 2400 q)→Qb (n*2401+1) (agQ a l)
 |0,[],_,_=>by
  have:agQ a []=0:=by cases a<;>rfl
  rw[this]
  exact Qb.zero.mono (by omega)
 |n+1,l,hl,h=>by
  have hne:l≠[]:=fun e=>by rw[e]at hl;cases hl
  obtain⟨t,q,rfl⟩:∃t q,l=t++[q]:=⟨l.dropLast,l.getLast hne,(Ywp hne).symm⟩
  have ht:t.length=n:=by simpa using hl
  have hq:=h q (by simp)
  cases n with
  |zero=>
   obtain rfl:t=[]:=List.length_eq_zero_iff.1 ht
   rw[List.nil_append,Zve]
   exact hq.mono (by omega)
  |succ n=>
   have ih:=Yeq (a:=a) ht fun x hx=>h x (by simp[hx])
   rw[Zvf (by omega)]
   split
   ·exact(ih.add hq).mono (by omega)
   ·exact Yoj (ih.mono (by omega)) (hq.mono (by omega))
set_option maxHeartbeats 4000000
def Yfq{h:T O}{N i:Nat}{vg vn vb:V}{g:List Stg}{s:Stg}{f:FmR}{now before:List Rat}(hg:Gr h N vg g)(hG:OkG g)(hs:g[i]?=some s)(hfl:s.factor.length≤20)(hnow:Tx h N vn now)(hnl:now.length=i)(hb:Tx h N vb before)(hbl:before.length=g.length)(hfv:chkNum f.val=0)(hq:∀q∈now,Qb 2400 q)(hbq:∀q∈before,Qb 2400 q):Fn A.C 86 [vg,.int .i64 i,.agg (fmC f),vn,vb] h N (fun u _ _=>u=.str (Za0 (Zoa g s (fmQ f) (before[i]?.getD 0) now before))):=by
 intro w
 have g16:=hG.v.le
 have hlt:=Zar hs
 have lg:=hg.len
 have hlt':(i:Int)<(g.length:Int):=by omega
 obtain⟨o,ho1,ho2,ho3,ho4⟩:=hG.op s (Yti hs)
 obtain⟨ig,og,cg,eg,rwg,inp,q1,q2,q3,q4,q5⟩:=hg.at hs
 obtain⟨z1,z2,z3,z4,z5,z6⟩:=Zjp q4
 have hio:=q5.form.one
 have hil:=q5.len
 rw[Za7]at hil
 have rp:=Ya9 hG hs
 have hcs:(V.agg (Zce s inp)).cells=Zce s inp:=rfl
 have hls:(Zce s inp).length=5:=rfl
 have hos:(Zce s inp).all V.one=true:=by
  unfold Zce
  simp only[List.all_cons,List.all_nil,hio]
  rfl
 have sps:splice [.str [],.str [],.str [],.nilslice,.int .i64 0] 0 (Zce s inp)=Zce s inp:=rfl
 have hcf:(V.agg (fmC f)).cells=fmC f:=rfl
 have hlf:(fmC f).length=4:=rfl
 have hof:(fmC f).all V.one=true:=rfl
 have kG:Keeps h N (((h.set N (.cells (fmC f) 51 true)).set (N+1) (.cells [.str [],.str [],.str [],.nilslice,.int .i64 0] 49 true)).set (N+1) (.cells (Zce s inp) 49 true)) (N+1+1):=((Keeps.refl.new _).new _).set (by omega)
 have gF:(((h.set N (.cells (fmC f) 51 true)).set (N+1) (.cells [.str [],.str [],.str [],.nilslice,.int .i64 0] 49 true)).set (N+1) (.cells (Zce s inp) 49 true)).get N=some (.cells (fmC f) 51 true):=by rw[T.get_set,Yte (by omega),T.get_set,Yte (by omega),T.get_set,Ytg rfl]
 have gS:(((h.set N (.cells (fmC f) 51 true)).set (N+1) (.cells [.str [],.str [],.str [],.nilslice,.int .i64 0] 49 true)).set (N+1) (.cells (Zce s inp) 49 true)).get (N+1)=some (.cells (Zce s inp) 49 true):=by rw[T.get_set,Ytg rfl]
 have s0:(Zce s inp)[1]?=some (.str s.op):=rfl
 have s1:(Zce s inp)[2]?=some (.str s.factor):=rfl
 have s2:(Zce s inp)[3]?=some inp:=rfl
 have f3:(fmC f)[3]?=some (.str f.val):=rfl
 have d1:¬ig=N:=by omega
 have d2:ig<N+1:=by omega
 rw[Zad,A.k86 (by simp)]
 rcases Yi1 ho1 with⟨hop,rfl⟩|⟨hop,rfl⟩|⟨hop,rfl⟩|⟨hop,rfl⟩|⟨hop,rfl⟩|⟨hop,rfl⟩
 ·simp(disch:=first|(simp;done)|omega|rfl) [-getElem?_pos, -V.cells, -V.one,A.b86,lg,hlt,hlt',q1,q2,q3,q4,hcs,hls,hos,sps,hcf,hlf,hof,Zal,d1,d2,s0,f3,gF,gS,hop,Zae,Ret]
  have e:Zoa g s (fmQ f) (before[i]?.getD 0) now before=fmQ f:=by simp[Zoa,opQ,hop]
  rw[e]
  exact⟨kG,(Zi5 hfv).1.symm⟩
 ·obtain⟨n0,tl,hin⟩:∃n0 tl,s.inputs=n0::tl:=by
   match hI:s.inputs,(show 1≤s.inputs.length from ho3)with
   |n0::tl,_=>exact⟨n0,tl,rfl⟩
   |[],h=>simp at h
  have p0:=rp n0 (by rw[hin];simp)
  have hn0:s.inputs[0]?=some n0:=by rw[hin];rfl
  obtain⟨x0,hx0⟩:=Zag (l:=now) (k:=pos g n0) (by omega)
  obtain⟨b0,hb0⟩:=Zag (l:=before) (k:=pos g n0) (by omega)
  obtain⟨bi,hbi⟩:=Zag (l:=before) (k:=i) (by omega)
  obtain⟨ii,oi,ci,ei,rwi,t1,t2,t3,t4⟩:=q5.at (Zbo hn0)
  rw[Yus]at t4
  have t3:=(kG.get ii t2).trans t3
  have t5:ii<N+1+1:=by omega
  obtain⟨iN,oN,cN,eN,rwN,u1,u2,u3,u4⟩:=hnow.at hx0
  have u3:=(kG.get iN u2).trans u3
  have u5:iN<N+1+1:=by omega
  have hpi:Zh8 g n0=(pos g n0:Int):=by unfold Zh8;rw[Ytg (by omega)]
  have hat:=fun w=>Zqp (n:=n0) (w:=w) (hg.keep kG) (by omega)
  simp only[hpi]at hat
  have lnw:=hnow.len
  have lbw:=hb.len
  have e1:pos g n0<now.length:=by omega
  have e1':(pos g n0:Int)<(now.length:Int):=by omega
  have e2:pos g n0<before.length:=by omega
  have e2':(pos g n0:Int)<(before.length:Int):=by omega
  have e3:i<before.length:=by omega
  have e3':(i:Int)<(before.length:Int):=by omega
  have e4:(0:Int)<(s.inputs.length:Int):=by rw[hin];simp
  have e5:0<s.inputs.length:=by rw[hin];simp
  have i16:s.inputs.length≤16:=ho4
  have hiq:∀q∈Zfl g s now,Qb 2400 q:=fun q hqm=>by
   obtain⟨nm,hnm,rfl⟩:=Yur.1 hqm
   obtain⟨y,hy⟩:=Zag (l:=now) (k:=pos g nm) (by have:=rp nm hnm;omega)
   rw[hy]
   exact hq y (Yti hy)
  have hiql:(Zfl g s now).length=s.inputs.length:=Ytx ..
  have hi1:(Zfl g s now).take 1=[x0]:=by simp[Zfl,hin,hx0]
  have eF:Zoa g s (fmQ f) (before[i]?.getD 0) now before=agQ true (Zfl g s now):=by simp[Zoa,opQ,hop,agQ]
  rw[eF]
  simp(disch:=first|(simp;done)|omega|rfl) [-getElem?_pos, -V.cells, -V.one,A.b86,lg,hlt,hlt',q1,q2,q3,q4,hcs,hls,hos,sps,hcf,hlf,hof,Zal,d1,d2,s0,s1,s2,f3,gF,gS,hop,Zae,hat,hil,t1,t3,t4,t5,e4,e5,u1,u3,u4,u5,lnw,e1,e1']
  clear hat t3 u3
  generalize (((h.set N (.cells (fmC f) 51 true)).set (N+1) (.cells [.str [],.str [],.str [],.nilslice,.int .i64 0] 49 true)).set (N+1) (.cells (Zce s inp) 49 true))=G at*
  refine Zah [(13,15),(66,91)] (fun e r st=>e=.exit 1∧Zaa N st.w=[]∧Keeps G (N+1+1) st.h st.n∧r.get 13=some (.str (Za0 (agQ true (Zfl g s now))))) (fun m r st=>Zaa N st.w=[]∧Keeps G (N+1+1) st.h st.n∧∃k,0<k∧k+m=s.inputs.length∧r.get 14=some (.int .i64 k)∧r.get 13=some (.str (Za0 (agQ true ((Zfl g s now).take k))))) (s.inputs.length-1) ?_ ?_ ?_
  ·exact⟨by simp[Zaa],Keeps.refl,1,by omega,by omega,by simp,by simp[hi1,Zve]⟩
  ·rintro m r ⟨H,n1,W⟩ hr hf ⟨hW,hK,k,k0,hk,h14,h13⟩
   simp only at hW hK
   rw[Zai]
   have leK:=hK.le
   have gS':=(hK.get (N+1) (by omega)).trans gS
   have w1:N+1<n1:=by omega
   cases m with
   |zero=>
    obtain rfl:k=s.inputs.length:=by omega
    rw[Yto (by omega)]at h13
    simp(disch:=first|(simp;done)|omega|rfl) [-getElem?_pos,A.lb86_0,hr,hf,h14,gS',w1,s2,hil,h13,hW,hK]
   |succ m=>
    obtain⟨nk,hnk⟩:=Zag (l:=s.inputs) (k:=k) (by omega)
    have pk:=rp nk (Yti hnk)
    obtain⟨xk,hxk⟩:=Zag (l:=now) (k:=pos g nk) (by omega)
    obtain⟨ii,oi,ci,ei,rwi,t1,t2,t3,t4⟩:=(q5.keep (kG.trans hK)).at (Zbo hnk)
    obtain⟨iN,oN,cN,eN,rwN,u1,u2,u3,u4⟩:=(hnow.keep (kG.trans hK)).at hxk
    have hpi:Zh8 g nk=(pos g nk:Int):=by unfold Zh8;rw[Ytg (by omega)]
    have hat:=fun w=>Zqp (n:=nk) (w:=w) (hg.keep (kG.trans hK)) (by omega)
    simp only[hpi]at hat
    have f1:k<s.inputs.length:=by omega
    have f1':(k:Int)<(s.inputs.length:Int):=by omega
    have f2:pos g nk<now.length:=by omega
    have f2':(pos g nk:Int)<(now.length:Int):=by omega
    have hxi:(Zfl g s now)[k]?=some xk:=by unfold Zfl;rw[Ytl,hnk];simp[hxk]
    have htk:(Zfl g s now).take (k+1)=(Zfl g s now).take k++[xk]:=by rw[Yt8,hxi];rfl
    have hag:=Yeq (a:=true) (l:=(Zfl g s now).take k) (n:=k) (by rw[Ytu];omega) (fun q hqm=>hiq q (Yu3 hqm))
    have hap:=Zvf (a:=true) (l:=(Zfl g s now).take k) (q:=xk) (by rw[Ytu];omega)
    rw[←htk]at hap
    simp only[Ytr,if_true,if_false]at hap
    simp(disch:=first|(simp;done)|omega|rfl) [-getElem?_pos,A.lb86_0,hr,hf,h14,h13,gS',w1,s0,s2,hil,f1,f1',f2,f2',t1,t2,t3,t4,u1,u2,u3,u4,hat,lnw,hop,Zae]
    refine Zaf (Zvj hag (hq xk (Yti hxk)) (by omega) (by decide)) ?_
    rintro _ H3 n3 k3 rfl
    rw[←hap]
    simp(disch:=first|(simp;done)|omega|rfl) [-getElem?_pos,hr,hf,h14,hW]
    exact⟨m,by omega,hK.trans k3,k+1,by omega,by omega,by simp,by simp⟩
  ·rintro _ r ⟨H,n1,W⟩ hr ⟨rfl,hW,hK,h13⟩
   simp only at hW hK
   simp(disch:=first|(simp;done)|omega|rfl) [-getElem?_pos,hr,h13,Ret]
   exact⟨hW,kG.trans hK⟩
 ·obtain⟨n0,hin⟩:=List.length_eq_one_iff.1 (show s.inputs.length=1 from Nat.le_antisymm ho4 ho3)
  have p0:=rp n0 (by rw[hin];simp)
  have hn0:s.inputs[0]?=some n0:=by rw[hin];rfl
  obtain⟨x0,hx0⟩:=Zag (l:=now) (k:=pos g n0) (by omega)
  obtain⟨b0,hb0⟩:=Zag (l:=before) (k:=pos g n0) (by omega)
  obtain⟨bi,hbi⟩:=Zag (l:=before) (k:=i) (by omega)
  obtain⟨ii,oi,ci,ei,rwi,t1,t2,t3,t4⟩:=q5.at (Zbo hn0)
  rw[Yus]at t4
  have t3:=(kG.get ii t2).trans t3
  have t5:ii<N+1+1:=by omega
  obtain⟨iN,oN,cN,eN,rwN,u1,u2,u3,u4⟩:=hnow.at hx0
  have u3:=(kG.get iN u2).trans u3
  have u5:iN<N+1+1:=by omega
  have hpi:Zh8 g n0=(pos g n0:Int):=by unfold Zh8;rw[Ytg (by omega)]
  have hat:=fun w=>Zqp (n:=n0) (w:=w) (hg.keep kG) (by omega)
  simp only[hpi]at hat
  have lnw:=hnow.len
  have lbw:=hb.len
  have e1:pos g n0<now.length:=by omega
  have e1':(pos g n0:Int)<(now.length:Int):=by omega
  have e2:pos g n0<before.length:=by omega
  have e2':(pos g n0:Int)<(before.length:Int):=by omega
  have e3:i<before.length:=by omega
  have e3':(i:Int)<(before.length:Int):=by omega
  have e4:(0:Int)<(s.inputs.length:Int):=by rw[hin];simp
  have e5:0<s.inputs.length:=by rw[hin];simp
  have hc:chkNum s.factor=0:=by simpa[Zco]using ho2
  have hm:∀{h':T O} {N':Nat},Fn A.C 149 [.str s.factor,.str (Za0 x0)] h' N' (fun u _ _=>u=.str (Za0 (Zfj s.factor*x0))):=fun {h' N'}=>by
   have:=Yb4 (h:=h') (N:=N') (Yed hc hfl) (hq x0 (Yti hx0)) (by decide) (by decide)
   rwa [(Zi5 hc).1]at this
  simp(disch:=first|(simp;done)|omega|rfl) [-getElem?_pos, -V.cells, -V.one,A.b86,lg,hlt,hlt',q1,q2,q3,q4,hcs,hls,hos,sps,hcf,hlf,hof,Zal,d1,d2,s0,s1,s2,f3,gF,gS,hop,Zae,hat,hil,t1,t3,t4,t5,e4,e5,u1,u3,u4,u5,lnw,e1,e1']
  refine Zaf hm ?_
  rintro _ H2 n2 k2 rfl
  simp(disch:=first|(simp;done)|omega|rfl) [-getElem?_pos,Ret]
  exact⟨kG.trans k2,by simp[Zoa,opQ,hop,Zfl,hin,hx0,Zuv,opOf]⟩
 ·obtain⟨n0,tl,hin⟩:∃n0 tl,s.inputs=n0::tl:=by
   match hI:s.inputs,(show 1≤s.inputs.length from ho3)with
   |n0::tl,_=>exact⟨n0,tl,rfl⟩
   |[],h=>simp at h
  have p0:=rp n0 (by rw[hin];simp)
  have hn0:s.inputs[0]?=some n0:=by rw[hin];rfl
  obtain⟨x0,hx0⟩:=Zag (l:=now) (k:=pos g n0) (by omega)
  obtain⟨b0,hb0⟩:=Zag (l:=before) (k:=pos g n0) (by omega)
  obtain⟨bi,hbi⟩:=Zag (l:=before) (k:=i) (by omega)
  obtain⟨ii,oi,ci,ei,rwi,t1,t2,t3,t4⟩:=q5.at (Zbo hn0)
  rw[Yus]at t4
  have t3:=(kG.get ii t2).trans t3
  have t5:ii<N+1+1:=by omega
  obtain⟨iN,oN,cN,eN,rwN,u1,u2,u3,u4⟩:=hnow.at hx0
  have u3:=(kG.get iN u2).trans u3
  have u5:iN<N+1+1:=by omega
  have hpi:Zh8 g n0=(pos g n0:Int):=by unfold Zh8;rw[Ytg (by omega)]
  have hat:=fun w=>Zqp (n:=n0) (w:=w) (hg.keep kG) (by omega)
  simp only[hpi]at hat
  have lnw:=hnow.len
  have lbw:=hb.len
  have e1:pos g n0<now.length:=by omega
  have e1':(pos g n0:Int)<(now.length:Int):=by omega
  have e2:pos g n0<before.length:=by omega
  have e2':(pos g n0:Int)<(before.length:Int):=by omega
  have e3:i<before.length:=by omega
  have e3':(i:Int)<(before.length:Int):=by omega
  have e4:(0:Int)<(s.inputs.length:Int):=by rw[hin];simp
  have e5:0<s.inputs.length:=by rw[hin];simp
  have i16:s.inputs.length≤16:=ho4
  have hiq:∀q∈Zfl g s now,Qb 2400 q:=fun q hqm=>by
   obtain⟨nm,hnm,rfl⟩:=Yur.1 hqm
   obtain⟨y,hy⟩:=Zag (l:=now) (k:=pos g nm) (by have:=rp nm hnm;omega)
   rw[hy]
   exact hq y (Yti hy)
  have hiql:(Zfl g s now).length=s.inputs.length:=Ytx ..
  have hi1:(Zfl g s now).take 1=[x0]:=by simp[Zfl,hin,hx0]
  have eF:Zoa g s (fmQ f) (before[i]?.getD 0) now before=agQ false (Zfl g s now):=by simp[Zoa,opQ,hop,agQ]
  rw[eF]
  simp(disch:=first|(simp;done)|omega|rfl) [-getElem?_pos, -V.cells, -V.one,A.b86,lg,hlt,hlt',q1,q2,q3,q4,hcs,hls,hos,sps,hcf,hlf,hof,Zal,d1,d2,s0,s1,s2,f3,gF,gS,hop,Zae,hat,hil,t1,t3,t4,t5,e4,e5,u1,u3,u4,u5,lnw,e1,e1']
  clear hat t3 u3
  generalize (((h.set N (.cells (fmC f) 51 true)).set (N+1) (.cells [.str [],.str [],.str [],.nilslice,.int .i64 0] 49 true)).set (N+1) (.cells (Zce s inp) 49 true))=G at*
  refine Zah [(13,15),(66,91)] (fun e r st=>e=.exit 1∧Zaa N st.w=[]∧Keeps G (N+1+1) st.h st.n∧r.get 13=some (.str (Za0 (agQ false (Zfl g s now))))) (fun m r st=>Zaa N st.w=[]∧Keeps G (N+1+1) st.h st.n∧∃k,0<k∧k+m=s.inputs.length∧r.get 14=some (.int .i64 k)∧r.get 13=some (.str (Za0 (agQ false ((Zfl g s now).take k))))) (s.inputs.length-1) ?_ ?_ ?_
  ·exact⟨by simp[Zaa],Keeps.refl,1,by omega,by omega,by simp,by simp[hi1,Zve]⟩
  ·rintro m r ⟨H,n1,W⟩ hr hf ⟨hW,hK,k,k0,hk,h14,h13⟩
   simp only at hW hK
   rw[Zai]
   have leK:=hK.le
   have gS':=(hK.get (N+1) (by omega)).trans gS
   have w1:N+1<n1:=by omega
   cases m with
   |zero=>
    obtain rfl:k=s.inputs.length:=by omega
    rw[Yto (by omega)]at h13
    simp(disch:=first|(simp;done)|omega|rfl) [-getElem?_pos,A.lb86_0,hr,hf,h14,gS',w1,s2,hil,h13,hW,hK]
   |succ m=>
    obtain⟨nk,hnk⟩:=Zag (l:=s.inputs) (k:=k) (by omega)
    have pk:=rp nk (Yti hnk)
    obtain⟨xk,hxk⟩:=Zag (l:=now) (k:=pos g nk) (by omega)
    obtain⟨ii,oi,ci,ei,rwi,t1,t2,t3,t4⟩:=(q5.keep (kG.trans hK)).at (Zbo hnk)
    obtain⟨iN,oN,cN,eN,rwN,u1,u2,u3,u4⟩:=(hnow.keep (kG.trans hK)).at hxk
    have hpi:Zh8 g nk=(pos g nk:Int):=by unfold Zh8;rw[Ytg (by omega)]
    have hat:=fun w=>Zqp (n:=nk) (w:=w) (hg.keep (kG.trans hK)) (by omega)
    simp only[hpi]at hat
    have f1:k<s.inputs.length:=by omega
    have f1':(k:Int)<(s.inputs.length:Int):=by omega
    have f2:pos g nk<now.length:=by omega
    have f2':(pos g nk:Int)<(now.length:Int):=by omega
    have hxi:(Zfl g s now)[k]?=some xk:=by unfold Zfl;rw[Ytl,hnk];simp[hxk]
    have htk:(Zfl g s now).take (k+1)=(Zfl g s now).take k++[xk]:=by rw[Yt8,hxi];rfl
    have hag:=Yeq (a:=false) (l:=(Zfl g s now).take k) (n:=k) (by rw[Ytu];omega) (fun q hqm=>hiq q (Yu3 hqm))
    have hap:=Zvf (a:=false) (l:=(Zfl g s now).take k) (q:=xk) (by rw[Ytu];omega)
    rw[←htk]at hap
    simp only[Ytr,if_true,if_false]at hap
    simp(disch:=first|(simp;done)|omega|rfl) [-getElem?_pos,A.lb86_0,hr,hf,h14,h13,gS',w1,s0,s2,hil,f1,f1',f2,f2',t1,t2,t3,t4,u1,u2,u3,u4,hat,lnw,hop,Zae]
    refine Zaf (Yf2 hag (hq xk (Yti hxk)) (by omega) (by decide) (by have:=Yin (hq xk (Yti hxk));omega)) ?_
    rintro _ H3 n3 k3 rfl
    rw[←hap]
    simp(disch:=first|(simp;done)|omega|rfl) [-getElem?_pos,hr,hf,h14,hW]
    exact⟨m,by omega,hK.trans k3,k+1,by omega,by omega,by simp,by simp⟩
  ·rintro _ r ⟨H,n1,W⟩ hr ⟨rfl,hW,hK,h13⟩
   simp only at hW hK
   simp(disch:=first|(simp;done)|omega|rfl) [-getElem?_pos,hr,h13,Ret]
   exact⟨hW,kG.trans hK⟩
 ·obtain⟨n0,hin⟩:=List.length_eq_one_iff.1 (show s.inputs.length=1 from Nat.le_antisymm ho4 ho3)
  have p0:=rp n0 (by rw[hin];simp)
  have hn0:s.inputs[0]?=some n0:=by rw[hin];rfl
  obtain⟨x0,hx0⟩:=Zag (l:=now) (k:=pos g n0) (by omega)
  obtain⟨b0,hb0⟩:=Zag (l:=before) (k:=pos g n0) (by omega)
  obtain⟨bi,hbi⟩:=Zag (l:=before) (k:=i) (by omega)
  obtain⟨ii,oi,ci,ei,rwi,t1,t2,t3,t4⟩:=q5.at (Zbo hn0)
  rw[Yus]at t4
  have t3:=(kG.get ii t2).trans t3
  have t5:ii<N+1+1:=by omega
  obtain⟨iN,oN,cN,eN,rwN,u1,u2,u3,u4⟩:=hnow.at hx0
  have u3:=(kG.get iN u2).trans u3
  have u5:iN<N+1+1:=by omega
  have hpi:Zh8 g n0=(pos g n0:Int):=by unfold Zh8;rw[Ytg (by omega)]
  have hat:=fun w=>Zqp (n:=n0) (w:=w) (hg.keep kG) (by omega)
  simp only[hpi]at hat
  have lnw:=hnow.len
  have lbw:=hb.len
  have e1:pos g n0<now.length:=by omega
  have e1':(pos g n0:Int)<(now.length:Int):=by omega
  have e2:pos g n0<before.length:=by omega
  have e2':(pos g n0:Int)<(before.length:Int):=by omega
  have e3:i<before.length:=by omega
  have e3':(i:Int)<(before.length:Int):=by omega
  have e4:(0:Int)<(s.inputs.length:Int):=by rw[hin];simp
  have e5:0<s.inputs.length:=by rw[hin];simp
  obtain⟨iB,oB,cB,eB,rwB,v1,v2,v3,v4⟩:=hb.at hb0
  have v3:=(kG.get iB v2).trans v3
  have v5:iB<N+1+1:=by omega
  simp(disch:=first|(simp;done)|omega|rfl) [-getElem?_pos, -V.cells, -V.one,A.b86,lg,hlt,hlt',q1,q2,q3,q4,hcs,hls,hos,sps,hcf,hlf,hof,Zal,d1,d2,s0,s1,s2,f3,gF,gS,hop,Zae,hat,hil,t1,t3,t4,t5,e4,e5,v1,v3,v4,v5,lbw,e2,e2',Ret]
  exact⟨kG,by simp[Zoa,opQ,hop,Zva,hin,hb0]⟩
 ·obtain⟨n0,hin⟩:=List.length_eq_one_iff.1 (show s.inputs.length=1 from Nat.le_antisymm ho4 ho3)
  have p0:=rp n0 (by rw[hin];simp)
  have hn0:s.inputs[0]?=some n0:=by rw[hin];rfl
  obtain⟨x0,hx0⟩:=Zag (l:=now) (k:=pos g n0) (by omega)
  obtain⟨b0,hb0⟩:=Zag (l:=before) (k:=pos g n0) (by omega)
  obtain⟨bi,hbi⟩:=Zag (l:=before) (k:=i) (by omega)
  obtain⟨ii,oi,ci,ei,rwi,t1,t2,t3,t4⟩:=q5.at (Zbo hn0)
  rw[Yus]at t4
  have t3:=(kG.get ii t2).trans t3
  have t5:ii<N+1+1:=by omega
  obtain⟨iN,oN,cN,eN,rwN,u1,u2,u3,u4⟩:=hnow.at hx0
  have u3:=(kG.get iN u2).trans u3
  have u5:iN<N+1+1:=by omega
  have hpi:Zh8 g n0=(pos g n0:Int):=by unfold Zh8;rw[Ytg (by omega)]
  have hat:=fun w=>Zqp (n:=n0) (w:=w) (hg.keep kG) (by omega)
  simp only[hpi]at hat
  have lnw:=hnow.len
  have lbw:=hb.len
  have e1:pos g n0<now.length:=by omega
  have e1':(pos g n0:Int)<(now.length:Int):=by omega
  have e2:pos g n0<before.length:=by omega
  have e2':(pos g n0:Int)<(before.length:Int):=by omega
  have e3:i<before.length:=by omega
  have e3':(i:Int)<(before.length:Int):=by omega
  have e4:(0:Int)<(s.inputs.length:Int):=by rw[hin];simp
  have e5:0<s.inputs.length:=by rw[hin];simp
  have hc:chkNum s.factor=0:=by simpa[Zco]using ho2
  have hm:∀{h':T O} {N':Nat},Fn A.C 149 [.str s.factor,.str (Za0 bi)] h' N' (fun u _ _=>u=.str (Za0 (Zfj s.factor*bi))):=fun {h' N'}=>by
   have:=Yb4 (h:=h') (N:=N') (Yed hc hfl) (hbq bi (Yti hbi)) (by decide) (by decide)
   rwa [(Zi5 hc).1]at this
  obtain⟨iB,oB,cB,eB,rwB,v1,v2,v3,v4⟩:=hb.at hbi
  have v3:=(kG.get iB v2).trans v3
  have v5:iB<N+1+1:=by omega
  simp(disch:=first|(simp;done)|omega|rfl) [-getElem?_pos, -V.cells, -V.one,A.b86,lg,hlt,hlt',q1,q2,q3,q4,hcs,hls,hos,sps,hcf,hlf,hof,Zal,d1,d2,s0,s1,s2,f3,gF,gS,hop,Zae,hat,hil,t1,t3,t4,t5,e4,e5,v1,v3,v4,v5,lbw,e3,e3']
  refine Zaf hm ?_
  rintro _ H2 n2 k2 rfl
  have u3:=(k2.get iN u5).trans u3
  have le2:=k2.le
  have u6:iN<n2:=by omega
  simp(disch:=first|(simp;done)|omega|rfl) [-getElem?_pos,u1,u3,u4,u6,lnw,e1,e1']
  refine Zaf (Zvj (((Yed hc hfl).mul (hbq bi (Yti hbi))).mono (show _≤400000000 by decide)) (hq x0 (Yti hx0)) (by decide) (by decide)) ?_
  rintro _ H3 n3 k3 rfl
  simp(disch:=first|(simp;done)|omega|rfl) [-getElem?_pos,Ret]
  exact⟨(kG.trans k2).trans k3,by simp[Zoa,opQ,hop,Zfl,hin,hx0,Zuv,opOf,hbi]⟩
noncomputable def A.w85:=A.q Tryz.f85
noncomputable def A.lb85_0:=A.ql A.w85 0 []
noncomputable def A.b85:=(fun x0=>A.qb A.w85 [x0]) A.lb85_0
def A.k85:=@A.kk 85 14 [.tmp 2] A.b85 (by kernel_rfl) rfl
def Ya2{h:T O}{N n:Nat}(h0:0<n)(hn:n<1000):Fn A.C 85 [.int .i64 n] h N (fun x h' n'=>TxT h' n' x ((List.range n).map fun _=>0)):=by
 intro w
 rw[Zad,A.k85 (by simp)]
 simp(disch:=first|(simp;done)|omega|rfl) [-getElem?_pos,A.b85]
 refine Zah [(3,12)] (fun e r st=>e=.exit 0∧Zaa N st.w=[]∧Keeps h N st.h st.n∧∃v,r.get 3=some v∧Own 1 46 N st.h st.n v ((tx ((List.range n).map fun _=>0)).map fun y=>[y])) (fun m r st=>Zaa N st.w=[]∧Keeps h N st.h st.n∧∃t v,t+m=n∧r.get 4=some (.int .i64 t)∧r.get 3=some v∧Own 1 46 N st.h st.n v ((tx ((List.range t).map fun _=>0)).map fun y=>[y])) n ?_ ?_ ?_
 ·exact⟨by simp,Keeps.refl,0,_,by omega,by simp,by simp,Own.nil⟩
 ·rintro m r ⟨H,n1,W⟩ hr hf ⟨hW,hK,t,v,ht,h4,h3,hO⟩
  simp only at hW hK hO
  rw[Zai]
  have le:=hK.le
  cases m with
  |zero=>
   obtain rfl:t=n:=by omega
   simp(disch:=first|(simp;done)|omega|rfl) [-getElem?_pos,A.lb85_0,hr,hf,h3,h4,hW,hK]
   exact hO
  |succ m=>
   have hlt:t<n:=by omega
   have hlt':(t:Int)<(n:Int):=by omega
   have sp1:splice [V.str []] 0 [.str [48]]=[.str [48]]:=rfl
   have kD:Keeps H n1 (H.set n1 (.cells [.str [48]] 46 true)) (n1+1):=Keeps.refl.new _
   obtain⟨v',h',w',j1,j2,j3,_,j5⟩:=Za9 (x:=[.str [48]]) (u:=.slice n1 0 1 (some 1) 1) (bytes:=16) (w:=W) (hO.keep kD) (by omega) (by decide) rfl (by simp[Zau,St.row,slc]) (by simp[tx,strs];omega)
   have kF:Keeps h N h' (n1+1+1):=(hK.trans kD).then j3
   simp(disch:=first|(simp;done)|omega|rfl) [-getElem?_pos,A.lb85_0,hr,hf,h3,h4,hlt,hlt',sp1,Za3,j1,j2,hW,kF]
   refine⟨m,by omega,t+1,by omega,by simp,?_⟩
   have e:(tx ((List.range (t+1)).map fun _=>(0:Rat))).map (fun y=>[y])=(tx ((List.range t).map fun _=>(0:Rat))).map (fun y=>[y])++[[.str [48]]]:=by
    rw[List.range_succ,List.map_append]
    simp[tx,strs]
    rfl
   rw[e]
   exact j5
 ·rintro _ r ⟨H,n1,W⟩ hr ⟨rfl,hW,hK,v,h3,hO⟩
  simp only at hW hK hO
  simp(disch:=first|(simp;done)|omega|rfl) [-getElem?_pos,hr,h3,Ret,hW,hK]
  exact Ybp hO
def Znf{l:List Rat}(h:∀q∈l,Qb 2400 q)(k:Nat):Qb 2400 (l[k]?.getD 0):=by
 cases hk:l[k]? with
 |none=>exact Qb.zero.mono (by decide)
 |some q=>exact h q (Yti hk)
def Ykc{g:List Stg}{s:Stg}{fr ow:Rat}{now before:List Rat}(hG:OkG g)(hs:s∈g)(h1:Qb 2400 fr)(h2:Qb 2400 ow)(hq:∀q∈now,Qb 2400 q)(hbq:∀q∈before,Qb 2400 q):Qb 40000 (Zoa g s fr ow now before):=by
 obtain⟨o,ho1,ho2,ho3,ho4⟩:=hG.op s hs
 unfold Zoa
 refine Yi3 h1 ?_ ?_ h2 ?_ ?_
 ·intro q hqm
  obtain⟨n,_,rfl⟩:=Yur.1 hqm
  exact Znf hq _
 ·unfold Zva
  split
  ·exact Znf hbq _
  ·exact Qb.zero.mono (by decide)
 ·unfold Zuv
  split
  ·rename_i hf
   rw[ho1,Yvq]at hf
   unfold Zco at ho2
   rw[Ytg hf]at ho2
   exact Zjr (Yee ho2)
  ·exact Qb.zero.mono (by decide)
 ·have:o.hi≤16:=by
   rcases Yi1 ho1 with⟨_,rfl⟩|⟨_,rfl⟩|⟨_,rfl⟩|⟨_,rfl⟩|⟨_,rfl⟩|⟨_,rfl⟩<;>decide
  have e:(Zfl g s now).length=s.inputs.length:=Ytx ..
  omega
end Go.Mx
