/-lensletref09-/
import Derived.Test.YtkfkpkejgchcpaaGreatDoorOuS
set_option linter.all false
namespace Go.Mx
open Go Go.Proofs
set_option maxRecDepth 1000000
def A.lb5_0:Zah:=.seq (sr [mv 12 3,mv 13 0,ln 14 13,bi 15 .lss 12 14]
 (cd 15
 (.skip)
 (.exit 0)))
 (.seq (.block 1 (sr [mv 18 0,mv 19 3,ia 20 4 18 19,fa 21 3 20,ld 22 21,ge 23 (.len 0 (tq 22)),bc 24 .gtr 23 20]
 (cd 24
 (sr [ge 2 (.mov (.const (.bool false)))]
 (.ret))
 (.skip))))
 (.reg [mv 16 3,bc 17 .add 16 1,mv 3 17]))
def A.b5:Zah:=sr [ge 2 (.mov (.const (.bool false)))]
 (.seq (sr [mv 4 0,ln 5 4,bc 6 .gtr 5 8,mv 7 6,mg 8 0 7,gy 9 7 (.len 1 (tq 8)),gy 10 7 (.bin .neq (.prim .int) true (tq 9) (kq 257)),pf 11 7 10]
 (cd 11
 (sr [ge 2 (.mov (.const (.bool false)))]
 (.ret))
 (.skip)))
 (.seq (sr [mc 3 0]
 (.block 0 (.loop A.lb5_0)))
 (sr [ge 2 (.mov (.const (.bool true)))]
 (.ret))))
def A.k5:=@A.kk 5 25 [.tmp 2] A.b5 (by kernel_rfl) rfl
def shF(f:FmR):Bool:=decide (f.val.length≤20)
def Zk5(l:List FmR):Bool:=decide (l.length≤8∨l.length=257)&&l.all shF
def Zz0{h:T O}{N:Nat}{v:V}{l:List FmR}{w:List Nat}(hs:Sn 4 h N v (l.map fmC))(hl:l.length<9223372036854775808):A.C.call (.func 5 [] []) [v] ⟨h,N,w⟩=some (.bool (Zk5 l),⟨h,N,w⟩):=by
 apply Call.eq
 have lg:=hs.len
 rw[Ysw]at lg
 rw[Zac,A.k5 (by simp)]
 by_cases c1:l.length≤8∨l.length=257
 ·have fin:Zk5 l=l.all shF:=by simp[Zk5,c1]
  rw[fin]
  have c2:8<(l.length:Int)→(l.length:Int)=257:=by omega
  by_cases c3:8<(l.length:Int)
  ·have c4:=c2 c3
   have c5:8<l.length:=by omega
   have c6:l.length=257:=by omega
   simp(disch:=first|(simp;done)|omega|rfl) [-getElem?_pos,A.b5,lg,c3,c4,c5,c6,Zae]
   refine Zai [(2,3),(12,24)] (fun e r st=>st=⟨h,N,[]⟩∧((e=.exit 0∧l.all shF=true)∨(e=.ret∧l.all shF=false∧r.get 2=some (.bool false)))) (fun m r st=>st=⟨h,N,[]⟩∧∃k,k+m=l.length∧r.get 3=some (.int .i64 k)∧l.all shF=(l.drop k).all shF) l.length ?_ ?_ ?_
   ·exact⟨rfl,0,by omega,by simp,by simp⟩
   ·rintro m r _ hr hf ⟨rfl,k,hk,hx,hz⟩
    rw[Zaj]
    cases m with
    |zero=>
     obtain rfl:k=l.length:=by omega
     rw[Yti,List.all_nil]at hz
     simp(disch:=first|(simp;done)|omega|rfl) [-getElem?_pos,A.lb5_0,hr,hf,hx,lg,hz]
    |succ m=>
     have hlt:k<l.length:=by omega
     have hk1:(k:Int)<(l.length:Int):=by omega
     obtain⟨f,hc⟩:=Zag hlt
     rw[Zaq hc,List.all_cons]at hz
     obtain⟨i0,o0,c0,e0,rw0,q1,q2,q3,q4⟩:=hs.at (show (l.map fmC)[k]?=some (fmC f) by rw[Ysa,hc];rfl)
     have u3:c0[o0+k*4+3]?=some (.str f.val):=Zk3 q4 (by decide)
     by_cases c8:20<f.val.length
     ·have c8':(20:Int)<(f.val.length:Int):=by omega
      have e1:shF f=false:=by simp[shF];omega
      rw[e1,Bool.false_and]at hz
      simp(disch:=first|(simp;done)|omega|rfl) [-getElem?_pos,A.lb5_0,hr,hf,hx,lg,hk1,hlt,q1,q2,q3,u3,c8,c8',hz]
     ·have c8':¬(20:Int)<(f.val.length:Int):=by omega
      have e1:shF f=true:=by simp[shF];omega
      rw[e1,Bool.true_and]at hz
      simp(disch:=first|(simp;done)|omega|rfl) [-getElem?_pos,A.lb5_0,hr,hf,hx,lg,hk1,hlt,q1,q2,q3,u3,c8,c8']
      exact⟨m,by omega,k+1,by omega,by simp,hz⟩
   ·rintro _ r _ hr ⟨rfl,⟨rfl,hz⟩|⟨rfl,hz,h2⟩⟩
    ·simp(disch:=first|(simp;done)|omega|rfl) [-getElem?_pos,hr,hz]
    ·simp(disch:=first|(simp;done)|omega|rfl) [-getElem?_pos,hr,h2,hz]
  ·have c5:¬8<l.length:=by omega
   simp(disch:=first|(simp;done)|omega|rfl) [-getElem?_pos,A.b5,lg,c3,c5,Zae]
   refine Zai [(2,3),(12,24)] (fun e r st=>st=⟨h,N,[]⟩∧((e=.exit 0∧l.all shF=true)∨(e=.ret∧l.all shF=false∧r.get 2=some (.bool false)))) (fun m r st=>st=⟨h,N,[]⟩∧∃k,k+m=l.length∧r.get 3=some (.int .i64 k)∧l.all shF=(l.drop k).all shF) l.length ?_ ?_ ?_
   ·exact⟨rfl,0,by omega,by simp,by simp⟩
   ·rintro m r _ hr hf ⟨rfl,k,hk,hx,hz⟩
    rw[Zaj]
    cases m with
    |zero=>
     obtain rfl:k=l.length:=by omega
     rw[Yti,List.all_nil]at hz
     simp(disch:=first|(simp;done)|omega|rfl) [-getElem?_pos,A.lb5_0,hr,hf,hx,lg,hz]
    |succ m=>
     have hlt:k<l.length:=by omega
     have hk1:(k:Int)<(l.length:Int):=by omega
     obtain⟨f,hc⟩:=Zag hlt
     rw[Zaq hc,List.all_cons]at hz
     obtain⟨i0,o0,c0,e0,rw0,q1,q2,q3,q4⟩:=hs.at (show (l.map fmC)[k]?=some (fmC f) by rw[Ysa,hc];rfl)
     have u3:c0[o0+k*4+3]?=some (.str f.val):=Zk3 q4 (by decide)
     by_cases c8:20<f.val.length
     ·have c8':(20:Int)<(f.val.length:Int):=by omega
      have e1:shF f=false:=by simp[shF];omega
      rw[e1,Bool.false_and]at hz
      simp(disch:=first|(simp;done)|omega|rfl) [-getElem?_pos,A.lb5_0,hr,hf,hx,lg,hk1,hlt,q1,q2,q3,u3,c8,c8',hz]
     ·have c8':¬(20:Int)<(f.val.length:Int):=by omega
      have e1:shF f=true:=by simp[shF];omega
      rw[e1,Bool.true_and]at hz
      simp(disch:=first|(simp;done)|omega|rfl) [-getElem?_pos,A.lb5_0,hr,hf,hx,lg,hk1,hlt,q1,q2,q3,u3,c8,c8']
      exact⟨m,by omega,k+1,by omega,by simp,hz⟩
   ·rintro _ r _ hr ⟨rfl,⟨rfl,hz⟩|⟨rfl,hz,h2⟩⟩
    ·simp(disch:=first|(simp;done)|omega|rfl) [-getElem?_pos,hr,hz]
    ·simp(disch:=first|(simp;done)|omega|rfl) [-getElem?_pos,hr,h2,hz]
 ·have fin:Zk5 l=false:=by simp[Zk5,c1]
  have c3:8<(l.length:Int):=by omega
  have c4:¬(l.length:Int)=257:=by omega
  have c5:8<l.length:=by omega
  have c6:¬l.length=257:=by omega
  simp(disch:=first|(simp;done)|omega|rfl) [-getElem?_pos,A.b5,lg,c3,c4,c5,c6,Zae,fin]
def A.lb4_0:Zah:=.seq (sr [mv 62 4,mv 63 0,mv 64 3,ia 65 5 63 64,fa 66 3 65,ld 67 66,ln 68 67,bi 69 .lss 62 68]
 (cd 69
 (.skip)
 (.exit 2)))
 (.seq (.block 3 (sr [mv 72 0,mv 73 3,ia 74 5 72 73,fa 75 3 74,ld 76 75,mv 77 4,ia 78 1 76 77,ld 79 78,ge 80 (.len 0 (tq 79)),bc 81 .gtr 80 40]
 (cd 81
 (sr [ge 2 (.mov (.const (.bool false)))]
 (.ret))
 (.skip))))
 (.reg [mv 70 4,bc 71 .add 70 1,mv 4 71]))
def A.lb4_1:Zah:=.seq (sr [mv 13 3,mv 14 0,ln 15 14,bi 16 .lss 13 15]
 (cd 16
 (.skip)
 (.exit 0)))
 (.seq (.block 1 (.seq (sr [mv 19 0,mv 20 3,ia 21 5 19 20,fa 22 0 21,ld 23 22,ge 24 (.len 0 (tq 23)),bc 25 .gtr 24 40,mv 26 25,mh 27 0 26,mh 28 3 26,gz 29 26 (.iaddrSl 5 (tq 27) (tq 28)),gz 30 26 (.faddr 1 (tq 29)),gz 31 26 (.load none (tq 30)),gz 32 26 (.len 0 (tq 31)),gz 33 26 (.bin .gtr (.node []) false (tq 32) (kq 40)),pt 34 26 33,mv 35 34,mh 36 0 35,mh 37 3 35,gz 38 35 (.iaddrSl 5 (tq 36) (tq 37)),gz 39 35 (.faddr 2 (tq 38)),gz 40 35 (.load none (tq 39)),gz 41 35 (.len 0 (tq 40)),gz 42 35 (.bin .gtr (.node []) false (tq 41) (kq 20)),pt 43 35 42,mv 44 43,mh 45 0 44,mh 46 3 44,gz 47 44 (.iaddrSl 5 (tq 45) (tq 46)),gz 48 44 (.faddr 3 (tq 47)),gz 49 44 (.load none (tq 48)),gz 50 44 (.len 1 (tq 49)),gz 51 44 (.bin .gtr (.node []) false (tq 50) (kq 5)),mh 52 51 44,mg 53 0 52,mg 54 3 52,gy 55 52 (.iaddrSl 5 (tq 53) (tq 54)),gy 56 52 (.faddr 3 (tq 55)),gy 57 52 (.load none (tq 56)),gy 58 52 (.len 1 (tq 57)),gy 59 52 (.bin .neq (.prim .int) true (tq 58) (kq 17)),gz 60 44 (.pick (tq 52) (tq 59) (.const (.bool false))),pt 61 44 60]
 (cd 61
 (sr [ge 2 (.mov (.const (.bool false)))]
 (.ret))
 (.skip)))
 (sr [mc 4 0]
 (.block 2 (.loop A.lb4_0)))))
 (.reg [mv 17 3,bc 18 .add 17 1,mv 3 18]))
def A.b4:Zah:=sr [ge 2 (.mov (.const (.bool false)))]
 (.seq (sr [mv 5 0,ln 6 5,bc 7 .gtr 6 6,mv 8 7,mg 9 0 8,gy 10 8 (.len 1 (tq 9)),gy 11 8 (.bin .neq (.prim .int) true (tq 10) (kq 17)),pf 12 8 11]
 (cd 12
 (sr [ge 2 (.mov (.const (.bool false)))]
 (.ret))
 (.skip)))
 (.seq (sr [mc 3 0]
 (.block 0 (.loop A.lb4_1)))
 (sr [ge 2 (.mov (.const (.bool true)))]
 (.ret))))
def A.k4:=@A.kk 4 82 [.tmp 2] A.b4 (by kernel_rfl) rfl
def Yoo(h:T O)(N:Nat)(g:List Stg)(m:Nat)(r:T V)(st:St):Prop:=st=⟨h,N,[]⟩∧∃k,k+m=g.length∧r.get 3=some (.int .i64 k)∧g.all Zbs=(g.drop k).all Zbs
def Zod{h:T O}{N:Nat}{v:V}{g:List Stg}(hg:Gr h N v g)(hl:g.length<9223372036854775808)(hin:∀s∈g,s.inputs.length<9223372036854775808){r0:T V}(a0:r0.get 0=some v):
  ∀k r st,(∀t,inD [(2,4),(13,81)] t=false→r.get t=r0.get t)→Fx [(2,4),(13,81)] r0 82 ⟨r,82,[]⟩→Yoo h N g k r st→Code A.C none A.lb4_1 ⟨r,82,[]⟩ st (Rd [(2,4),(13,81)] r0 82 (Yoo h N g) k (fun e r st=>st=⟨h,N,[]⟩∧((e=.exit 0∧g.all Zbs=true)∨(e=.ret∧g.all Zbs=false∧r.get 2=some (.bool false))))):=by
 rintro m r _ hr hf ⟨rfl,k,hk,h3,hz⟩
 have lg:=hg.len
 rw[Zaj]
 cases m with
 |zero=>
  have:k=g.length:=by omega
  subst this
  rw[Yti,List.all_nil]at hz
  simp(disch:=first|(simp;done)|omega|rfl) [-getElem?_pos,A.lb4_1,hr,hf,a0,h3,lg]
  simpa using hz
 |succ m=>
  have hlt:k<g.length:=by omega
  obtain⟨s,hs⟩:=Zag hlt
  obtain⟨i,o,cc,e,rw,inp,q1,q2,q3,q4,q5⟩:=hg.at hs
  obtain⟨p0,p1,p2,p3,p4,p5⟩:=Zjd q4
  have hk1:(k:Int)<(g.length:Int):=by omega
  have lz:=q5.len
  rw[Zby]at lz
  have hinl:=hin s (Yr8 hs)
  rw[Zaq hs,List.all_cons]at hz
  have fal:∀(hc:Zbs s=false),g.all Zbs=false:=fun hc=>by rw[hz,hc];rfl
  by_cases c1:s.name.length≤40
  ·have c1':¬40<(s.name.length:Int):=by omega
   by_cases c2:s.op.length≤40
   ·have c2':¬40<(s.op.length:Int):=by omega
    by_cases c3:s.factor.length≤20
    ·have c3':¬20<(s.factor.length:Int):=by omega
     by_cases c4:s.inputs.length≤5∨s.inputs.length=17
     ·have hss:Zbs s=s.inputs.all (fun n=>decide (n.length≤40)):=by simp[Zbs,c1,c2,c3,c4]
      rcases c4 with c4|c4
      ·have c4':¬5<(s.inputs.length:Int):=by omega
       simp(disch:=first|(simp;done)|omega|rfl) [-getElem?_pos,A.lb4_1,hr,hf,a0,h3,hk1,hlt,lg,q1,q3,p1,p2,p3,p4,lz,c1',c2',c3',c4']
       refine Zai [(2,2),(4,4),(62,81)] (fun e r st=>st=⟨h,N,[]⟩∧((e=.exit 2∧Zbs s=true)∨(e=.ret∧Zbs s=false∧r.get 2=some (.bool false)))) (fun m r st=>st=⟨h,N,[]⟩∧∃t,t+m=s.inputs.length∧r.get 4=some (.int .i64 t)∧Zbs s=(s.inputs.drop t).all (fun n=>decide (n.length≤40))) s.inputs.length ?_ ?_ ?_
       ·exact⟨rfl,0,by omega,by simp,by simpa using hss⟩
       ·rintro m2 r2 _ hr2 hf2 ⟨rfl,t,ht,h4,hz2⟩
        rw[Zaj]
        cases m2 with
        |zero=>
         have:t=s.inputs.length:=by omega
         rw[this,Yti,List.all_nil]at hz2
         rw[this]at h4
         simp(disch:=first|(simp;done)|omega|rfl) [-getElem?_pos,A.lb4_0,hr,hr2,hf2,a0,h3,h4,hk1,hlt,lg,q1,q3,p4,lz,hz2]
        |succ m2=>
         have htl:t<s.inputs.length:=by omega
         have htl':(t:Int)<(s.inputs.length:Int):=by omega
         obtain⟨n,hn⟩:=Zag htl
         obtain⟨b1,b2,b3,b4,b5,z1,z2,z3,z4⟩:=q5.at (Zb5 hn)
         rw[Zaq hn,List.all_cons]at hz2
         by_cases cn:n.length≤40
         ·have cn':¬40<(n.length:Int):=by omega
          simp(disch:=first|(simp;done)|omega|rfl) [-getElem?_pos,A.lb4_0,hr,hr2,hf2,a0,h3,h4,hk1,hlt,htl,htl',lg,q1,q3,p4,lz,z1,z3,z4,cn']
          exact⟨m2,by omega,t+1,by omega,by simp,by rw[hz2];simp[cn]⟩
         ·have cn':40<(n.length:Int):=by omega
          have hq:Zbs s=false:=by rw[hz2];simp[cn]
          simp(disch:=first|(simp;done)|omega|rfl) [-getElem?_pos,A.lb4_0,hr,hr2,hf2,a0,h3,h4,hk1,hlt,htl,htl',lg,q1,q3,p4,lz,z1,z3,z4,cn',hq]
       ·rintro e r2 _ hr2 ⟨rfl,⟨rfl,hq⟩|⟨rfl,hq,h2⟩⟩
        ·have hfi:=hf.inner (D':=[(2,2),(4,4),(62,81)]) rfl (by simp) hr2
         have hz':g.all Zbs=(g.drop (k+1)).all Zbs:=by rw[hz,hq];simp
         simp(disch:=first|(simp;done)|omega|rfl) [-getElem?_pos,hr,hr2,h3,hfi]
         exact⟨m,by omega,rfl,k+1,by omega,by simp,hz'⟩
        ·have hfi:=hf.inner (D':=[(2,2),(4,4),(62,81)]) rfl (by simp) hr2
         have hq':=fal hq
         simp(disch:=first|(simp;done)|omega|rfl) [-getElem?_pos,hr,hr2,h2,hfi]
         simpa using hq'
      ·have c4':5<(s.inputs.length:Int):=by omega
       have c5':(s.inputs.length:Int)=17:=by omega
       simp(disch:=first|(simp;done)|omega|rfl) [-getElem?_pos,A.lb4_1,hr,hf,a0,h3,hk1,hlt,lg,q1,q3,p1,p2,p3,p4,lz,c1',c2',c3',c4',c4,Zae]
       refine Zai [(2,2),(4,4),(62,81)] (fun e r st=>st=⟨h,N,[]⟩∧((e=.exit 2∧Zbs s=true)∨(e=.ret∧Zbs s=false∧r.get 2=some (.bool false)))) (fun m r st=>st=⟨h,N,[]⟩∧∃t,t+m=s.inputs.length∧r.get 4=some (.int .i64 t)∧Zbs s=(s.inputs.drop t).all (fun n=>decide (n.length≤40))) s.inputs.length ?_ ?_ ?_
       ·exact⟨rfl,0,by omega,by simp,by simpa using hss⟩
       ·rintro m2 r2 _ hr2 hf2 ⟨rfl,t,ht,h4,hz2⟩
        rw[Zaj]
        cases m2 with
        |zero=>
         have:t=s.inputs.length:=by omega
         rw[this,Yti,List.all_nil]at hz2
         rw[this]at h4
         simp(disch:=first|(simp;done)|omega|rfl) [-getElem?_pos,A.lb4_0,hr,hr2,hf2,a0,h3,h4,hk1,hlt,lg,q1,q3,p4,lz,hz2]
        |succ m2=>
         have htl:t<s.inputs.length:=by omega
         have htl':(t:Int)<(s.inputs.length:Int):=by omega
         obtain⟨n,hn⟩:=Zag htl
         obtain⟨b1,b2,b3,b4,b5,z1,z2,z3,z4⟩:=q5.at (Zb5 hn)
         rw[Zaq hn,List.all_cons]at hz2
         by_cases cn:n.length≤40
         ·have cn':¬40<(n.length:Int):=by omega
          simp(disch:=first|(simp;done)|omega|rfl) [-getElem?_pos,A.lb4_0,hr,hr2,hf2,a0,h3,h4,hk1,hlt,htl,htl',lg,q1,q3,p4,lz,z1,z3,z4,cn']
          exact⟨m2,by omega,t+1,by omega,by simp,by rw[hz2];simp[cn]⟩
         ·have cn':40<(n.length:Int):=by omega
          have hq:Zbs s=false:=by rw[hz2];simp[cn]
          simp(disch:=first|(simp;done)|omega|rfl) [-getElem?_pos,A.lb4_0,hr,hr2,hf2,a0,h3,h4,hk1,hlt,htl,htl',lg,q1,q3,p4,lz,z1,z3,z4,cn',hq]
       ·rintro e r2 _ hr2 ⟨rfl,⟨rfl,hq⟩|⟨rfl,hq,h2⟩⟩
        ·have hfi:=hf.inner (D':=[(2,2),(4,4),(62,81)]) rfl (by simp) hr2
         have hz':g.all Zbs=(g.drop (k+1)).all Zbs:=by rw[hz,hq];simp
         simp(disch:=first|(simp;done)|omega|rfl) [-getElem?_pos,hr,hr2,h3,hfi]
         exact⟨m,by omega,rfl,k+1,by omega,by simp,hz'⟩
        ·have hfi:=hf.inner (D':=[(2,2),(4,4),(62,81)]) rfl (by simp) hr2
         have hq':=fal hq
         simp(disch:=first|(simp;done)|omega|rfl) [-getElem?_pos,hr,hr2,h2,hfi]
         simpa using hq'
     ·have c4':5<(s.inputs.length:Int):=by omega
      have c5':¬(s.inputs.length:Int)=17:=by omega
      have c5:¬s.inputs.length=17:=by omega
      have hq:=fal (by simp[Zbs,c4])
      simp(disch:=first|(simp;done)|omega|rfl) [-getElem?_pos,A.lb4_1,hr,hf,a0,h3,hk1,hlt,lg,q1,q3,p1,p2,p3,p4,lz,c1',c2',c3',c4',c5,c5',Zae]
      simpa using hq
    ·have c3':20<(s.factor.length:Int):=by omega
     have hq:=fal (by simp[Zbs,c3])
     simp(disch:=first|(simp;done)|omega|rfl) [-getElem?_pos,A.lb4_1,hr,hf,a0,h3,hk1,hlt,lg,q1,q3,p1,p2,p3,p4,lz,c1',c2',c3']
     simpa using hq
   ·have c2':40<(s.op.length:Int):=by omega
    have hq:=fal (by simp[Zbs,c2])
    simp(disch:=first|(simp;done)|omega|rfl) [-getElem?_pos,A.lb4_1,hr,hf,a0,h3,hk1,hlt,lg,q1,q3,p1,p2,p3,p4,lz,c1',c2']
    simpa using hq
  ·have c1':40<(s.name.length:Int):=by omega
   have hq:=fal (by simp[Zbs,c1])
   simp(disch:=first|(simp;done)|omega|rfl) [-getElem?_pos,A.lb4_1,hr,hf,a0,h3,hk1,hlt,lg,q1,q3,p1,p2,p3,p4,lz,c1']
   simpa using hq
def Yet{h:T O}{N:Nat}{v:V}{g:List Stg}{w:List Nat}(hg:Gr h N v g)(hl:g.length<9223372036854775808)(hin:∀s∈g,s.inputs.length<9223372036854775808):A.C.call (.func 4 [] []) [v] ⟨h,N,w⟩=some (.bool (Zk4 g),⟨h,N,w⟩):=by
 apply Call.eq
 have lg:=hg.len
 rw[Zac,A.k4 (by simp)]
 by_cases hlen:g.length≤6∨g.length=17
 ·have hsg:Zk4 g=g.all Zbs:=by simp[Zk4,hlen]
  rw[hsg]
  have key:∀(K:List Kf) (r0:T V) (Q:Rs→Prop),True:=fun _ _ _=>trivial
  rcases hlen with hl6|hl17
  ·have a1:¬6<(g.length:Int):=by omega
   simp(disch:=first|(simp;done)|omega|rfl) [-getElem?_pos,A.b4,lg,a1]
   refine Zai [(2,4),(13,81)] (fun e r st=>st=⟨h,N,[]⟩∧((e=.exit 0∧g.all Zbs=true)∨(e=.ret∧g.all Zbs=false∧r.get 2=some (.bool false)))) (Yoo h N g) g.length ?_ ?_ ?_
   ·exact⟨rfl,0,by omega,by simp,by simp⟩
   ·exact Zod hg hl hin (by simp)
   ·rintro e r _ hr ⟨rfl,⟨rfl,hz⟩|⟨rfl,hz,h2⟩⟩
    ·simp(disch:=first|(simp;done)|omega|rfl) [-getElem?_pos,hr];simpa using hz
    ·simp(disch:=first|(simp;done)|omega|rfl) [-getElem?_pos,hr,h2];simpa using hz
  ·have a1:6<(g.length:Int):=by omega
   have a2:(g.length:Int)=17:=by omega
   simp(disch:=first|(simp;done)|omega|rfl) [-getElem?_pos,A.b4,lg,a1,a2,hl17,Zae]
   refine Zai [(2,4),(13,81)] (fun e r st=>st=⟨h,N,[]⟩∧((e=.exit 0∧g.all Zbs=true)∨(e=.ret∧g.all Zbs=false∧r.get 2=some (.bool false)))) (Yoo h N g) g.length ?_ ?_ ?_
   ·exact⟨rfl,0,by omega,by simp,by simp⟩
   ·exact Zod hg hl hin (by simp)
   ·rintro e r _ hr ⟨rfl,⟨rfl,hz⟩|⟨rfl,hz,h2⟩⟩
    ·simp(disch:=first|(simp;done)|omega|rfl) [-getElem?_pos,hr];simpa using hz
    ·simp(disch:=first|(simp;done)|omega|rfl) [-getElem?_pos,hr,h2];simpa using hz
 ·have hsg:Zk4 g=false:=by simp[Zk4,hlen]
  have a1:6<(g.length:Int):=by omega
  have a2:¬(g.length:Int)=17:=by omega
  have a3:¬g.length=17:=by omega
  simp(disch:=first|(simp;done)|omega|rfl) [-getElem?_pos,A.b4,lg,a1,a2,a3,hsg,Zae]
variable {N:Nat} {h:T O} {u:V}
def A.lb8_0:Zah:=sr [bi 10 .lss 9 8]
 (.seq (cd 10
 (.skip)
 (.exit 0))
 (.seq (.block 1 (sr [ia 11 5 7 9,lN 12 5 11,ge 5 (.alloc [(.str []),(.str []),(.str []),.nilslice,.int .i64 0] 47),gn (.store 5 (tq 5) (tq 12))]
 (sr [lN 13 5 5,ge 6 (.alloc [(.str []),(.str []),(.str []),.nilslice,.int .i64 0] 104),gn (.store 5 (tq 6) (tq 13))]
 (sr [ge 14 (.bslice 9 1 0 [] []),fa 15 3 5,ld 16 15,ge 17 (.append 1 16 9 [(.str [])] (tq 14) (tq 16)),fa 18 3 6,so 18 17]
 (.reg [mv 19 3,lN 20 5 6,ge 21 (.bslice 104 5 1 [(.str []),(.str []),(.str []),.nilslice,.int .i64 0] [(0,5,(tq 20))]),ge 22 (.append 5 80 104 [(.str []),(.str []),(.str []),.nilslice,.int .i64 0] (tq 19) (tq 21)),mv 3 22])))))
 (.reg [bc 23 .add 9 1,mv 9 23])))
def A.b8:Zah:=sr [mN 2]
 (sr [mN 3]
 (.seq (sr [mv 7 0,ln 8 7,mc 9 0]
 (.block 0 (.loop A.lb8_0)))
 (sr [mv 24 3,mv 2 24]
 (.ret))))
def A.c8:A.F 8=some ⟨25,[.tmp 2],A.b8⟩:=by kernel_rfl
def A.k8:=@A.kk 8 _ _ _ A.c8 rfl
def PgB(h:T O)(N0 N:Nat)(u:V)(g:List Stg)(k:Nat):Prop:=∃l:List (List V),Own 5 104 N0 h N u l∧l.length=k∧∀(j:Nat) (s:Stg),j<k→g[j]?=some s→∃inp,l[j]?=some (Zb9 s inp)∧Cp h N inp (strs s.inputs)
def PgB.keep{h':T O}{N0 N':Nat}{g:List Stg}{k:Nat}(s:PgB h N0 N u g k)(kk:Keeps h N h' N'):PgB h' N0 N' u g k:=by
 obtain⟨l,h1,h2,h3⟩:=s
 refine⟨l,h1.keep kk,h2,fun j s hj hs=>?_⟩
 obtain⟨inp,h4,h5⟩:=h3 j s hj hs
 exact⟨inp,h4,h5.keep kk⟩
def PgB.gr{N0:Nat}{g:List Stg}(s:PgB h N0 N u g g.length):Gr h N u g:=by
 obtain⟨l,h1,h2,h3⟩:=s
 refine⟨l,h1.sn,h2,fun j s hs=>?_⟩
 obtain⟨inp,h4,h5⟩:=h3 j s (Zaz hs) hs
 exact⟨inp,h4,h5.sl⟩
def PgB.step{N0:Nat}{x inp:V}{g:List Stg}{k:Nat}{s:Stg}{w:List Nat}(p:PgB h N0 N u g k)(hN:N0≤N)(hs:g[k]?=some s)(hi:Cp h N inp (strs s.inputs))(hu:Zax ⟨h,N,w⟩ 5 x=some (1,Zb9 s inp))(hk:k<1000):
  ∃v' h' w',Zbp ⟨h,N,w⟩ 5 80 104 u x=some (v',⟨h',N+1,w'⟩)∧Zad N0 w'=Zad N0 w∧Keeps h N0 h' (N+1)∧PgB h' N0 (N+1) v' g (k+1):=by
 obtain⟨l,h1,h2,h3⟩:=p
 obtain⟨v',h',w',e1,e2,e3,e4,e5⟩:=Zbi (x:=Zb9 s inp) (u:=x) (bytes:=80) (w:=w) h1 hN (by decide) rfl hu (by omega)
 have hcp:∀{i:V} {m:List V},Cp h N i m→Cp h' (N+1) i m:=by
  rintro i m ⟨j,c,q1,q2,q3,q4⟩
  refine⟨j,c,q1,by omega,?_,q4⟩
  rcases e4 j with e|e|⟨o,n,c',q,e⟩
  ·rw[e];exact q3
  ·omega
  ·obtain⟨_,⟨_,hn⟩|⟨i',hv,_,_,hrow⟩⟩:=h1
   ·rw[e]at hn;cases hn
   ·rw[e]at hv
    simp only[V.slice.injEq]at hv
    rw[←hv.1,q3]at hrow
    simp at hrow
 refine⟨v',h',w',e1,e2,e3,l++[Zb9 s inp],e5,by simp[h2],fun j t hj ht=>?_⟩
 by_cases hjk:j<k
 ·obtain⟨i,q1,q2⟩:=h3 j t hjk ht
  exact⟨i,by rw[Yss (by omega)];exact q1,hcp q2⟩
 ·have:j=k:=by omega
  subst this
  obtain rfl:=Ysx (hs.symm.trans ht)
  exact⟨inp,by rw[Ys6 (by omega)];simp[h2],hcp hi⟩
def Zw9{v:V}{g:List Stg}(hg:Gr h N v g)(hl:g.length<1000)(hil:∀s∈g,s.inputs.length<1000):Fn A.C 8 [v] h N (fun u h' n'=>Gr h' n' u g):=by
 intro w
 have lg:=hg.len
 rw[Zac,A.k8 (by simp)]
 simp(disch:=first|(simp;done)|omega|rfl) [-getElem?_pos,A.b8,lg]
 refine Zai [(3,3),(5,6),(9,23)] (fun e r st=>e=.exit 0∧Zad N st.w=[]∧Keeps h N st.h st.n∧∃u,r.get 3=some u∧PgB st.h N st.n u g g.length) (fun m r st=>Zad N st.w=[]∧Keeps h N st.h st.n∧∃k u,k+m=g.length∧r.get 9=some (.int .i64 k)∧r.get 3=some u∧PgB st.h N st.n u g k) g.length ?_ ?_ ?_
 ·exact⟨by simp,Keeps.refl,0,.nilslice,by omega,by simp,by simp,[],Own.nil,rfl,fun j s hj=>by omega⟩
 ·rintro m r ⟨H,n1,W⟩ hr hf2 ⟨hW,hK,k,u,hk,h9,h3,ho⟩
  simp only at hW hK ho
  rw[Zaj]
  cases m with
  |zero=>
   have:k=g.length:=by omega
   subst this
   simp(disch:=first|(simp;done)|omega|rfl) [-getElem?_pos,A.lb8_0,hr,hf2,h9,hW,hK]
   exact⟨u,h3,ho⟩
  |succ m=>
   have hlt:k<g.length:=by omega
   obtain⟨s,hs⟩:=Zag hlt
   obtain⟨i,o,cc,e,rw,inp,q1,q2,q3,q4,q5⟩:=(hg.keep hK).at hs
   have hk1:(k:Int)<(g.length:Int):=by omega
   have hio:=q5.form.one
   unfold V.one at hio
   have d1:¬i=n1:=by omega
   have nle:=hK.le
   have hZ:=Zb9 s inp
   simp(disch:=first|(simp;done)|omega|rfl) [-getElem?_pos,A.lb8_0,hr,hf2,h9,h3,hk1,hlt,lg,q1,q3,q4,Zb9,hio,d1,splice,Zal]
   have K1:=((((Keeps.refl (h:=H) (n:=n1)).new (.cells [.str [],.str [],.str [],.nilslice,.int .i64 0] 47 true)).set (i:=n1) (o:=.cells [.str s.name,.str s.op,.str s.factor,inp,.int .i64 s.cost] 47 true) (Yr4 n1)).new (.cells [.str [],.str [],.str [],.nilslice,.int .i64 0] 104 true)).set (i:=n1+1) (o:=.cells [.str s.name,.str s.op,.str s.factor,inp,.int .i64 s.cost] 104 true) (by omega)
   have K2:=K1.new (.cells [] 9 true)
   obtain⟨v2,h2,n2,e1,e2,e3⟩:=Zup (w:=(n1+1)::n1::W) (i:=n1+1+1) (by simp) (by omega) (q5.keep K2) (by rw[Zby];have:=hil s (Yr8 hs);omega)
   rw[e1]
   have f6:=e2.get (n1+1) (by omega)
   simp at f6
   have e2le:=e2.le
   have e3':=e3
   obtain⟨j,c,rfl,j1,j2,j3⟩:=e3
   have hH2:=(K2.trans e2).set (i:=n1+1) (o:=.cells (Zb9 s (.slice j 0 (strs s.inputs).length c 1)) 104 true) (by omega)
   have d2:¬n1+1=j:=fun hc=>by rw[←hc,f6]at j2;simp at j2
   have d3:n1+1<n2:=by omega
   have d4:¬n1+1=n2:=by omega
   have d5:¬n2=n1+1:=by omega
   simp(disch:=first|(simp;done)|omega|rfl) [-getElem?_pos,hr,hf2,h9,h3,f6,splice,Zal,d3,d4,d5]
   have hc2:Cp (h2.set (n1+1) (.cells [.str s.name,.str s.op,.str s.factor,.slice j 0 s.inputs.length c 1,.int .i64 s.cost] 104 true)) n2 (.slice j 0 s.inputs.length c 1) (strs s.inputs):=by
    refine⟨j,c,by rw[Zby],j1,?_,j3⟩
    rw[T.get_set,Yr3 (fun h=>d2 h.symm)];exact j2
   unfold Zb9 at hH2
   rw[Zby]at hH2
   have ho2:=(ho.keep hH2).keep ((Keeps.refl).new (.cells [.str s.name,.str s.op,.str s.factor,.slice j 0 s.inputs.length c 1,.int .i64 s.cost] 104 true))
   obtain⟨v3,h4,w4,a1,a2,a3,a4⟩:=ho2.step (x:=.slice n2 0 1 (some 1) 5) (w:=(n1+1)::(n1+1)::n1::W) (by omega) hs (hc2.keep (Keeps.refl.new _)) (by simp[Zax,St.row,Zb9,slc]) (by omega)
   rw[a1]
   have wok:¬n1<N:=by omega
   have wok2:¬n1+1<N:=by omega
   have a2':Zad N w4=[]:=by rw[a2];simp[Zad,hW,wok,wok2]
   simp(disch:=first|(simp;done)|omega|rfl) [-getElem?_pos,hr,hf2,h9,a2']
   exact⟨m,by omega,((hK.trans hH2).new _).then a3,k+1,by omega,by simp,a4⟩
 ·rintro _ r ⟨H,n1,W⟩ hr ⟨rfl,hW,hK,u,h3,ho⟩
  simp only at hW hK ho
  simp(disch:=first|(simp;done)|omega|rfl) [-getElem?_pos,hr,h3,Ret,hW,hK]
  exact ho.gr
set_option maxHeartbeats 8000000
def A.b3:Zah:=sr [ge 4 (.mov (.const (.bool false)))]
 (.seq (sr [mv 9 0,c1 10 4 9,ge 11 (.un .not (tq 10)),mv 12 11,mh 13 1 12,gz 14 12 (.call (fq 5) [tq 13]),gz 15 12 (.un .not (tq 14)),pt 16 12 15]
 (cd 16
 (sr [ge 17 (.call (fq 6) []),mv 4 17]
 (.ret))
 (.skip)))
 (sr [mv 19 0,c1 20 8 19,mv 21 1,c1 22 9 21,c2 23 7 20 22,mv 18 23,xt 24 18 0,xt 25 18 1,mv 5 24,mv 6 25]
 (sr [mv 26 0,c1 27 11 26,mv 28 1,c1 29 12 28,ge 30 (.bslice 3 1 2 [.int .i64 0,.int .i64 0] [(0,1,(tq 27)),(1,1,(tq 29))]),c1 31 10 30,mv 7 31]
 (sr [mN 8]
 (.seq (sr [mv 32 7,ei 33 32 0]
 (cd 33
 (.reg [mv 35 0,mv 36 1,c2 37 13 35 36,mv 34 37,xt 38 34 0,xt 39 34 1,mv 8 38,mv 7 39])
 (.skip)))
 (sr [mv 40 1,c1 41 9 40,c1 42 14 41,mv 43 1,c1 44 12 43,ge 45 (.bin .eql (.prim .int) false (tq 42) (tq 44)),mv 46 45,mg 47 5 46,mg 48 8 46,gy 49 46 (.call (fq 15) [tq 47,tq 48]),pf 50 46 49,mv 51 50,mg 52 6 51,mg 53 7 51,gy 54 51 (.bin .eql (.prim .int) false (tq 52) (tq 53)),pf 55 51 54,mv 56 55,gy 57 56 (.call (fq 6) []),pf 58 56 57,mv 4 58]
 (.ret)))))))
def A.c3:A.F 3=some ⟨59,[.tmp 4],A.b3⟩:=by kernel_rfl
def A.k3:=@A.kk 3 _ _ _ A.c3 rfl
def Zj9{h:T O}{N:Nat}{w:List Nat}(hP:P10 h N):A.C.call (.func 6 [] []) [] ⟨h,N,w⟩=some (.bool true,⟨h,N,w⟩):=by
 exact A.known hP.2
def Zs1{g:List Stg}(h:Zk4 g=true):g.length≤17∧(∀s∈g,s.factor.length≤20∧s.inputs.length≤17):=by
 unfold Zk4 at h
 rw[Ysp,decide_eq_true_eq,Ys4]at h
 refine⟨by omega,fun s hs=>?_⟩
 have:=h.2 s hs
 unfold Zbs at this
 rw[Ysp,decide_eq_true_eq]at this
 omega
def Zw1{l:List FmR}(h:Zk5 l=true):l.length≤257∧∀f∈l,f.val.length≤20:=by
 unfold Zk5 at h
 rw[Ysp,decide_eq_true_eq,Ys4]at h
 exact⟨by omega,fun f hf=>by simpa[shF]using h.2 f hf⟩
def Zta{h:T O}{N:Nat}{u v:V}{g:List Stg}{l:List FmR}(hg:Gr h N u g)(hgl:g.length<9223372036854775808)(hin:∀s∈g,s.inputs.length<9223372036854775808)(hs:Sn 4 h N v (l.map fmC))(hll:l.length<9223372036854775808)(hP:P10 h N):Fn A.C 3 [u,v] h N (fun x _ _=>x=.bool true):=by
 intro w
 rw[Zac,A.k3 (by simp)]
 have hsh:=fun w=>Yet (w:=w) hg hgl hin
 have hsf:=fun w=>Zz0 (w:=w) hs hll
 have haw:=fun w=>Zj9 (w:=w) hP
 cases hsg:Zk4 g with
 |false=>
  rw[hsg]at hsh
  simp(disch:=first|(simp;done)|omega|rfl) [-getElem?_pos,A.b3,hsh,haw,Ret]
  exact Keeps.refl
 |true=>
  rw[hsg]at hsh
  cases hsl:Zk5 l with
  |false=>
   rw[hsl]at hsf
   simp(disch:=first|(simp;done)|omega|rfl) [-getElem?_pos,A.b3,hsh,hsf,haw,Ret]
   exact Keeps.refl
  |true=>
   rw[hsl]at hsf
   obtain⟨h17,hfew⟩:=Zs1 hsg
   obtain⟨l257,hv⟩:=Zw1 hsl
   have hPg:Yp9 g:=fun s hs=>⟨(hfew s hs).1,by have:=(hfew s hs).2;omega⟩
   have hR:Yqf g:=hPg
   have hi3:∀s∈g,s.inputs.length<1000:=fun s hs=>by have:=(hfew s hs).2;omega
   have hv5:∀f∈l,f.val.length≤100000:=fun f hf=>by have:=hv f hf;omega
   simp(disch:=first|(simp;done)|omega|rfl) [-getElem?_pos,A.b3,hsh,hsf]
   refine Zaf (Zw9 hg (by omega) hi3) ?_
   rintro u1 h1 n1 k1 hg1
   simp(disch:=first|(simp;done)|omega|rfl) [-getElem?_pos,]
   refine Zaf (Zjy (hs.keepz k1) (by omega)) ?_
   rintro u2 h2 n2 k2 hs2
   have kk2:=k1.trans k2
   simp(disch:=first|(simp;done)|omega|rfl) [-getElem?_pos,]
   refine Zaf (Yfe (hg1.keep k2) (by omega) hPg hs2 hv (by omega) (hP.keep kk2)) ?_
   rintro x h3 n3 k3 hx
   have kk3:=kk2.trans k3
   rcases hx with⟨h0,rfl⟩|⟨h0,hq,rfl⟩|⟨h0,z,out,hq,rfl,hz,hol,hoq⟩
   ·skip
    simp(disch:=first|(simp;done)|omega|rfl) [-getElem?_pos,]
    refine Zaf (Zmh (hg.keep kk3) (by omega) hR) ?_
    rintro _ h4 n4 k4 rfl
    have kk4:=kk3.trans k4
    simp(disch:=first|(simp;done)|omega|rfl) [-getElem?_pos,]
    refine Zaf (Zkp (hs.keepz kk4) hv5 (by omega)) ?_
    rintro _ h5 n5 k5 rfl
    have kk5:=kk4.trans k5
    have le5:=k5.le
    have pf:=fun w=>Zpl (h:=h5) (N:=n5+1) (i:=n5) (w:=w) (a0:=((chkGraph g:Nat):Int)) (a1:=Zcu l) (by omega)
    rw[show Zan [((chkGraph g:Nat):Int),Zcu l]=Yd4 g l from rfl]at pf
    have kX:Keeps h5 n5 (h5.set n5 (.cells [.int .i64 ((chkGraph g:Nat):Int),.int .i64 (Zcu l)] 3 true)) (n5+1):=Keeps.refl.new _
    have kk6:=kk5.trans kX
    have wn5:¬n5<N:=by have:=kk5.le;omega
    simp(disch:=first|(simp;done)|omega|rfl) [-getElem?_pos,pf,splice,h0,Zae]
    refine Zaf (Zjy (hs.keepz kk6) (by omega)) ?_
    rintro u8 h8 n8 k8 hs8
    have kk8:=kk6.trans k8
    simp(disch:=first|(simp;done)|omega|rfl) [-getElem?_pos,]
    refine Zaf (Zwg hs8 hv5 (by omega)) ?_
    rintro _ h9 n9 k9 rfl
    have kk9:=kk8.trans k9
    simp(disch:=first|(simp;done)|omega|rfl) [-getElem?_pos,]
    refine Zaf (Zkp (hs.keepz kk9) hv5 (by omega)) ?_
    rintro _ h10 n10 k10 rfl
    have hrw:=fun w=>Zpj (w:=w) (h:=h10) (N:=n10) (u:=.nilslice) (v:=.nilslice) (m:=[]) ⟨[],.inl ⟨rfl,.inl rfl⟩,rfl,fun j l hl=>by simp at hl⟩ ⟨[],.inl ⟨rfl,.inl rfl⟩,rfl,fun j l hl=>by simp at hl⟩ (by simp) (by simp)
    have haw:=fun w=>Zj9 (w:=w) (hP.keep (kk9.trans k10))
    simp(disch:=first|(simp;done)|omega|rfl) [-getElem?_pos,Zae,hrw,haw,Ret,wn5]
    exact kk9.trans k10
   ·obtain⟨c1,c2⟩:=Yav h0
    have hG:=Zhe c1
    have hvz:=(Zkw c2).2
    simp(disch:=first|(simp;done)|omega|rfl) [-getElem?_pos,]
    refine Zaf (Zmh (hg.keep kk3) (by omega) hR) ?_
    rintro _ h4 n4 k4 rfl
    have kk4:=kk3.trans k4
    simp(disch:=first|(simp;done)|omega|rfl) [-getElem?_pos,]
    refine Zaf (Zkp (hs.keepz kk4) hv5 (by omega)) ?_
    rintro _ h5 n5 k5 rfl
    have kk5:=kk4.trans k5
    have le5:=k5.le
    have pf:=fun w=>Zpl (h:=h5) (N:=n5+1) (i:=n5) (w:=w) (a0:=((chkGraph g:Nat):Int)) (a1:=Zcu l) (by omega)
    rw[show Zan [((chkGraph g:Nat):Int),Zcu l]=Yd4 g l from rfl]at pf
    have kX:Keeps h5 n5 (h5.set n5 (.cells [.int .i64 ((chkGraph g:Nat):Int),.int .i64 (Zcu l)] 3 true)) (n5+1):=Keeps.refl.new _
    have kk6:=kk5.trans kX
    have wn5:¬n5<N:=by have:=kk5.le;omega
    simp(disch:=first|(simp;done)|omega|rfl) [-getElem?_pos,pf,splice,h0,Zae]
    refine Zaf (Zvb (hg.keep kk6) hG (fun s hs=>(hfew s hs).1) (hs.keepz kk6) hvz (by omega)) ?_
    rintro y h7 n7 k7 hy
    obtain rfl:y=.tup [.nilslice,.int .i64 4]:=by
     rcases hy with⟨_,rfl⟩|⟨_,_,h1,_⟩
     ·rfl
     ·rw[hq]at h1;cases h1
    have kk7:=kk6.trans k7
    simp(disch:=first|(simp;done)|omega|rfl) [-getElem?_pos,]
    refine Zaf (Zjy (hs.keepz kk7) (by omega)) ?_
    rintro u8 h8 n8 k8 hs8
    have kk8:=kk7.trans k8
    simp(disch:=first|(simp;done)|omega|rfl) [-getElem?_pos,]
    refine Zaf (Zwg hs8 hv5 (by omega)) ?_
    rintro _ h9 n9 k9 rfl
    have kk9:=kk8.trans k9
    simp(disch:=first|(simp;done)|omega|rfl) [-getElem?_pos,]
    refine Zaf (Zkp (hs.keepz kk9) hv5 (by omega)) ?_
    rintro _ h10 n10 k10 rfl
    have hrw:=fun w=>Zpj (w:=w) (h:=h10) (N:=n10) (u:=.nilslice) (v:=.nilslice) (m:=[]) ⟨[],.inl ⟨rfl,.inl rfl⟩,rfl,fun j l hl=>by simp at hl⟩ ⟨[],.inl ⟨rfl,.inl rfl⟩,rfl,fun j l hl=>by simp at hl⟩ (by simp) (by simp)
    have haw:=fun w=>Zj9 (w:=w) (hP.keep (kk9.trans k10))
    simp(disch:=first|(simp;done)|omega|rfl) [-getElem?_pos,Zae,hrw,haw,Ret,wn5]
    exact kk9.trans k10
   ·obtain⟨c1,c2⟩:=Yav h0
    have hG:=Zhe c1
    have g16:=hG.v.le
    have hvz:=(Zkw c2).2
    have hrl:∀r∈out,r.length<100000:=fun r hr=>by have:=(hoq r hr).1;omega
    simp(disch:=first|(simp;done)|omega|rfl) [-getElem?_pos,]
    refine Zaf (Zmh (hg.keep kk3) (by omega) hR) ?_
    rintro _ h4 n4 k4 rfl
    have kk4:=kk3.trans k4
    simp(disch:=first|(simp;done)|omega|rfl) [-getElem?_pos,]
    refine Zaf (Zkp (hs.keepz kk4) hv5 (by omega)) ?_
    rintro _ h5 n5 k5 rfl
    have kk5:=kk4.trans k5
    have le5:=k5.le
    have pf:=fun w=>Zpl (h:=h5) (N:=n5+1) (i:=n5) (w:=w) (a0:=((chkGraph g:Nat):Int)) (a1:=Zcu l) (by omega)
    rw[show Zan [((chkGraph g:Nat):Int),Zcu l]=Yd4 g l from rfl]at pf
    have kX:Keeps h5 n5 (h5.set n5 (.cells [.int .i64 ((chkGraph g:Nat):Int),.int .i64 (Zcu l)] 3 true)) (n5+1):=Keeps.refl.new _
    have kk6:=kk5.trans kX
    have wn5:¬n5<N:=by have:=kk5.le;omega
    simp(disch:=first|(simp;done)|omega|rfl) [-getElem?_pos,pf,splice,h0,Zae]
    refine Zaf (Zvb (hg.keep kk6) hG (fun s hs=>(hfew s hs).1) (hs.keepz kk6) hvz (by omega)) ?_
    rintro y h7 n7 k7 hy
    obtain⟨z2,rfl,hz2⟩:∃z2,y=.tup [z2,.int .i64 0]∧TxM h7 n7 z2 out:=by
     rcases hy with⟨h1,_⟩|⟨z2,out2,h1,rfl,h2,_⟩
     ·rw[hq]at h1;cases h1
     ·rw[hq]at h1;obtain rfl:=Ysx h1;exact⟨z2,rfl,h2⟩
    have kk7:=kk6.trans k7
    simp(disch:=first|(simp;done)|omega|rfl) [-getElem?_pos,]
    refine Zaf (Zjy (hs.keepz kk7) (by omega)) ?_
    rintro u8 h8 n8 k8 hs8
    have kk8:=kk7.trans k8
    simp(disch:=first|(simp;done)|omega|rfl) [-getElem?_pos,]
    refine Zaf (Zwg hs8 hv5 (by omega)) ?_
    rintro _ h9 n9 k9 rfl
    have kk9:=kk8.trans k9
    simp(disch:=first|(simp;done)|omega|rfl) [-getElem?_pos,]
    refine Zaf (Zkp (hs.keepz kk9) hv5 (by omega)) ?_
    rintro _ h10 n10 k10 rfl
    have hrw:=fun w=>Zpj (w:=w) ((((((hz.keep k4).keep k5).keep kX).keep k7).keep ((k8.trans k9).trans k10))) (hz2.keep ((k8.trans k9).trans k10)) (by omega) hrl
    have haw:=fun w=>Zj9 (w:=w) (hP.keep (kk9.trans k10))
    simp(disch:=first|(simp;done)|omega|rfl) [-getElem?_pos,Zae,hrw,haw,Ret,wn5]
    exact kk9.trans k10
open Go
inductive Zll where
 |nil
 |emp (b:Addr)
 |sl (b:Addr) (l c:Nat) (f:Nat→ByteArray)
def Zll.val:Zll→Value
 |.nil=>.slice none 0 0
 |.emp b=>.slice (some b) 0 0
 |.sl b l c f=>.slice (some b) l c
def Zll.ok(W:World):Zll→Prop
 |.sl b l c f=>l≤c∧0<c∧∀i,i<c→W.cell? (b.add i)=some (.string (f i))
 |_=>True
def Zll.strs:Zll→List Str
 |.sl b l c f=>(List.range l).map fun i=>(f i).data.toList
 |_=>[]
def eOf(W:World)(a:Addr):TypeId:=match W.heap[a.block]? with
 |some (.cells _ e _)=>e
 |_=>0
def Zwh{W:World}{a:Addr}{n:Nat}{f:Nat→Value}(hn:0<n)(hc:∀i,i<n→W.cell? (a.add i)=some (f i)):
  ∃c' lo hi,W.heap[a.block]?=some (.cells c' (eOf W a) (lo,hi))∧a.spot=none∧(∀i,i<n→c'[a.off+i]?=some (f i))∧a.off+n≤c'.size∧a.block<W.heap.size:=by
 have h0:=hc 0 hn
 have ha0:a.add 0=a:=by simp[Addr.add]
 rw[ha0]at h0
 obtain⟨c',e,fr,hb⟩:∃c' e fr,W.heap[a.block]?=some (.cells c' e fr):=by
  unfold World.cell? at h0
  split at h0
  ·rename_i c' e fr hb;exact⟨c',e,fr,hb⟩
  ·cases h0
 have hs:a.spot=none:=by
  unfold World.cell? at h0
  rw[hb]at h0
  simp only at h0
  split at h0
  ·cases h0
  ·rename_i h;simpa using h
 have hcell:∀i,i<n→c'[a.off+i]?=some (f i):=fun i hi=>by
  have:=hc i hi
  unfold World.cell? at this
  have e1:(a.add i).block=a.block:=by unfold Addr.add;split<;>rfl
  have e2:(a.add i).off=a.off+i:=by unfold Addr.add;split<;>simp_all
  have e3:(a.add i).spot=none:=by unfold Addr.add;split<;>simp_all
  rw[e1,hb]at this
  simp only[e2,e3,Option.isSome_none,Yse,if_false]at this
  exact this
 have hlt:a.block<W.heap.size:=by
  rcases Nat.lt_or_ge a.block W.heap.size with h|h
  ·exact h
  ·rw[Array.getElem?_eq_none h]at hb;cases hb
 have hend:a.off+n≤c'.size:=by
  have:=hcell (n-1) (by omega)
  have h2:=(Array.getElem?_eq_some_iff.1 this).1
  omega
 obtain⟨lo,hi⟩:=fr
 exact⟨c',lo,hi,by rw[hb];simp[eOf,hb],hs,hcell,hend,hlt⟩
structure Yoq where
 a:Addr
 n:Nat
 f:Nat→Value
 g:Nat→V
def Yoq.ok(W:World)(r:Yoq):Prop:=0<r.n∧(∀i,i<r.n→W.cell? (r.a.add i)=some (r.f i))∧∀i,i<r.n→(r.f i).oneCell'=true
def Zqu{P:Program}{tbl:Nat→Option Zeh}{G:Nat}(hP:Zlc P tbl G){x:Za1}(hx:Zbw P x){F d:Nat}{f:FuncId}{mf:Zeh}(hf:Zlj P f=some mf){args:List V}{xs:List Value}{v:V}{y:Value}{S:St}{μ:Mu}{W:World}
  (h:Yoc (Zf9 mf (Zbd (Zgl x tbl F d) F) args S) v) (hh:Za8 P μ W S) (hS:S.w=[]) (hargs:VRs μ args xs) (hv:∀μ z,VR μ v z→z=y):
  Calls P f ⟨xs⟩ W fun e W'=>e=.returned y∧RowKit.Below W.heap.size W W':=by
 obtain⟨s,hrun,hw⟩:=h.ex
 obtain⟨fn,hfn,_⟩:=Zwj hf
 have ih:=Zjt hP.m hP.e hP.t hx F d
 have:=Ycq (Ydg ih hP.e (Ycy hP.m hP.e ih) (Yhv ih hP.e) (Zvd ih) F) hfn hf hh hargs hrun
 refine callsIn_wide.1 (CallsIn.mono (F:=Fence.wide) this fun e W' he=>?_)
 cases e with
 |returned z=>
  obtain⟨μ',ws,h1,h2⟩:=he
  have hws:ws=[]:=by have:=h2.wl;rw[hw,hS]at this;simpa using this.symm
  subst hws
  exact⟨by rw[hv _ _ h1],h2.chg.os,h2.chg.tape,h2.chg.output,h2.chg.size,fun k hk=>h2.chg.block k hk fun i hi=>by cases hi⟩
 |panicked _=>exact he.elim
 |outgrown=>exact he.elim
def Cx.calls{P:Program}{C:Cx}{G:Nat}(hP:Zlc P C.tbl G)(hx:Zbw P C.x){f:Nat}{mf:Zeh}(hf:Zlj P f=some mf)(ht:C.tbl f=some mf){args:List V}{xs:List Value}{v:V}{y:Value}{S:St}{μ:Mu}{W:World}
  (hn:∀st,C.x (.func f [] []) args st=none) (h:Fn C f args S.h S.n (fun u _ _=>u=v)) (hh:Za8 P μ W S) (hS:S.w=[]) (hargs:VRs μ args xs) (hv:∀μ z,VR μ v z→z=y):
  Calls P f ⟨xs⟩ W fun e W'=>e=.returned y∧RowKit.Below W.heap.size W W':=by
 obtain⟨u,st',hc,hw,hk,hu⟩:=(h []).ex
 subst hu
 have hS':(⟨S.h,S.n,[]⟩:St)=S:=by obtain⟨a,b,c⟩:=S;simp only at hS;subst hS;rfl
 rw[hS']at hc
 rw[Cx.call_eq]at hc
 unfold Zed at hc
 rw[hn]at hc
 simp only at hc
 obtain⟨n,hn'⟩:=Zj8 (q:=fun n=>Zbd (C.at n) n) (fun n m hnm=>Zb3 (Cx.at_mono hnm) n m hnm) (fun _ _ _ _ _ e=>Cx.code_need e) hc
 unfold Zcs at hn'
 simp only[ht,List.nil_append,Yuy]at hn'
 exact Zqu (F:=n) (d:=n) hP hx hf ⟨_,hn',hw⟩ hh hS hargs hv
end Go.Mx
