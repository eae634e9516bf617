/-lensletref09-/
import Derived.Test.YtalhlaaapkpkiaaGreatDoorFlC
set_option linter.all false
namespace Go.Mx
open Go Go.Proofs
set_option maxRecDepth 1000000
noncomputable def A.w4:=A.q Tryz.f4
noncomputable def A.lb4_0:=A.ql A.w4 1 []
noncomputable def A.lb4_1:=(fun x0=>A.ql A.w4 0 [x0]) A.lb4_0
noncomputable def A.b4:=(fun x0=>A.qb A.w4 [x0]) A.lb4_1
def A.k4:=@A.kk 4 82 [.tmp 2] A.b4 (by kernel_rfl) rfl
def Ypo(h:T O)(N:Nat)(g:List Stg)(m:Nat)(r:T V)(st:St):Prop:=st=⟨h,N,[]⟩∧∃k,k+m=g.length∧r.get 3=some (.int .i64 k)∧g.all Zbr=(g.drop k).all Zbr
def Zov{h:T O}{N:Nat}{v:V}{g:List Stg}(hg:Gr h N v g)(hl:g.length<9223372036854775808)(hin:∀s∈g,s.inputs.length<9223372036854775808){r0:T V}(a0:r0.get 0=some v):
  ∀k r st,(∀t,inD [(2,4),(13,81)] t=false→r.get t=r0.get t)→Fx [(2,4),(13,81)] r0 82 ⟨r,82,[]⟩→Ypo h N g k r st→Code A.C none A.lb4_1 ⟨r,82,[]⟩ st (Rd [(2,4),(13,81)] r0 82 (Ypo h N g) k (fun e r st=>st=⟨h,N,[]⟩∧((e=.exit 0∧g.all Zbr=true)∨(e=.ret∧g.all Zbr=false∧r.get 2=some (.bool false))))):=by
 rintro m r _ hr hf ⟨rfl,k,hk,h3,hz⟩
 have lg:=hg.len
 rw[Zai]
 cases m with
 |zero=>
  have:k=g.length:=by omega
  subst this
  rw[Yub,List.all_nil]at hz
  simp(disch:=first|(simp;done)|omega|rfl) [-getElem?_pos,A.lb4_1,hr,hf,a0,h3,lg]
  simpa using hz
 |succ m=>
  have hlt:k<g.length:=by omega
  obtain⟨s,hs⟩:=Zag hlt
  obtain⟨i,o,cc,e,rw,inp,q1,q2,q3,q4,q5⟩:=hg.at hs
  obtain⟨p0,p1,p2,p3,p4,p5⟩:=Zms q4
  have hk1:(k:Int)<(g.length:Int):=by omega
  have lz:=q5.len
  rw[Zbv]at lz
  have hinl:=hin s (Ys9 hs)
  rw[Zap hs,List.all_cons]at hz
  have fal:∀(hc:Zbr s=false),g.all Zbr=false:=fun hc=>by rw[hz,hc];rfl
  by_cases c1:s.name.length≤40
  ·have c1':¬40<(s.name.length:Int):=by omega
   by_cases c2:s.op.length≤40
   ·have c2':¬40<(s.op.length:Int):=by omega
    by_cases c3:s.factor.length≤20
    ·have c3':¬20<(s.factor.length:Int):=by omega
     by_cases c4:s.inputs.length≤5∨s.inputs.length=17
     ·have hss:Zbr s=s.inputs.all (fun n=>decide (n.length≤40)):=by simp[Zbr,c1,c2,c3,c4]
      rcases c4 with c4|c4
      ·have c4':¬5<(s.inputs.length:Int):=by omega
       simp(disch:=first|(simp;done)|omega|rfl) [-getElem?_pos,A.lb4_1,hr,hf,a0,h3,hk1,hlt,lg,q1,q3,p1,p2,p3,p4,lz,c1',c2',c3',c4']
       refine Zah [(2,2),(4,4),(62,81)] (fun e r st=>st=⟨h,N,[]⟩∧((e=.exit 2∧Zbr s=true)∨(e=.ret∧Zbr s=false∧r.get 2=some (.bool false)))) (fun m r st=>st=⟨h,N,[]⟩∧∃t,t+m=s.inputs.length∧r.get 4=some (.int .i64 t)∧Zbr s=(s.inputs.drop t).all (fun n=>decide (n.length≤40))) s.inputs.length ?_ ?_ ?_
       ·exact⟨rfl,0,by omega,by simp,by simpa using hss⟩
       ·rintro m2 r2 _ hr2 hf2 ⟨rfl,t,ht,h4,hz2⟩
        rw[Zai]
        cases m2 with
        |zero=>
         have:t=s.inputs.length:=by omega
         rw[this,Yub,List.all_nil]at hz2
         rw[this]at h4
         simp(disch:=first|(simp;done)|omega|rfl) [-getElem?_pos,A.lb4_0,hr,hr2,hf2,a0,h3,h4,hk1,hlt,lg,q1,q3,p4,lz,hz2]
        |succ m2=>
         have htl:t<s.inputs.length:=by omega
         have htl':(t:Int)<(s.inputs.length:Int):=by omega
         obtain⟨n,hn⟩:=Zag htl
         obtain⟨b1,b2,b3,b4,b5,z1,z2,z3,z4⟩:=q5.at (Zb3 hn)
         rw[Zap hn,List.all_cons]at hz2
         by_cases cn:n.length≤40
         ·have cn':¬40<(n.length:Int):=by omega
          simp(disch:=first|(simp;done)|omega|rfl) [-getElem?_pos,A.lb4_0,hr,hr2,hf2,a0,h3,h4,hk1,hlt,htl,htl',lg,q1,q3,p4,lz,z1,z3,z4,cn']
          exact⟨m2,by omega,t+1,by omega,by simp,by rw[hz2];simp[cn]⟩
         ·have cn':40<(n.length:Int):=by omega
          have hq:Zbr s=false:=by rw[hz2];simp[cn]
          simp(disch:=first|(simp;done)|omega|rfl) [-getElem?_pos,A.lb4_0,hr,hr2,hf2,a0,h3,h4,hk1,hlt,htl,htl',lg,q1,q3,p4,lz,z1,z3,z4,cn',hq]
       ·rintro e r2 _ hr2 ⟨rfl,⟨rfl,hq⟩|⟨rfl,hq,h2⟩⟩
        ·have hfi:=hf.inner (D':=[(2,2),(4,4),(62,81)]) rfl (by simp) hr2
         have hz':g.all Zbr=(g.drop (k+1)).all Zbr:=by rw[hz,hq];simp
         simp(disch:=first|(simp;done)|omega|rfl) [-getElem?_pos,hr,hr2,h3,hfi]
         exact⟨m,by omega,rfl,k+1,by omega,by simp,hz'⟩
        ·have hfi:=hf.inner (D':=[(2,2),(4,4),(62,81)]) rfl (by simp) hr2
         have hq':=fal hq
         simp(disch:=first|(simp;done)|omega|rfl) [-getElem?_pos,hr,hr2,h2,hfi]
         simpa using hq'
      ·have c4':5<(s.inputs.length:Int):=by omega
       have c5':(s.inputs.length:Int)=17:=by omega
       simp(disch:=first|(simp;done)|omega|rfl) [-getElem?_pos,A.lb4_1,hr,hf,a0,h3,hk1,hlt,lg,q1,q3,p1,p2,p3,p4,lz,c1',c2',c3',c4',c4,Zad]
       refine Zah [(2,2),(4,4),(62,81)] (fun e r st=>st=⟨h,N,[]⟩∧((e=.exit 2∧Zbr s=true)∨(e=.ret∧Zbr s=false∧r.get 2=some (.bool false)))) (fun m r st=>st=⟨h,N,[]⟩∧∃t,t+m=s.inputs.length∧r.get 4=some (.int .i64 t)∧Zbr s=(s.inputs.drop t).all (fun n=>decide (n.length≤40))) s.inputs.length ?_ ?_ ?_
       ·exact⟨rfl,0,by omega,by simp,by simpa using hss⟩
       ·rintro m2 r2 _ hr2 hf2 ⟨rfl,t,ht,h4,hz2⟩
        rw[Zai]
        cases m2 with
        |zero=>
         have:t=s.inputs.length:=by omega
         rw[this,Yub,List.all_nil]at hz2
         rw[this]at h4
         simp(disch:=first|(simp;done)|omega|rfl) [-getElem?_pos,A.lb4_0,hr,hr2,hf2,a0,h3,h4,hk1,hlt,lg,q1,q3,p4,lz,hz2]
        |succ m2=>
         have htl:t<s.inputs.length:=by omega
         have htl':(t:Int)<(s.inputs.length:Int):=by omega
         obtain⟨n,hn⟩:=Zag htl
         obtain⟨b1,b2,b3,b4,b5,z1,z2,z3,z4⟩:=q5.at (Zb3 hn)
         rw[Zap hn,List.all_cons]at hz2
         by_cases cn:n.length≤40
         ·have cn':¬40<(n.length:Int):=by omega
          simp(disch:=first|(simp;done)|omega|rfl) [-getElem?_pos,A.lb4_0,hr,hr2,hf2,a0,h3,h4,hk1,hlt,htl,htl',lg,q1,q3,p4,lz,z1,z3,z4,cn']
          exact⟨m2,by omega,t+1,by omega,by simp,by rw[hz2];simp[cn]⟩
         ·have cn':40<(n.length:Int):=by omega
          have hq:Zbr s=false:=by rw[hz2];simp[cn]
          simp(disch:=first|(simp;done)|omega|rfl) [-getElem?_pos,A.lb4_0,hr,hr2,hf2,a0,h3,h4,hk1,hlt,htl,htl',lg,q1,q3,p4,lz,z1,z3,z4,cn',hq]
       ·rintro e r2 _ hr2 ⟨rfl,⟨rfl,hq⟩|⟨rfl,hq,h2⟩⟩
        ·have hfi:=hf.inner (D':=[(2,2),(4,4),(62,81)]) rfl (by simp) hr2
         have hz':g.all Zbr=(g.drop (k+1)).all Zbr:=by rw[hz,hq];simp
         simp(disch:=first|(simp;done)|omega|rfl) [-getElem?_pos,hr,hr2,h3,hfi]
         exact⟨m,by omega,rfl,k+1,by omega,by simp,hz'⟩
        ·have hfi:=hf.inner (D':=[(2,2),(4,4),(62,81)]) rfl (by simp) hr2
         have hq':=fal hq
         simp(disch:=first|(simp;done)|omega|rfl) [-getElem?_pos,hr,hr2,h2,hfi]
         simpa using hq'
     ·have c4':5<(s.inputs.length:Int):=by omega
      have c5':¬(s.inputs.length:Int)=17:=by omega
      have c5:¬s.inputs.length=17:=by omega
      have hq:=fal (by simp[Zbr,c4])
      simp(disch:=first|(simp;done)|omega|rfl) [-getElem?_pos,A.lb4_1,hr,hf,a0,h3,hk1,hlt,lg,q1,q3,p1,p2,p3,p4,lz,c1',c2',c3',c4',c5,c5',Zad]
      simpa using hq
    ·have c3':20<(s.factor.length:Int):=by omega
     have hq:=fal (by simp[Zbr,c3])
     simp(disch:=first|(simp;done)|omega|rfl) [-getElem?_pos,A.lb4_1,hr,hf,a0,h3,hk1,hlt,lg,q1,q3,p1,p2,p3,p4,lz,c1',c2',c3']
     simpa using hq
   ·have c2':40<(s.op.length:Int):=by omega
    have hq:=fal (by simp[Zbr,c2])
    simp(disch:=first|(simp;done)|omega|rfl) [-getElem?_pos,A.lb4_1,hr,hf,a0,h3,hk1,hlt,lg,q1,q3,p1,p2,p3,p4,lz,c1',c2']
    simpa using hq
  ·have c1':40<(s.name.length:Int):=by omega
   have hq:=fal (by simp[Zbr,c1])
   simp(disch:=first|(simp;done)|omega|rfl) [-getElem?_pos,A.lb4_1,hr,hf,a0,h3,hk1,hlt,lg,q1,q3,p1,p2,p3,p4,lz,c1']
   simpa using hq
def Yfk{h:T O}{N:Nat}{v:V}{g:List Stg}{w:List Nat}(hg:Gr h N v g)(hl:g.length<9223372036854775808)(hin:∀s∈g,s.inputs.length<9223372036854775808):A.C.call (.func 4 [] []) [v] ⟨h,N,w⟩=some (.bool (Zlb g),⟨h,N,w⟩):=by
 apply Call.eq
 have lg:=hg.len
 rw[Zae,A.k4 (by simp)]
 by_cases hlen:g.length≤6∨g.length=17
 ·have hsg:Zlb g=g.all Zbr:=by simp[Zlb,hlen]
  rw[hsg]
  have key:∀(K:List Kf) (r0:T V) (Q:Rs→Prop),True:=fun _ _ _=>trivial
  rcases hlen with hl6|hl17
  ·have a1:¬6<(g.length:Int):=by omega
   simp(disch:=first|(simp;done)|omega|rfl) [-getElem?_pos,A.b4,lg,a1]
   refine Zah [(2,4),(13,81)] (fun e r st=>st=⟨h,N,[]⟩∧((e=.exit 0∧g.all Zbr=true)∨(e=.ret∧g.all Zbr=false∧r.get 2=some (.bool false)))) (Ypo h N g) g.length ?_ ?_ ?_
   ·exact⟨rfl,0,by omega,by simp,by simp⟩
   ·exact Zov hg hl hin (by simp)
   ·rintro e r _ hr ⟨rfl,⟨rfl,hz⟩|⟨rfl,hz,h2⟩⟩
    ·simp(disch:=first|(simp;done)|omega|rfl) [-getElem?_pos,hr];simpa using hz
    ·simp(disch:=first|(simp;done)|omega|rfl) [-getElem?_pos,hr,h2];simpa using hz
  ·have a1:6<(g.length:Int):=by omega
   have a2:(g.length:Int)=17:=by omega
   simp(disch:=first|(simp;done)|omega|rfl) [-getElem?_pos,A.b4,lg,a1,a2,hl17,Zad]
   refine Zah [(2,4),(13,81)] (fun e r st=>st=⟨h,N,[]⟩∧((e=.exit 0∧g.all Zbr=true)∨(e=.ret∧g.all Zbr=false∧r.get 2=some (.bool false)))) (Ypo h N g) g.length ?_ ?_ ?_
   ·exact⟨rfl,0,by omega,by simp,by simp⟩
   ·exact Zov hg hl hin (by simp)
   ·rintro e r _ hr ⟨rfl,⟨rfl,hz⟩|⟨rfl,hz,h2⟩⟩
    ·simp(disch:=first|(simp;done)|omega|rfl) [-getElem?_pos,hr];simpa using hz
    ·simp(disch:=first|(simp;done)|omega|rfl) [-getElem?_pos,hr,h2];simpa using hz
 ·have hsg:Zlb g=false:=by simp[Zlb,hlen]
  have a1:6<(g.length:Int):=by omega
  have a2:¬(g.length:Int)=17:=by omega
  have a3:¬g.length=17:=by omega
  simp(disch:=first|(simp;done)|omega|rfl) [-getElem?_pos,A.b4,lg,a1,a2,a3,hsg,Zad]
variable {N:Nat} {h:T O} {u:V}
noncomputable def A.w10:=A.q Tryz.f10
noncomputable def A.lb10_0:=A.ql A.w10 0 []
noncomputable def A.b10:=(fun x0=>A.qb A.w10 [x0]) A.lb10_0
def A.c10:A.F 10=some ⟨25,[.tmp 2],A.b10⟩:=by kernel_rfl
def A.k10:=@A.kk 10 _ _ _ A.c10 rfl
def PgB(h:T O)(N0 N:Nat)(u:V)(g:List Stg)(k:Nat):Prop:=∃l:List (List V),Own 5 109 N0 h N u l∧l.length=k∧∀(j:Nat) (s:Stg),j<k→g[j]?=some s→∃inp,l[j]?=some (Zb2 s inp)∧Cp h N inp (strs s.inputs)
def PgB.keep{h':T O}{N0 N':Nat}{g:List Stg}{k:Nat}(s:PgB h N0 N u g k)(kk:Keeps h N h' N'):PgB h' N0 N' u g k:=by
 obtain⟨l,h1,h2,h3⟩:=s
 refine⟨l,h1.keep kk,h2,fun j s hj hs=>?_⟩
 obtain⟨inp,h4,h5⟩:=h3 j s hj hs
 exact⟨inp,h4,h5.keep kk⟩
def PgB.gr{N0:Nat}{g:List Stg}(s:PgB h N0 N u g g.length):Gr h N u g:=by
 obtain⟨l,h1,h2,h3⟩:=s
 refine⟨l,h1.sn,h2,fun j s hs=>?_⟩
 obtain⟨inp,h4,h5⟩:=h3 j s (Zat hs) hs
 exact⟨inp,h4,h5.sl⟩
def PgB.step{N0:Nat}{x inp:V}{g:List Stg}{k:Nat}{s:Stg}{w:List Nat}(p:PgB h N0 N u g k)(hN:N0≤N)(hs:g[k]?=some s)(hi:Cp h N inp (strs s.inputs))(hu:Za0 ⟨h,N,w⟩ 5 x=some (1,Zb2 s inp))(hk:k<1000):
  ∃v' h' w',Zbi ⟨h,N,w⟩ 5 80 109 u x=some (v',⟨h',N+1,w'⟩)∧Zac N0 w'=Zac N0 w∧Keeps h N0 h' (N+1)∧PgB h' N0 (N+1) v' g (k+1):=by
 obtain⟨l,h1,h2,h3⟩:=p
 obtain⟨v',h',w',e1,e2,e3,e4,e5⟩:=Zbx (x:=Zb2 s inp) (u:=x) (bytes:=80) (w:=w) h1 hN (by decide) rfl hu (by omega)
 have hcp:∀{i:V} {m:List V},Cp h N i m→Cp h' (N+1) i m:=by
  rintro i m ⟨j,c,q1,q2,q3,q4⟩
  refine⟨j,c,q1,by omega,?_,q4⟩
  rcases e4 j with e|e|⟨o,n,c',q,e⟩
  ·rw[e];exact q3
  ·omega
  ·obtain⟨_,⟨_,hn⟩|⟨i',hv,_,_,hrow⟩⟩:=h1
   ·rw[e]at hn;cases hn
   ·rw[e]at hv
    simp only[V.slice.injEq]at hv
    rw[←hv.1,q3]at hrow
    simp at hrow
 refine⟨v',h',w',e1,e2,e3,l++[Zb2 s inp],e5,by simp[h2],fun j t hj ht=>?_⟩
 by_cases hjk:j<k
 ·obtain⟨i,q1,q2⟩:=h3 j t hjk ht
  exact⟨i,by rw[Yto (by omega)];exact q1,hcp q2⟩
 ·have:j=k:=by omega
  subst this
  obtain rfl:=Ytz (hs.symm.trans ht)
  exact⟨inp,by rw[Yt0 (by omega)];simp[h2],hcp hi⟩
def Zku{v:V}{g:List Stg}(hg:Gr h N v g)(hl:g.length<1000)(hil:∀s∈g,s.inputs.length<1000):Fn A.C 10 [v] h N (fun u h' n'=>Gr h' n' u g):=by
 intro w
 have lg:=hg.len
 rw[Zae,A.k10 (by simp)]
 simp(disch:=first|(simp;done)|omega|rfl) [-getElem?_pos,A.b10,lg]
 refine Zah [(3,3),(5,6),(9,23)] (fun e r st=>e=.exit 0∧Zac N st.w=[]∧Keeps h N st.h st.n∧∃u,r.get 3=some u∧PgB st.h N st.n u g g.length) (fun m r st=>Zac N st.w=[]∧Keeps h N st.h st.n∧∃k u,k+m=g.length∧r.get 9=some (.int .i64 k)∧r.get 3=some u∧PgB st.h N st.n u g k) g.length ?_ ?_ ?_
 ·exact⟨by simp,Keeps.refl,0,.nilslice,by omega,by simp,by simp,[],Own.nil,rfl,fun j s hj=>by omega⟩
 ·rintro m r ⟨H,n1,W⟩ hr hf2 ⟨hW,hK,k,u,hk,h9,h3,ho⟩
  simp only at hW hK ho
  rw[Zai]
  cases m with
  |zero=>
   have:k=g.length:=by omega
   subst this
   simp(disch:=first|(simp;done)|omega|rfl) [-getElem?_pos,A.lb10_0,hr,hf2,h9,hW,hK]
   exact⟨u,h3,ho⟩
  |succ m=>
   have hlt:k<g.length:=by omega
   obtain⟨s,hs⟩:=Zag hlt
   obtain⟨i,o,cc,e,rw,inp,q1,q2,q3,q4,q5⟩:=(hg.keep hK).at hs
   have hk1:(k:Int)<(g.length:Int):=by omega
   have hio:=q5.form.one
   unfold V.one at hio
   have d1:¬i=n1:=by omega
   have nle:=hK.le
   have hZ:=Zb2 s inp
   simp(disch:=first|(simp;done)|omega|rfl) [-getElem?_pos,A.lb10_0,hr,hf2,h9,h3,hk1,hlt,lg,q1,q3,q4,Zb2,hio,d1,splice,Zak]
   have K1:=((((Keeps.refl (h:=H) (n:=n1)).new (.cells [.str [],.str [],.str [],.nilslice,.int .i64 0] 46 true)).set (i:=n1) (o:=.cells [.str s.name,.str s.op,.str s.factor,inp,.int .i64 s.cost] 46 true) (Ys6 n1)).new (.cells [.str [],.str [],.str [],.nilslice,.int .i64 0] 109 true)).set (i:=n1+1) (o:=.cells [.str s.name,.str s.op,.str s.factor,inp,.int .i64 s.cost] 109 true) (by omega)
   have K2:=K1.new (.cells [] 9 true)
   obtain⟨v2,h2,n2,e1,e2,e3⟩:=Zvd (w:=(n1+1)::n1::W) (i:=n1+1+1) (by simp) (by omega) (q5.keep K2) (by rw[Zbv];have:=hil s (Ys9 hs);omega)
   rw[e1]
   have f6:=e2.get (n1+1) (by omega)
   simp at f6
   have e2le:=e2.le
   have e3':=e3
   obtain⟨j,c,rfl,j1,j2,j3⟩:=e3
   have hH2:=(K2.trans e2).set (i:=n1+1) (o:=.cells (Zb2 s (.slice j 0 (strs s.inputs).length c 1)) 109 true) (by omega)
   have d2:¬n1+1=j:=fun hc=>by rw[←hc,f6]at j2;simp at j2
   have d3:n1+1<n2:=by omega
   have d4:¬n1+1=n2:=by omega
   have d5:¬n2=n1+1:=by omega
   simp(disch:=first|(simp;done)|omega|rfl) [-getElem?_pos,hr,hf2,h9,h3,f6,splice,Zak,d3,d4,d5]
   have hc2:Cp (h2.set (n1+1) (.cells [.str s.name,.str s.op,.str s.factor,.slice j 0 s.inputs.length c 1,.int .i64 s.cost] 109 true)) n2 (.slice j 0 s.inputs.length c 1) (strs s.inputs):=by
    refine⟨j,c,by rw[Zbv],j1,?_,j3⟩
    rw[T.get_set,Ys5 (fun h=>d2 h.symm)];exact j2
   unfold Zb2 at hH2
   rw[Zbv]at hH2
   have ho2:=(ho.keep hH2).keep ((Keeps.refl).new (.cells [.str s.name,.str s.op,.str s.factor,.slice j 0 s.inputs.length c 1,.int .i64 s.cost] 109 true))
   obtain⟨v3,h4,w4,a1,a2,a3,a4⟩:=ho2.step (x:=.slice n2 0 1 (some 1) 5) (w:=(n1+1)::(n1+1)::n1::W) (by omega) hs (hc2.keep (Keeps.refl.new _)) (by simp[Za0,St.row,Zb2,slc]) (by omega)
   rw[a1]
   have wok:¬n1<N:=by omega
   have wok2:¬n1+1<N:=by omega
   have a2':Zac N w4=[]:=by rw[a2];simp[Zac,hW,wok,wok2]
   simp(disch:=first|(simp;done)|omega|rfl) [-getElem?_pos,hr,hf2,h9,a2']
   exact⟨m,by omega,((hK.trans hH2).new _).then a3,k+1,by omega,by simp,a4⟩
 ·rintro _ r ⟨H,n1,W⟩ hr ⟨rfl,hW,hK,u,h3,ho⟩
  simp only at hW hK ho
  simp(disch:=first|(simp;done)|omega|rfl) [-getElem?_pos,hr,h3,Ret,hW,hK]
  exact ho.gr
variable {N:Nat} {h:T O} {v:V}
set_option maxHeartbeats 16000000
def Ztn{g:List Stg}(h:Zlb g=true):g.length≤17∧(∀s∈g,s.factor.length≤20∧s.inputs.length≤17):=by
 unfold Zlb at h
 rw[Ytt,decide_eq_true_eq,Yt8]at h
 refine⟨by omega,fun s hs=>?_⟩
 have:=h.2 s hs
 unfold Zbr at this
 rw[Ytt,decide_eq_true_eq]at this
 omega
def Zxu{l:List FmR}(h:Zlc l=true):l.length≤257∧∀f∈l,f.val.length≤20:=by
 unfold Zlc at h
 rw[Ytt,decide_eq_true_eq,Yt8]at h
 exact⟨by omega,fun f hf=>by simpa[shF]using h.2 f hf⟩
def Zft{w:List Nat}(hP:P10 h N):A.C.call (.func 8 [] []) [] ⟨h,N,w⟩=some (.bool true,⟨h,N,w⟩):=by
 exact A.known hP.2
def TxM.form{m:List (List Rat)}(s:TxM h N v m):SlF v:=by
 obtain⟨us,h1,_⟩:=s
 exact h1.form
def Yfb{l:List FmR}{m:Nat}(h:Zc2 l=0):Zc2 (l.take m)=0:=by
 obtain⟨h1,_⟩:=Zfr h
 have e1:Zc2 l=Zam ((List.range l.length).map (frE l)):=Ys5 (by omega)
 have e2:Zc2 (l.take m)=Zam ((List.range (l.take m).length).map (frE (l.take m))):=Ys5 (by rw[Yth];omega)
 rw[e1]at h
 rw[e2]
 refine Zk1 fun j hj=>?_
 rw[Yth]at hj
 have hjm:j<m:=by omega
 have hjl:j<l.length:=by omega
 have h2:frE l j=0:=Zk0 h _ (Yup.2 ⟨j,Yv7.2 hjl,rfl⟩)
 unfold frE at h2 ⊢
 rw[Ytk,Ys8 hjm]
 have e0:(l.take m)[j-1]?=l[j-1]?:=by rw[Ytk,Ys8 (by omega)]
 have e:∀f,Zs5 (l.take m) j f=Zs5 l j f:=fun f=>by
  unfold Zs5
  simp only[e0]
 simpa only[e]using h2
def Zun{l:List FmR}{m:Nat}:(l.take m).map fmC=(l.map fmC).take m:=List.map_take ..
def TxM.half{n:Nat}{m:List (List Rat)}{w:List Nat}(s:TxM h N v m)(hn:n≤m.length):∃v',Zci ⟨h,N,w⟩ 1 (some v) (some none) (some (some (.int .i64 (n:Nat)))) (some none)=some (v',⟨h,N,w⟩)∧TxM h N v' (m.take n):=by
 obtain⟨us,h1,h2,h3⟩:=s
 obtain⟨v',e1,e2⟩:=Zgy (w:=w) h1 (lo:=0) (hi:=n) (by omega) (by omega) none (some (.int .i64 (n:Nat))) (.inr ⟨rfl,rfl⟩) (.inl rfl)
 rw[Yu3]at e2
 refine⟨v',e1,us.take n,e2,by rw[Yth,Yth,h2],fun j l hl=>?_⟩
 have hj:j<n:=by
  have:=Zat hl
  rw[Yth]at this
  omega
 rw[Ytk,Ys8 hj]at hl
 obtain⟨u,a1,a2⟩:=h3 j l hl
 exact⟨u,by rw[Ytk,Ys8 hj];exact a1,a2⟩
def Ydl{h:T O}{N:Nat}{u v:V}{g:List Stg}{l:List FmR}(hg:Gr h N u g)(hgl:g.length<9223372036854775808)(hin:∀s∈g,s.inputs.length<9223372036854775808)(hs:Sn 4 h N v (l.map fmC))(hll:l.length<9223372036854775808)(hP:P10 h N):Fn A.C 3 [u,v] h N (fun x _ _=>x=.bool true):=by
 intro w
 rw[Zae,A.k3 (by simp)]
 have hsh:=fun w=>Yfk (w:=w) hg hgl hin
 have hsf:=fun w=>Yaw (w:=w) hs hll
 have haw:=fun w=>Zft (w:=w) hP
 cases hsg:Zlb g with
 |false=>
  rw[hsg]at hsh
  simp(disch:=first|(simp;done)|omega|rfl) [-getElem?_pos,A.b3,hsh,haw,Ret]
  exact Keeps.refl
 |true=>
  rw[hsg]at hsh
  cases hsl:Zlc l with
  |false=>
   rw[hsl]at hsf
   simp(disch:=first|(simp;done)|omega|rfl) [-getElem?_pos,A.b3,hsh,hsf,haw,Ret]
   exact Keeps.refl
  |true=>
   rw[hsl]at hsf
   obtain⟨h17,hfew⟩:=Ztn hsg
   obtain⟨l257,hv⟩:=Zxu hsl
   have hPg:Yrb g:=fun s hs=>⟨(hfew s hs).1,by have:=(hfew s hs).2;omega⟩
   have hR:Yrh g:=hPg
   have hi3:∀s∈g,s.inputs.length<1000:=fun s hs=>by have:=(hfew s hs).2;omega
   have hv5:∀f∈l,f.val.length≤100000:=fun f hf=>by have:=hv f hf;omega
   simp(disch:=first|(simp;done)|omega|rfl) [-getElem?_pos,A.b3,hsh,hsf]
   refine Zaf (Ybb hg (by omega) hR) ?_
   rintro _ h1 n1 k1 rfl
   by_cases hcg:chkGraph g=0
   ·have hG:=Zlm hcg
    simp(disch:=first|(simp;done)|omega|rfl) [-getElem?_pos,hcg]
    refine Zaf (Ykr (hs.keepz k1) hv5 (by omega)) ?_
    rintro _ h2 n2 k2 rfl
    have kk2:=k1.trans k2
    by_cases hcf:Zc2 l=0
    ·simp(disch:=first|(simp;done)|omega|rfl) [-getElem?_pos,hcf]
     refine Zaf (Zku (hg.keep kk2) (by omega) hi3) ?_
     rintro u3 h3 n3 k3 hg3
     have kk3:=kk2.trans k3
     simp(disch:=first|(simp;done)|omega|rfl) [-getElem?_pos,]
     refine Zaf (Zno (hs.keepz kk3) (by omega)) ?_
     rintro u4 h4 n4 k4 hs4
     have kk4:=kk3.trans k4
     simp(disch:=first|(simp;done)|omega|rfl) [-getElem?_pos,]
     refine Zaf (Zp2 (hg3.keep k4) (by omega) hPg hs4 (fun f hf=>by have:=hv f hf;omega) (by omega) (hP.keep kk4)) ?_
     have hoE:Zx7 g l=0:=by unfold Zx7;rw[hcg,hcf];rfl
     rintro x h5 n5 k5 (⟨h0,_⟩|⟨h0,hq,rfl⟩|⟨h0,z,out,hq,rfl,hz,hol,hoq⟩)
     ·exact absurd hoE h0
     ·have kk5:=kk4.trans k5
      obtain⟨X,hX⟩:∃X,(h5.set n5 (.cells [.nilslice] 29 true)).set n5 (.cells [.nilslice] 29 true)=X:=⟨_,rfl⟩
      have kX:Keeps h5 n5 X (n5+1):=by rw[←hX];exact(Keeps.refl.new _).set (Ys6 _)
      have haw5:=fun w=>Zft (w:=w) (hP.keep (kk5.trans kX))
      have spn:splice [V.nilslice] 0 [.nilslice]=[.nilslice]:=rfl
      simp(disch:=first|(simp;done)|omega|rfl) [-getElem?_pos,spn,Zak,hX,Zad,haw5,Ret]
      exact⟨by have:=kk5.le;omega,kk5.trans kX⟩
     ·have kk5:=kk4.trans k5
      have hzo:=hz.form.one
      have hzc:=hz.form.cells
      obtain⟨X,hX⟩:∃X,(h5.set n5 (.cells [.nilslice] 29 true)).set n5 (.cells [z] 29 true)=X:=⟨_,rfl⟩
      have kX:Keeps h5 n5 X (n5+1):=by rw[←hX];exact(Keeps.refl.new _).set (Ys6 _)
      have gX:X.get n5=some (.cells [z] 29 true):=by rw[←hX,T.get_set,Ys8 rfl]
      have spz:splice [V.nilslice] 0 [z]=[z]:=rfl
      have le5:=kk5.le
      have jX:=kk5.trans kX
      obtain⟨y,h6,n6,c1,c2,c3⟩:=Yhy (z:=4) (bytes:=40) (e:=40) (N0:=n5+1) (w:=[n5]) (i:=n5+1) (by decide) (hs.keepz (jX.new (.cells [] 40 true))) (fun x hx=>by
       obtain⟨f,_,rfl⟩:=Yup.1 hx
       rfl) (by omega) (Ys6 _) (by rw[T.get_set,Ys8 rfl]) (by rw[Ytr];omega)
      have kY:Keeps X (n5+1) h6 n6:=(Keeps.refl.new _).trans c2
      have ly:=c3.sn.len
      rw[Ytr]at ly
      have hv2:∀f∈l,chkNum f.val=0∧f.val.length≤20:=fun f hf=>⟨(Zfr hcf).2 f hf,hv f hf⟩
      simp(disch:=first|(simp;done)|omega|rfl) [-getElem?_pos, -V.cells, -V.one,hzo,hzc,spz,Zak,hX,Zad,c1,ly]
      refine Zah [(8,8),(56,71)] (fun e r st=>e=.exit 0∧Zac N st.w=[]∧Keeps X (n5+1) st.h st.n∧Cw 4 40 (n5+1) st.h st.n y ((thL l).map fmC)) (fun m r st=>Zac N st.w=[]∧Keeps X (n5+1) st.h st.n∧∃k,k+m=l.length∧r.get 56=some (.int .i64 k)∧Cw 4 40 (n5+1) st.h st.n y ((thK l k).map fmC)) l.length ?_ (Ye9 (nB:=N) (vl:=v) (y:=y) (by omega) (hs.keepz jX) (by omega) hv2 (by simp) (by simp) (by simp) (by simp)) ?_
      ·have wn:¬n5<N:=by omega
       exact⟨by simp[Zac,wn],kY,0,by omega,by simp,by simpa[thK]using c3⟩
      ·rintro _ r ⟨H,n7,W⟩ hr ⟨rfl,hW,hK,hC⟩
       simp only at hW hK hC
       have j7:=jX.trans hK
       have hoT:Zx7 g (thL l)=0:=by unfold Zx7;rw[hcg,Yj5 hcf hv];rfl
       have hvT:∀f∈thL l,f.val.length≤400:=fun f hf=>by
        obtain⟨i,hi,rfl⟩:=Yup.1 hf
        obtain⟨f,hfi⟩:=Zag (Yv7.1 hi)
        rw[hfi]
        obtain⟨a1,a2⟩:=hv2 f (Ys9 hfi)
        have:=Zmp ((Qb.int (z:=3) (k:=2) (by decide) (by decide)).mul (Zss a1 a2))
        exact Yu5 this (by decide)
       simp(disch:=first|(simp;done)|omega|rfl) [-getElem?_pos,hr]
       refine Zaf (Zku (hg.keep j7) (by omega) hi3) ?_
       rintro u8 h8 n8 k8 hg8
       have j8:=j7.trans k8
       simp(disch:=first|(simp;done)|omega|rfl) [-getElem?_pos,hr]
       refine Zaf (Zno (hC.sn.keepz k8) (by rw[Zij];omega)) ?_
       rintro u9 h9 n9 k9 hs9
       have j9:=j8.trans k9
       simp(disch:=first|(simp;done)|omega|rfl) [-getElem?_pos,]
       refine Zaf (Zp2 (hg8.keep k9) (by omega) hPg hs9 hvT (by rw[Zij];omega) (hP.keep j9)) ?_
       intro x h10 n10 k10 hx
       obtain⟨zt,et,rfl,hxt⟩:∃zt et,x=.tup [zt,.int .i64 et]∧((et=4)∨(et=0∧∃outT,Zty g (thL l)=some outT∧TxM h10 n10 zt outT)):=by
        rcases hx with⟨h0,_⟩|⟨_,_,rfl⟩|⟨_,zt,outT,hqt,rfl,hzt,_⟩
        ·exact absurd hoT h0
        ·exact⟨_,4,rfl,.inl rfl⟩
        ·exact⟨_,0,rfl,.inr ⟨rfl,outT,hqt,hzt⟩⟩
       clear hx
       have j10:=j9.trans k10
       simp(disch:=first|(simp;done)|omega|rfl) [-getElem?_pos,hr]
       refine Zaf (Zku (hg.keep j10) (by omega) hi3) ?_
       rintro u11 h11 n11 k11 hg11
       have j11:=j10.trans k11
       have hlen:=hs.len
       rw[Ytr]at hlen
       obtain⟨hn,ehn⟩:∃hn,hn=l.length/2:=⟨_,rfl⟩
       have hqn:(l.length:Int)/2=(hn:Int):=by omega
       have hsl:∀w,∃v',Zci ⟨h11,n11,w⟩ 4 (some v) (some none) (some (some (.int .i64 (hn:Int)))) (some none)=some (v',⟨h11,n11,w⟩)∧Sn 4 h11 n11 v' ((l.take hn).map fmC):=fun w=>by
        have:=Zq9 (z:=4) (w:=w) (by decide) (hs.keepz j11) (lo:=0) (hi:=hn) (by omega) (by rw[Ytr];omega) none (some (.int .i64 (hn:Int))) (.inr ⟨rfl,rfl⟩) (.inl rfl)
        rwa [Yu3,←Zun]at this
       obtain⟨v',sl1,sl2⟩:=hsl []
       simp(disch:=first|(simp;done)|omega|rfl) [-getElem?_pos,hr,hlen,hqn,Zb0,evOpt,sl1]
       refine Zaf (Zno sl2 (by rw[Yth];omega)) ?_
       rintro u12 h12 n12 k12 hs12
       have j12:=j11.trans k12
       simp(disch:=first|(simp;done)|omega|rfl) [-getElem?_pos,]
       refine Zaf (Zp2 (hg11.keep k12) (by omega) hPg hs12 (fun f hf=>by have:=hv f (Yuk hf);omega) (by rw[Yth];omega) (hP.keep j12)) ?_
       have hoH:Zx7 g (l.take hn)=0:=by unfold Zx7;rw[hcg,Yfb hcf];rfl
       have hqH:=Ybn (m:=hn) hq (by omega)
       intro x h13 n13 k13 hx
       obtain⟨zh,rfl,hzh⟩:∃zh,x=.tup [zh,.int .i64 0]∧TxM h13 n13 zh (out.take hn):=by
        rcases hx with⟨h0,_⟩|⟨_,hc,_⟩|⟨_,zh,o2,hq2,rfl,hz2,_⟩
        ·exact absurd hoH h0
        ·rw[hqH]at hc;cases hc
        ·rw[hqH]at hq2
         obtain rfl:=Ytz hq2
         exact⟨_,rfl,hz2⟩
       clear hx
       have j13:=j12.trans k13
       have le13:=j13.le
       have haw13:=fun w=>Zft (w:=w) (hP.keep j13)
       have jq:Keeps X (n5+1) h13 n13:=((((((hK.trans k8).trans k9).trans k10).trans k11).trans k12).trans k13)
       have g13:=(jq.get n5 (by omega)).trans gX
       have l13:n5<n13:=by have:=jq.le;omega
       rcases hxt with rfl|⟨rfl,outT,hqT,hzT⟩
       ·simp(disch:=first|(simp;done)|omega|rfl) [-getElem?_pos,hr,Zad,haw13,Ret,hW]
        exact j13
       ·have hth:=Yj4 hq hqT
        subst hth
        have hzO:=(hz.keep kX).keep jq
        have hzT2:=((hzT.keep k11).keep k12).keep k13
        have lz:=hzO.len
        have lT:=hzT2.len
        rw[Ytr,hol]at lT
        rw[hol]at lz
        have hlen:=hs.len
        rw[Ytr]at hlen
        have hnl:hn≤out.length:=by omega
        obtain⟨vh,sh1,sh2⟩:=hzO.half (w:=W) hnl
        have hrw:=fun w=>Yfw (w:=w) hzh sh2 (by rw[Yth];omega) (fun r hr=>by have:=(hoq r (Yuk hr)).1;omega)
        simp(disch:=first|(simp;done)|omega|rfl) [-getElem?_pos, -V.cells, -V.one,hr,Zad,g13,l13,lz,lT,hlen,hqn,Zb0,evOpt,sh1,hrw]
        refine Zah [(4,4),(13,16),(127,196)] (fun e _ st=>e=.exit 2∧Zac N st.w=[]∧Keeps h13 n13 st.h st.n) (fun m r st=>Zac N st.w=[]∧Keeps h13 n13 st.h st.n∧∃k,k+m=l.length∧r.get 127=some (.int .i64 (k:Nat))) l.length ?_ (Yfx (nB:=N) (p5:=n5) (vg:=u) (vl:=v) (vo:=z) (vt:=zt) (g:=g) (l:=l) (out:=out) (by omega) ⟨hg.keep j13,hG,fun s hs=>(hfew s hs).1,hs.keepz j13,hzO,hzT2,⟨_,_,g13⟩,l13,hq,hol,by omega,hoq,(Zfr hcf).2⟩ (by simp[hr]) (by simp[hr]) (by simp[hr]) (by simp[hr]) (by simp) (by simp)) ?_
        ·exact⟨hW,Keeps.refl,0,by omega,by simp⟩
        ·rintro _ r2 ⟨H14,n14,W14⟩ hr2 ⟨rfl,hW14,hK14⟩
         simp only at hW14 hK14
         have haw14:=fun w=>Zft (w:=w) (hP.keep (j13.trans hK14))
         simp(disch:=first|(simp;done)|omega|rfl) [-getElem?_pos,hr,hr2,haw14,Ret,hW14]
         exact j13.trans hK14
    ·have haw2:=fun w=>Zft (w:=w) (hP.keep kk2)
     simp(disch:=first|(simp;done)|omega|rfl) [-getElem?_pos,hcf,haw2,Ret]
     exact kk2
   ·have haw1:=fun w=>Zft (w:=w) (hP.keep k1)
    simp(disch:=first|(simp;done)|omega|rfl) [-getElem?_pos,hcg,haw1,Ret]
    exact k1
open Go
inductive Zlx where
 |nil
 |emp (b:Addr)
 |sl (b:Addr) (l c:Nat) (f:Nat→ByteArray)
def Zlx.val:Zlx→Value
 |.nil=>.slice none 0 0
 |.emp b=>.slice (some b) 0 0
 |.sl b l c f=>.slice (some b) l c
def Zlx.ok(W:World):Zlx→Prop
 |.sl b l c f=>l≤c∧0<c∧∀i,i<c→W.cell? (b.add i)=some (.string (f i))
 |_=>True
def Zlx.strs:Zlx→List Str
 |.sl b l c f=>(List.range l).map fun i=>(f i).data.toList
 |_=>[]
def eOf(W:World)(a:Addr):TypeId:=match W.heap[a.block]? with
 |some (.cells _ e _)=>e
 |_=>0
def Zxa{W:World}{a:Addr}{n:Nat}{f:Nat→Value}(hn:0<n)(hc:∀i,i<n→W.cell? (a.add i)=some (f i)):
  ∃c' lo hi,W.heap[a.block]?=some (.cells c' (eOf W a) (lo,hi))∧a.spot=none∧(∀i,i<n→c'[a.off+i]?=some (f i))∧a.off+n≤c'.size∧a.block<W.heap.size:=by
 have h0:=hc 0 hn
 have ha0:a.add 0=a:=by simp[Addr.add]
 rw[ha0]at h0
 obtain⟨c',e,fr,hb⟩:∃c' e fr,W.heap[a.block]?=some (.cells c' e fr):=by
  unfold World.cell? at h0
  split at h0
  ·rename_i c' e fr hb;exact⟨c',e,fr,hb⟩
  ·cases h0
 have hs:a.spot=none:=by
  unfold World.cell? at h0
  rw[hb]at h0
  simp only at h0
  split at h0
  ·cases h0
  ·rename_i h;simpa using h
 have hcell:∀i,i<n→c'[a.off+i]?=some (f i):=fun i hi=>by
  have:=hc i hi
  unfold World.cell? at this
  have e1:(a.add i).block=a.block:=by unfold Addr.add;split<;>rfl
  have e2:(a.add i).off=a.off+i:=by unfold Addr.add;split<;>simp_all
  have e3:(a.add i).spot=none:=by unfold Addr.add;split<;>simp_all
  rw[e1,hb]at this
  simp only[e2,e3,Option.isSome_none,Ytj,if_false]at this
  exact this
 have hlt:a.block<W.heap.size:=by
  rcases Nat.lt_or_ge a.block W.heap.size with h|h
  ·exact h
  ·rw[Array.getElem?_eq_none h]at hb;cases hb
 have hend:a.off+n≤c'.size:=by
  have:=hcell (n-1) (by omega)
  have h2:=(Array.getElem?_eq_some_iff.1 this).1
  omega
 obtain⟨lo,hi⟩:=fr
 exact⟨c',lo,hi,by rw[hb];simp[eOf,hb],hs,hcell,hend,hlt⟩
structure Ypq where
 a:Addr
 n:Nat
 f:Nat→Value
 g:Nat→V
def Ypq.ok(W:World)(r:Ypq):Prop:=0<r.n∧(∀i,i<r.n→W.cell? (r.a.add i)=some (r.f i))∧∀i,i<r.n→(r.f i).oneCell'=true
def Zrb{P:Program}{tbl:Nat→Option Zei}{G:Nat}(hP:Zln P tbl G){x:Za1}(hx:Zbw P x){F d:Nat}{f:FuncId}{mf:Zei}(hf:Zlu P f=some mf){args:List V}{xs:List Value}{v:V}{y:Value}{S:St}{μ:Mu}{W:World}
  (h:Ypc (Zge mf (Zbd (Zgq x tbl F d) F) args S) v) (hh:Za8 P μ W S) (hS:S.w=[]) (hargs:VRs μ args xs) (hv:∀μ z,VR μ v z→z=y):
  Calls P f ⟨xs⟩ W fun e W'=>e=.returned y∧RowKit.Below W.heap.size W W':=by
 obtain⟨s,hrun,hw⟩:=h.ex
 obtain⟨fn,hfn,_⟩:=Zxc hf
 have ih:=Zjy hP.m hP.e hP.t hx F d
 have:=Ydj (Yea ih hP.e (Ydt hP.m hP.e ih) (Yiq ih hP.e) (Zv2 ih) F) hfn hf hh hargs hrun
 refine callsIn_wide.1 (CallsIn.mono (F:=Fence.wide) this fun e W' he=>?_)
 cases e with
 |returned z=>
  obtain⟨μ',ws,h1,h2⟩:=he
  have hws:ws=[]:=by have:=h2.wl;rw[hw,hS]at this;simpa using this.symm
  subst hws
  exact⟨by rw[hv _ _ h1],h2.chg.os,h2.chg.tape,h2.chg.output,h2.chg.size,fun k hk=>h2.chg.block k hk fun i hi=>by cases hi⟩
 |panicked _=>exact he.elim
 |outgrown=>exact he.elim
def Cx.calls{P:Program}{C:Cx}{G:Nat}(hP:Zln P C.tbl G)(hx:Zbw P C.x){f:Nat}{mf:Zei}(hf:Zlu P f=some mf)(ht:C.tbl f=some mf){args:List V}{xs:List Value}{v:V}{y:Value}{S:St}{μ:Mu}{W:World}
  (hn:∀st,C.x (.func f [] []) args st=none) (h:Fn C f args S.h S.n (fun u _ _=>u=v)) (hh:Za8 P μ W S) (hS:S.w=[]) (hargs:VRs μ args xs) (hv:∀μ z,VR μ v z→z=y):
  Calls P f ⟨xs⟩ W fun e W'=>e=.returned y∧RowKit.Below W.heap.size W W':=by
 obtain⟨u,st',hc,hw,hk,hu⟩:=(h []).ex
 subst hu
 have hS':(⟨S.h,S.n,[]⟩:St)=S:=by obtain⟨a,b,c⟩:=S;simp only at hS;subst hS;rfl
 rw[hS']at hc
 rw[Cx.call_eq]at hc
 unfold Zee at hc
 rw[hn]at hc
 simp only at hc
 obtain⟨n,hn'⟩:=Zkg (q:=fun n=>Zbd (C.at n) n) (fun n m hnm=>Zb5 (Cx.at_mono hnm) n m hnm) (fun _ _ _ _ _ e=>Cx.code_need e) hc
 unfold Zcr at hn'
 simp only[ht,List.nil_append,Yvs]at hn'
 exact Zrb (F:=n) (d:=n) hP hx hf ⟨_,hn',hw⟩ hh hS hargs hv
end Go.Mx
