/-lensletlaw09-/
import Derived.Test.YtmoaaooccjbecaaGreatDoorRpK
set_option linter.all false
namespace Go.Mx
open Go Go.Proofs
variable {N:Nat} {h:T O} {v:V}
set_option maxRecDepth 1000000
noncomputable def A.w11:=A.q Tryz.f11
noncomputable def A.lb11_0:=A.ql A.w11 0 []
noncomputable def A.b11:=(fun x0=>A.qb A.w11 [x0]) A.lb11_0
def A.c11:A.F 11=some ⟨25,[.tmp 2],A.b11⟩:=by kernel_rfl
def A.k11:=@A.kk 11 _ _ _ A.c11 rfl
def Sl.row_lt{l:List V}(s:Sl h N v l):∀i∈Zc8 v,i<N:=fun i hi=>by
 rcases s with⟨_,rfl|rfl⟩|⟨j,o,cp,c,e,rw,rfl,hj,_⟩
 ·simp[Zc8]at hi
 ·simp[Zc8]at hi
 ·simp[Zc8]at hi;omega
def SV(h:T O)(n:Nat)(u:V)(x:Rc):Prop:=Sl h n u (strs x.vs)∧∀i∈Zc8 u,∃z w,h.get i=some (.cells z 46 w)
def SV.keep{h':T O}{n n':Nat}{u:V}{x:Rc}(s:SV h n u x)(k:Keeps h n h' n'):SV h' n' u x:=⟨s.1.keep k,fun i hi=>by rw[k.get i (s.1.row_lt i hi)];exact s.2 i hi⟩
def SV.moved{h':T O}{n n':Nat}{u:V}{x:Rc}{Y:V→Prop}(s:SV h n u x)(k:Upd (fun i=>i∈Zc8 v) h n h' n')(hd:Zs2 73 Y h v):SV h' n' u x:=by
 have hn:∀i∈Zc8 u,i∉Zc8 v:=fun i hi hc=>by
  obtain⟨z,w,hz⟩:=s.2 i hi
  obtain⟨z2,hz2,_⟩:=hd i hc
  rw[hz]at hz2
  simp at hz2
 exact⟨s.1.moved k hn,fun i hi=>by rw[k.get i (s.1.row_lt i hi) (hn i hi)];exact s.2 i hi⟩
def RcT(h:T O)(N:Nat)(v:V)(l:List Rc):Prop:=∃cs:List (List V),Sn 3 h N v cs∧cs.length=l.length∧∀(j:Nat) (x:Rc),l[j]?=some x→∃u,cs[j]?=some (rcC (x,u))∧SV h N u x
def RcT.rcs{l:List Rc}(s:RcT h N v l):RcS h N v l:=by
 obtain⟨cs,h1,h2,h3⟩:=s
 refine⟨cs,h1,h2,fun j x hx=>?_⟩
 obtain⟨u,h4,h5⟩:=h3 j x hx
 exact⟨u,h4,h5.1⟩
def Yg3{l:List Rc}(hs:RcS h N v l)(hl:l.length<100000)(hv:∀x∈l,x.vs.length<100000):Fn A.C 11 [v] h N (fun u h' n'=>RcT h' n' u l∧∀i∈Zc8 u,N≤i):=by
 intro w
 have hlen:=hs.len
 rw[Zad,A.k11 (by simp)]
 simp(disch:=first|(simp;done)|omega|rfl) [-getElem?_pos,A.b11,hlen]
 refine Zah [(3,3),(5,6),(9,23)] (fun e r st=>e=.exit 0∧Zaa N st.w=[]∧Keeps h N st.h st.n∧∃u,r.get 3=some u∧RcT st.h st.n u l∧∀i∈Zc8 u,N≤i) (fun m r st=>Zaa N st.w=[]∧Keeps h N st.h st.n∧∃k u cs,k+m=l.length∧r.get 9=some (.int .i64 k)∧r.get 3=some u∧Own 3 73 N st.h st.n u cs∧(cs=[]→u=.nilslice)∧cs.length=k∧∀(j:Nat) (x:Rc),j<k→l[j]?=some x→∃y,cs[j]?=some (rcC (x,y))∧SV st.h st.n y x) l.length ?_ ?_ ?_
 ·exact⟨by simp,Keeps.refl,0,.nilslice,[],by omega,by simp,by simp,Own.nil,fun _=>rfl,rfl,fun j x hj=>by omega⟩
 ·rintro m r ⟨H,n1,W⟩ hr hf ⟨hW,hK,k,u,cs,hk,h9,h3,ho,hnil,hcl,hcs⟩
  simp only at hW hK ho hcs
  rw[Zai]
  cases m with
  |zero=>
   obtain rfl:k=l.length:=by omega
   simp(disch:=first|(simp;done)|omega|rfl) [-getElem?_pos,A.lb11_0,hr,hf,h9,hW,hK]
   exact⟨u,h3,⟨cs,ho.sn,hcl,fun j x hx=>hcs j x (Zar hx) hx⟩,fun i hi=>by
    obtain⟨_,⟨_,rfl⟩|⟨i2,rfl,a1,_⟩⟩:=ho
    ·simp[Zc8]at hi
    ·simp[Zc8]at hi;omega⟩
  |succ m=>
   have hlt:k<l.length:=by omega
   obtain⟨x,hx⟩:=Zag hlt
   obtain⟨i,o,cc,e,rw,v0,q1,q2,q3,q4,q5⟩:=(hs.keep hK).at hx
   obtain⟨p1,_⟩:=Zex q4
   unfold rcC at p1
   have hk1:(k:Int)<(l.length:Int):=by omega
   have o1:=q5.form.one
   have o2:=q5.form.cells
   unfold V.one at o1
   unfold V.cells at o2
   have kn:=hK.le
   have hxl:=hv x (Yti hx)
   simp(disch:=first|(simp;done)|omega|rfl) [-getElem?_pos, -Zam,A.lb11_0,hr,hf,h9,h3,hk1,hlt,hlen,q1,q3,p1,splice,Zal,o1,o2]
   simp(disch:=first|(simp;done)|omega|rfl) [-getElem?_pos,hr,hf,Zam,slc,splice,o1,o2,Zal]
   generalize hH:((((H.set n1 (.cells [.int .i64 0,.int .i64 0,.nilslice] 54 true)).set n1 (.cells [.int .i64 x.f,.int .i64 x.t,v0] 54 true)).set (n1+1) (.cells [.int .i64 0,.int .i64 0,.nilslice] 73 true)).set (n1+1) (.cells [.int .i64 x.f,.int .i64 x.t,v0] 73 true)).set (n1+1+1) (.cells [] 46 true)=H2
   have k2:Keeps H n1 H2 (n1+1+1+1):=by rw[←hH];exact((((Keeps.refl.new _).set (Ytf _)).new _).set (by omega)).new _
   have g2:H2.get (n1+1)=some (.cells [.int .i64 x.f,.int .i64 x.t,v0] 73 true):=by rw[←hH];simp
   have g3:H2.get (n1+1+1)=some (.cells [] 46 true):=by rw[←hH];simp
   obtain⟨y,h5,n5,c1,c2,c3,c4,c5⟩:=Yd7 (w:=(n1+1)::n1::W) g3 (by omega) (q5.keep k2) (by rw[Za7];omega)
   have kle5:=c2.le
   have g4:=(c2.get (n1+1) (by omega)).trans g2
   have y1:=c3.form.one
   have y2:=c3.form.cells
   unfold V.one at y1
   unfold V.cells at y2
   simp(disch:=first|(simp;done)|omega|rfl) [-getElem?_pos,hr,hf,h9,h3,c1,g4,Zam,slc,splice,Zal,y1,y2]
   generalize hH3:(h5.set (n1+1) (.cells [.int .i64 x.f,.int .i64 x.t,y] 73 true)).set n5 (.cells [.int .i64 x.f,.int .i64 x.t,y] 73 true)=H3
   have k3:Upd (fun i=>i=n1+1) h5 n5 H3 (n5+1):=by rw[←hH3];exact(Upd.set (D:=fun i=>i=n1+1) Upd.refl (.inl rfl)).new _
   have k4:Keeps H n1 H3 (n5+1):=⟨by omega,fun i hi=>by rw[k3.get i (by omega) (by omega),c2.get i (by omega),k2.get i hi]⟩
   have g6:H3.get n5=some (.cells [.int .i64 x.f,.int .i64 x.t,y] 73 true):=by rw[←hH3];simp
   have sv:SV H3 (n5+1) y x:=by
    have hne:∀i∈Zc8 y,¬i=n1+1:=fun i hi=>by
     rcases c4 i hi with rfl|hh<;>omega
    exact⟨c3.moved k3 hne,fun i hi=>by rw[k3.get i (c3.row_lt i hi) (hne i hi)];exact c5 i hi⟩
   obtain⟨v',h',w',f1,f2,f3,f4,fD,f5⟩:=Zdf (Y:=fun _=>True) (x:=rcC (x,y)) (u:=.slice n5 0 1 (some 1) 3) (bytes:=40) (w:=(n1+1)::(n1+1)::n1::W) (ho.keep k4) hnil (fun _ _ _ _=>trivial) (by omega) (by decide) rfl (by simp[Zau,St.row,g6,slc,rcC]) (by omega)
   have wok:¬n1<N:=by omega
   have wok2:¬n1+1<N:=by omega
   have f6:Zaa N w'=[]:=by rw[f2];simp[Zaa,hW,wok,wok2]
   have kz:=(hK.trans k4).then f3
   simp(disch:=first|(simp;done)|omega|rfl) [-getElem?_pos,hr,hf,h9,f1,f6]
   refine⟨m,by omega,kz,k+1,by omega,by simp,cs++[rcC (x,y)],f5,by simp,by simp[hcl],fun j z hj hz=>?_⟩
   by_cases hjk:j<k
   ·obtain⟨a,a1,a2⟩:=hcs j z hjk hz
    exact⟨a,by rw[Yt2 (by omega)];exact a1,(a2.keep k4).moved f4 fD⟩
   ·obtain rfl:j=k:=by omega
    rw[hx]at hz
    obtain rfl:x=z:=by simpa using hz
    exact⟨y,by rw[Yud (by omega),hcl];simp,sv.moved f4 fD⟩
 ·rintro _ r ⟨H,n1,W⟩ hr ⟨rfl,hW,hK,u,h3,hu⟩
  simp only at hW hK hu
  simp(disch:=first|(simp;done)|omega|rfl) [-getElem?_pos,hr,h3,Ret,hW,hK]
  exact hu
noncomputable def A.w5:=A.q Tryz.f5
noncomputable def A.lb5_0:=A.ql A.w5 0 []
noncomputable def A.b5:=(fun x0=>A.qb A.w5 [x0]) A.lb5_0
def A.k5:=@A.kk 5 25 [.tmp 2] A.b5 (by kernel_rfl) rfl
def shF(f:FmR):Bool:=decide (f.val.length≤20)
def Zle(l:List FmR):Bool:=decide (l.length≤8∨l.length=257)&&l.all shF
def Yau{h:T O}{N:Nat}{v:V}{l:List FmR}{w:List Nat}(hs:Sn 4 h N v (l.map fmC))(hl:l.length<9223372036854775808):A.C.call (.func 5 [] []) [v] ⟨h,N,w⟩=some (.bool (Zle l),⟨h,N,w⟩):=by
 apply Call.eq
 have lg:=hs.len
 rw[Ytx]at lg
 rw[Zad,A.k5 (by simp)]
 by_cases c1:l.length≤8∨l.length=257
 ·have fin:Zle l=l.all shF:=by simp[Zle,c1]
  rw[fin]
  have c2:8<(l.length:Int)→(l.length:Int)=257:=by omega
  by_cases c3:8<(l.length:Int)
  ·have c4:=c2 c3
   have c5:8<l.length:=by omega
   have c6:l.length=257:=by omega
   simp(disch:=first|(simp;done)|omega|rfl) [-getElem?_pos,A.b5,lg,c3,c4,c5,c6,Zae]
   refine Zah [(2,3),(12,24)] (fun e r st=>st=⟨h,N,[]⟩∧((e=.exit 0∧l.all shF=true)∨(e=.ret∧l.all shF=false∧r.get 2=some (.bool false)))) (fun m r st=>st=⟨h,N,[]⟩∧∃k,k+m=l.length∧r.get 3=some (.int .i64 k)∧l.all shF=(l.drop k).all shF) l.length ?_ ?_ ?_
   ·exact⟨rfl,0,by omega,by simp,by simp⟩
   ·rintro m r _ hr hf ⟨rfl,k,hk,hx,hz⟩
    rw[Zai]
    cases m with
    |zero=>
     obtain rfl:k=l.length:=by omega
     rw[Yug,List.all_nil]at hz
     simp(disch:=first|(simp;done)|omega|rfl) [-getElem?_pos,A.lb5_0,hr,hf,hx,lg,hz]
    |succ m=>
     have hlt:k<l.length:=by omega
     have hk1:(k:Int)<(l.length:Int):=by omega
     obtain⟨f,hc⟩:=Zag hlt
     rw[Zao hc,List.all_cons]at hz
     obtain⟨i0,o0,c0,e0,rw0,q1,q2,q3,q4⟩:=hs.at (show (l.map fmC)[k]?=some (fmC f) by rw[Ytl,hc];rfl)
     have u3:c0[o0+k*4+3]?=some (.str f.val):=Zjt q4 (by decide)
     by_cases c8:20<f.val.length
     ·have c8':(20:Int)<(f.val.length:Int):=by omega
      have e1:shF f=false:=by simp[shF];omega
      rw[e1,Bool.false_and]at hz
      simp(disch:=first|(simp;done)|omega|rfl) [-getElem?_pos,A.lb5_0,hr,hf,hx,lg,hk1,hlt,q1,q2,q3,u3,c8,c8',hz]
     ·have c8':¬(20:Int)<(f.val.length:Int):=by omega
      have e1:shF f=true:=by simp[shF];omega
      rw[e1,Bool.true_and]at hz
      simp(disch:=first|(simp;done)|omega|rfl) [-getElem?_pos,A.lb5_0,hr,hf,hx,lg,hk1,hlt,q1,q2,q3,u3,c8,c8']
      exact⟨m,by omega,k+1,by omega,by simp,hz⟩
   ·rintro _ r _ hr ⟨rfl,⟨rfl,hz⟩|⟨rfl,hz,h2⟩⟩
    ·simp(disch:=first|(simp;done)|omega|rfl) [-getElem?_pos,hr,hz]
    ·simp(disch:=first|(simp;done)|omega|rfl) [-getElem?_pos,hr,h2,hz]
  ·have c5:¬8<l.length:=by omega
   simp(disch:=first|(simp;done)|omega|rfl) [-getElem?_pos,A.b5,lg,c3,c5,Zae]
   refine Zah [(2,3),(12,24)] (fun e r st=>st=⟨h,N,[]⟩∧((e=.exit 0∧l.all shF=true)∨(e=.ret∧l.all shF=false∧r.get 2=some (.bool false)))) (fun m r st=>st=⟨h,N,[]⟩∧∃k,k+m=l.length∧r.get 3=some (.int .i64 k)∧l.all shF=(l.drop k).all shF) l.length ?_ ?_ ?_
   ·exact⟨rfl,0,by omega,by simp,by simp⟩
   ·rintro m r _ hr hf ⟨rfl,k,hk,hx,hz⟩
    rw[Zai]
    cases m with
    |zero=>
     obtain rfl:k=l.length:=by omega
     rw[Yug,List.all_nil]at hz
     simp(disch:=first|(simp;done)|omega|rfl) [-getElem?_pos,A.lb5_0,hr,hf,hx,lg,hz]
    |succ m=>
     have hlt:k<l.length:=by omega
     have hk1:(k:Int)<(l.length:Int):=by omega
     obtain⟨f,hc⟩:=Zag hlt
     rw[Zao hc,List.all_cons]at hz
     obtain⟨i0,o0,c0,e0,rw0,q1,q2,q3,q4⟩:=hs.at (show (l.map fmC)[k]?=some (fmC f) by rw[Ytl,hc];rfl)
     have u3:c0[o0+k*4+3]?=some (.str f.val):=Zjt q4 (by decide)
     by_cases c8:20<f.val.length
     ·have c8':(20:Int)<(f.val.length:Int):=by omega
      have e1:shF f=false:=by simp[shF];omega
      rw[e1,Bool.false_and]at hz
      simp(disch:=first|(simp;done)|omega|rfl) [-getElem?_pos,A.lb5_0,hr,hf,hx,lg,hk1,hlt,q1,q2,q3,u3,c8,c8',hz]
     ·have c8':¬(20:Int)<(f.val.length:Int):=by omega
      have e1:shF f=true:=by simp[shF];omega
      rw[e1,Bool.true_and]at hz
      simp(disch:=first|(simp;done)|omega|rfl) [-getElem?_pos,A.lb5_0,hr,hf,hx,lg,hk1,hlt,q1,q2,q3,u3,c8,c8']
      exact⟨m,by omega,k+1,by omega,by simp,hz⟩
   ·rintro _ r _ hr ⟨rfl,⟨rfl,hz⟩|⟨rfl,hz,h2⟩⟩
    ·simp(disch:=first|(simp;done)|omega|rfl) [-getElem?_pos,hr,hz]
    ·simp(disch:=first|(simp;done)|omega|rfl) [-getElem?_pos,hr,h2,hz]
 ·have fin:Zle l=false:=by simp[Zle,c1]
  have c3:8<(l.length:Int):=by omega
  have c4:¬(l.length:Int)=257:=by omega
  have c5:8<l.length:=by omega
  have c6:¬l.length=257:=by omega
  simp(disch:=first|(simp;done)|omega|rfl) [-getElem?_pos,A.b5,lg,c3,c4,c5,c6,Zae,fin]
noncomputable def A.w4:=A.q Tryz.f4
noncomputable def A.lb4_0:=A.ql A.w4 1 []
noncomputable def A.lb4_1:=(fun x0=>A.ql A.w4 0 [x0]) A.lb4_0
noncomputable def A.b4:=(fun x0=>A.qb A.w4 [x0]) A.lb4_1
def A.k4:=@A.kk 4 82 [.tmp 2] A.b4 (by kernel_rfl) rfl
def Ypz(h:T O)(N:Nat)(g:List Stg)(m:Nat)(r:T V)(st:St):Prop:=st=⟨h,N,[]⟩∧∃k,k+m=g.length∧r.get 3=some (.int .i64 k)∧g.all Zby=(g.drop k).all Zby
def Zon{h:T O}{N:Nat}{v:V}{g:List Stg}(hg:Gr h N v g)(hl:g.length<9223372036854775808)(hin:∀s∈g,s.inputs.length<9223372036854775808){r0:T V}(a0:r0.get 0=some v):
  ∀k r st,(∀t,inD [(2,4),(13,81)] t=false→r.get t=r0.get t)→Fx [(2,4),(13,81)] r0 82 ⟨r,82,[]⟩→Ypz h N g k r st→Code A.C none A.lb4_1 ⟨r,82,[]⟩ st (Rd [(2,4),(13,81)] r0 82 (Ypz h N g) k (fun e r st=>st=⟨h,N,[]⟩∧((e=.exit 0∧g.all Zby=true)∨(e=.ret∧g.all Zby=false∧r.get 2=some (.bool false))))):=by
 rintro m r _ hr hf ⟨rfl,k,hk,h3,hz⟩
 have lg:=hg.len
 rw[Zai]
 cases m with
 |zero=>
  have:k=g.length:=by omega
  subst this
  rw[Yug,List.all_nil]at hz
  simp(disch:=first|(simp;done)|omega|rfl) [-getElem?_pos,A.lb4_1,hr,hf,a0,h3,lg]
  simpa using hz
 |succ m=>
  have hlt:k<g.length:=by omega
  obtain⟨s,hs⟩:=Zag hlt
  obtain⟨i,o,cc,e,rw,inp,q1,q2,q3,q4,q5⟩:=hg.at hs
  obtain⟨p0,p1,p2,p3,p4,p5⟩:=Zjp q4
  have hk1:(k:Int)<(g.length:Int):=by omega
  have lz:=q5.len
  rw[Za7]at lz
  have hinl:=hin s (Yti hs)
  rw[Zao hs,List.all_cons]at hz
  have fal:∀(hc:Zby s=false),g.all Zby=false:=fun hc=>by rw[hz,hc];rfl
  by_cases c1:s.name.length≤40
  ·have c1':¬40<(s.name.length:Int):=by omega
   by_cases c2:s.op.length≤40
   ·have c2':¬40<(s.op.length:Int):=by omega
    by_cases c3:s.factor.length≤20
    ·have c3':¬20<(s.factor.length:Int):=by omega
     by_cases c4:s.inputs.length≤5∨s.inputs.length=17
     ·have hss:Zby s=s.inputs.all (fun n=>decide (n.length≤40)):=by simp[Zby,c1,c2,c3,c4]
      rcases c4 with c4|c4
      ·have c4':¬5<(s.inputs.length:Int):=by omega
       simp(disch:=first|(simp;done)|omega|rfl) [-getElem?_pos,A.lb4_1,hr,hf,a0,h3,hk1,hlt,lg,q1,q3,p1,p2,p3,p4,lz,c1',c2',c3',c4']
       refine Zah [(2,2),(4,4),(62,81)] (fun e r st=>st=⟨h,N,[]⟩∧((e=.exit 2∧Zby s=true)∨(e=.ret∧Zby s=false∧r.get 2=some (.bool false)))) (fun m r st=>st=⟨h,N,[]⟩∧∃t,t+m=s.inputs.length∧r.get 4=some (.int .i64 t)∧Zby s=(s.inputs.drop t).all (fun n=>decide (n.length≤40))) s.inputs.length ?_ ?_ ?_
       ·exact⟨rfl,0,by omega,by simp,by simpa using hss⟩
       ·rintro m2 r2 _ hr2 hf2 ⟨rfl,t,ht,h4,hz2⟩
        rw[Zai]
        cases m2 with
        |zero=>
         have:t=s.inputs.length:=by omega
         rw[this,Yug,List.all_nil]at hz2
         rw[this]at h4
         simp(disch:=first|(simp;done)|omega|rfl) [-getElem?_pos,A.lb4_0,hr,hr2,hf2,a0,h3,h4,hk1,hlt,lg,q1,q3,p4,lz,hz2]
        |succ m2=>
         have htl:t<s.inputs.length:=by omega
         have htl':(t:Int)<(s.inputs.length:Int):=by omega
         obtain⟨n,hn⟩:=Zag htl
         obtain⟨b1,b2,b3,b4,b5,z1,z2,z3,z4⟩:=q5.at (Zbo hn)
         rw[Zao hn,List.all_cons]at hz2
         by_cases cn:n.length≤40
         ·have cn':¬40<(n.length:Int):=by omega
          simp(disch:=first|(simp;done)|omega|rfl) [-getElem?_pos,A.lb4_0,hr,hr2,hf2,a0,h3,h4,hk1,hlt,htl,htl',lg,q1,q3,p4,lz,z1,z3,z4,cn']
          exact⟨m2,by omega,t+1,by omega,by simp,by rw[hz2];simp[cn]⟩
         ·have cn':40<(n.length:Int):=by omega
          have hq:Zby s=false:=by rw[hz2];simp[cn]
          simp(disch:=first|(simp;done)|omega|rfl) [-getElem?_pos,A.lb4_0,hr,hr2,hf2,a0,h3,h4,hk1,hlt,htl,htl',lg,q1,q3,p4,lz,z1,z3,z4,cn',hq]
       ·rintro e r2 _ hr2 ⟨rfl,⟨rfl,hq⟩|⟨rfl,hq,h2⟩⟩
        ·have hfi:=hf.inner (D':=[(2,2),(4,4),(62,81)]) rfl (by simp) hr2
         have hz':g.all Zby=(g.drop (k+1)).all Zby:=by rw[hz,hq];simp
         simp(disch:=first|(simp;done)|omega|rfl) [-getElem?_pos,hr,hr2,h3,hfi]
         exact⟨m,by omega,rfl,k+1,by omega,by simp,hz'⟩
        ·have hfi:=hf.inner (D':=[(2,2),(4,4),(62,81)]) rfl (by simp) hr2
         have hq':=fal hq
         simp(disch:=first|(simp;done)|omega|rfl) [-getElem?_pos,hr,hr2,h2,hfi]
         simpa using hq'
      ·have c4':5<(s.inputs.length:Int):=by omega
       have c5':(s.inputs.length:Int)=17:=by omega
       simp(disch:=first|(simp;done)|omega|rfl) [-getElem?_pos,A.lb4_1,hr,hf,a0,h3,hk1,hlt,lg,q1,q3,p1,p2,p3,p4,lz,c1',c2',c3',c4',c4,Zae]
       refine Zah [(2,2),(4,4),(62,81)] (fun e r st=>st=⟨h,N,[]⟩∧((e=.exit 2∧Zby s=true)∨(e=.ret∧Zby s=false∧r.get 2=some (.bool false)))) (fun m r st=>st=⟨h,N,[]⟩∧∃t,t+m=s.inputs.length∧r.get 4=some (.int .i64 t)∧Zby s=(s.inputs.drop t).all (fun n=>decide (n.length≤40))) s.inputs.length ?_ ?_ ?_
       ·exact⟨rfl,0,by omega,by simp,by simpa using hss⟩
       ·rintro m2 r2 _ hr2 hf2 ⟨rfl,t,ht,h4,hz2⟩
        rw[Zai]
        cases m2 with
        |zero=>
         have:t=s.inputs.length:=by omega
         rw[this,Yug,List.all_nil]at hz2
         rw[this]at h4
         simp(disch:=first|(simp;done)|omega|rfl) [-getElem?_pos,A.lb4_0,hr,hr2,hf2,a0,h3,h4,hk1,hlt,lg,q1,q3,p4,lz,hz2]
        |succ m2=>
         have htl:t<s.inputs.length:=by omega
         have htl':(t:Int)<(s.inputs.length:Int):=by omega
         obtain⟨n,hn⟩:=Zag htl
         obtain⟨b1,b2,b3,b4,b5,z1,z2,z3,z4⟩:=q5.at (Zbo hn)
         rw[Zao hn,List.all_cons]at hz2
         by_cases cn:n.length≤40
         ·have cn':¬40<(n.length:Int):=by omega
          simp(disch:=first|(simp;done)|omega|rfl) [-getElem?_pos,A.lb4_0,hr,hr2,hf2,a0,h3,h4,hk1,hlt,htl,htl',lg,q1,q3,p4,lz,z1,z3,z4,cn']
          exact⟨m2,by omega,t+1,by omega,by simp,by rw[hz2];simp[cn]⟩
         ·have cn':40<(n.length:Int):=by omega
          have hq:Zby s=false:=by rw[hz2];simp[cn]
          simp(disch:=first|(simp;done)|omega|rfl) [-getElem?_pos,A.lb4_0,hr,hr2,hf2,a0,h3,h4,hk1,hlt,htl,htl',lg,q1,q3,p4,lz,z1,z3,z4,cn',hq]
       ·rintro e r2 _ hr2 ⟨rfl,⟨rfl,hq⟩|⟨rfl,hq,h2⟩⟩
        ·have hfi:=hf.inner (D':=[(2,2),(4,4),(62,81)]) rfl (by simp) hr2
         have hz':g.all Zby=(g.drop (k+1)).all Zby:=by rw[hz,hq];simp
         simp(disch:=first|(simp;done)|omega|rfl) [-getElem?_pos,hr,hr2,h3,hfi]
         exact⟨m,by omega,rfl,k+1,by omega,by simp,hz'⟩
        ·have hfi:=hf.inner (D':=[(2,2),(4,4),(62,81)]) rfl (by simp) hr2
         have hq':=fal hq
         simp(disch:=first|(simp;done)|omega|rfl) [-getElem?_pos,hr,hr2,h2,hfi]
         simpa using hq'
     ·have c4':5<(s.inputs.length:Int):=by omega
      have c5':¬(s.inputs.length:Int)=17:=by omega
      have c5:¬s.inputs.length=17:=by omega
      have hq:=fal (by simp[Zby,c4])
      simp(disch:=first|(simp;done)|omega|rfl) [-getElem?_pos,A.lb4_1,hr,hf,a0,h3,hk1,hlt,lg,q1,q3,p1,p2,p3,p4,lz,c1',c2',c3',c4',c5,c5',Zae]
      simpa using hq
    ·have c3':20<(s.factor.length:Int):=by omega
     have hq:=fal (by simp[Zby,c3])
     simp(disch:=first|(simp;done)|omega|rfl) [-getElem?_pos,A.lb4_1,hr,hf,a0,h3,hk1,hlt,lg,q1,q3,p1,p2,p3,p4,lz,c1',c2',c3']
     simpa using hq
   ·have c2':40<(s.op.length:Int):=by omega
    have hq:=fal (by simp[Zby,c2])
    simp(disch:=first|(simp;done)|omega|rfl) [-getElem?_pos,A.lb4_1,hr,hf,a0,h3,hk1,hlt,lg,q1,q3,p1,p2,p3,p4,lz,c1',c2']
    simpa using hq
  ·have c1':40<(s.name.length:Int):=by omega
   have hq:=fal (by simp[Zby,c1])
   simp(disch:=first|(simp;done)|omega|rfl) [-getElem?_pos,A.lb4_1,hr,hf,a0,h3,hk1,hlt,lg,q1,q3,p1,p2,p3,p4,lz,c1']
   simpa using hq
def Yfm{h:T O}{N:Nat}{v:V}{g:List Stg}{w:List Nat}(hg:Gr h N v g)(hl:g.length<9223372036854775808)(hin:∀s∈g,s.inputs.length<9223372036854775808):A.C.call (.func 4 [] []) [v] ⟨h,N,w⟩=some (.bool (Zld g),⟨h,N,w⟩):=by
 apply Call.eq
 have lg:=hg.len
 rw[Zad,A.k4 (by simp)]
 by_cases hlen:g.length≤6∨g.length=17
 ·have hsg:Zld g=g.all Zby:=by simp[Zld,hlen]
  rw[hsg]
  have key:∀(K:List Kf) (r0:T V) (Q:Rs→Prop),True:=fun _ _ _=>trivial
  rcases hlen with hl6|hl17
  ·have a1:¬6<(g.length:Int):=by omega
   simp(disch:=first|(simp;done)|omega|rfl) [-getElem?_pos,A.b4,lg,a1]
   refine Zah [(2,4),(13,81)] (fun e r st=>st=⟨h,N,[]⟩∧((e=.exit 0∧g.all Zby=true)∨(e=.ret∧g.all Zby=false∧r.get 2=some (.bool false)))) (Ypz h N g) g.length ?_ ?_ ?_
   ·exact⟨rfl,0,by omega,by simp,by simp⟩
   ·exact Zon hg hl hin (by simp)
   ·rintro e r _ hr ⟨rfl,⟨rfl,hz⟩|⟨rfl,hz,h2⟩⟩
    ·simp(disch:=first|(simp;done)|omega|rfl) [-getElem?_pos,hr];simpa using hz
    ·simp(disch:=first|(simp;done)|omega|rfl) [-getElem?_pos,hr,h2];simpa using hz
  ·have a1:6<(g.length:Int):=by omega
   have a2:(g.length:Int)=17:=by omega
   simp(disch:=first|(simp;done)|omega|rfl) [-getElem?_pos,A.b4,lg,a1,a2,hl17,Zae]
   refine Zah [(2,4),(13,81)] (fun e r st=>st=⟨h,N,[]⟩∧((e=.exit 0∧g.all Zby=true)∨(e=.ret∧g.all Zby=false∧r.get 2=some (.bool false)))) (Ypz h N g) g.length ?_ ?_ ?_
   ·exact⟨rfl,0,by omega,by simp,by simp⟩
   ·exact Zon hg hl hin (by simp)
   ·rintro e r _ hr ⟨rfl,⟨rfl,hz⟩|⟨rfl,hz,h2⟩⟩
    ·simp(disch:=first|(simp;done)|omega|rfl) [-getElem?_pos,hr];simpa using hz
    ·simp(disch:=first|(simp;done)|omega|rfl) [-getElem?_pos,hr,h2];simpa using hz
 ·have hsg:Zld g=false:=by simp[Zld,hlen]
  have a1:6<(g.length:Int):=by omega
  have a2:¬(g.length:Int)=17:=by omega
  have a3:¬g.length=17:=by omega
  simp(disch:=first|(simp;done)|omega|rfl) [-getElem?_pos,A.b4,lg,a1,a2,a3,hsg,Zae]
variable {N:Nat} {h:T O} {u:V}
noncomputable def A.w9:=A.q Tryz.f9
noncomputable def A.lb9_0:=A.ql A.w9 0 []
noncomputable def A.b9:=(fun x0=>A.qb A.w9 [x0]) A.lb9_0
def A.c9:A.F 9=some ⟨25,[.tmp 2],A.b9⟩:=by kernel_rfl
def A.k9:=@A.kk 9 _ _ _ A.c9 rfl
def PgB(h:T O)(N0 N:Nat)(u:V)(g:List Stg)(k:Nat):Prop:=∃l:List (List V),Own 5 112 N0 h N u l∧l.length=k∧∀(j:Nat) (s:Stg),j<k→g[j]?=some s→∃inp,l[j]?=some (Zce s inp)∧Cp h N inp (strs s.inputs)
def PgB.keep{h':T O}{N0 N':Nat}{g:List Stg}{k:Nat}(s:PgB h N0 N u g k)(kk:Keeps h N h' N'):PgB h' N0 N' u g k:=by
 obtain⟨l,h1,h2,h3⟩:=s
 refine⟨l,h1.keep kk,h2,fun j s hj hs=>?_⟩
 obtain⟨inp,h4,h5⟩:=h3 j s hj hs
 exact⟨inp,h4,h5.keep kk⟩
def PgB.gr{N0:Nat}{g:List Stg}(s:PgB h N0 N u g g.length):Gr h N u g:=by
 obtain⟨l,h1,h2,h3⟩:=s
 refine⟨l,h1.sn,h2,fun j s hs=>?_⟩
 obtain⟨inp,h4,h5⟩:=h3 j s (Zar hs) hs
 exact⟨inp,h4,h5.sl⟩
def PgB.step{N0:Nat}{x inp:V}{g:List Stg}{k:Nat}{s:Stg}{w:List Nat}(p:PgB h N0 N u g k)(hN:N0≤N)(hs:g[k]?=some s)(hi:Cp h N inp (strs s.inputs))(hu:Zau ⟨h,N,w⟩ 5 x=some (1,Zce s inp))(hk:k<1000):
  ∃v' h' w',Zbg ⟨h,N,w⟩ 5 80 112 u x=some (v',⟨h',N+1,w'⟩)∧Zaa N0 w'=Zaa N0 w∧Keeps h N0 h' (N+1)∧PgB h' N0 (N+1) v' g (k+1):=by
 obtain⟨l,h1,h2,h3⟩:=p
 obtain⟨v',h',w',e1,e2,e3,e4,e5⟩:=Za9 (x:=Zce s inp) (u:=x) (bytes:=80) (w:=w) h1 hN (by decide) rfl hu (by omega)
 have hcp:∀{i:V} {m:List V},Cp h N i m→Cp h' (N+1) i m:=by
  rintro i m ⟨j,c,q1,q2,q3,q4⟩
  refine⟨j,c,q1,by omega,?_,q4⟩
  rcases e4 j with e|e|⟨o,n,c',q,e⟩
  ·rw[e];exact q3
  ·omega
  ·obtain⟨_,⟨_,hn⟩|⟨i',hv,_,_,hrow⟩⟩:=h1
   ·rw[e]at hn;cases hn
   ·rw[e]at hv
    simp only[V.slice.injEq]at hv
    rw[←hv.1,q3]at hrow
    simp at hrow
 refine⟨v',h',w',e1,e2,e3,l++[Zce s inp],e5,by simp[h2],fun j t hj ht=>?_⟩
 by_cases hjk:j<k
 ·obtain⟨i,q1,q2⟩:=h3 j t hjk ht
  exact⟨i,by rw[Yt2 (by omega)];exact q1,hcp q2⟩
 ·have:j=k:=by omega
  subst this
  obtain rfl:=Yt4 (hs.symm.trans ht)
  exact⟨inp,by rw[Yud (by omega)];simp[h2],hcp hi⟩
def Zx1{v:V}{g:List Stg}(hg:Gr h N v g)(hl:g.length<1000)(hil:∀s∈g,s.inputs.length<1000):Fn A.C 9 [v] h N (fun u h' n'=>Gr h' n' u g):=by
 intro w
 have lg:=hg.len
 rw[Zad,A.k9 (by simp)]
 simp(disch:=first|(simp;done)|omega|rfl) [-getElem?_pos,A.b9,lg]
 refine Zah [(3,3),(5,6),(9,23)] (fun e r st=>e=.exit 0∧Zaa N st.w=[]∧Keeps h N st.h st.n∧∃u,r.get 3=some u∧PgB st.h N st.n u g g.length) (fun m r st=>Zaa N st.w=[]∧Keeps h N st.h st.n∧∃k u,k+m=g.length∧r.get 9=some (.int .i64 k)∧r.get 3=some u∧PgB st.h N st.n u g k) g.length ?_ ?_ ?_
 ·exact⟨by simp,Keeps.refl,0,.nilslice,by omega,by simp,by simp,[],Own.nil,rfl,fun j s hj=>by omega⟩
 ·rintro m r ⟨H,n1,W⟩ hr hf2 ⟨hW,hK,k,u,hk,h9,h3,ho⟩
  simp only at hW hK ho
  rw[Zai]
  cases m with
  |zero=>
   have:k=g.length:=by omega
   subst this
   simp(disch:=first|(simp;done)|omega|rfl) [-getElem?_pos,A.lb9_0,hr,hf2,h9,hW,hK]
   exact⟨u,h3,ho⟩
  |succ m=>
   have hlt:k<g.length:=by omega
   obtain⟨s,hs⟩:=Zag hlt
   obtain⟨i,o,cc,e,rw,inp,q1,q2,q3,q4,q5⟩:=(hg.keep hK).at hs
   have hk1:(k:Int)<(g.length:Int):=by omega
   have hio:=q5.form.one
   unfold V.one at hio
   have d1:¬i=n1:=by omega
   have nle:=hK.le
   have hZ:=Zce s inp
   simp(disch:=first|(simp;done)|omega|rfl) [-getElem?_pos,A.lb9_0,hr,hf2,h9,h3,hk1,hlt,lg,q1,q3,q4,Zce,hio,d1,splice,Zal]
   have K1:=((((Keeps.refl (h:=H) (n:=n1)).new (.cells [.str [],.str [],.str [],.nilslice,.int .i64 0] 49 true)).set (i:=n1) (o:=.cells [.str s.name,.str s.op,.str s.factor,inp,.int .i64 s.cost] 49 true) (Ytf n1)).new (.cells [.str [],.str [],.str [],.nilslice,.int .i64 0] 112 true)).set (i:=n1+1) (o:=.cells [.str s.name,.str s.op,.str s.factor,inp,.int .i64 s.cost] 112 true) (by omega)
   have K2:=K1.new (.cells [] 9 true)
   obtain⟨v2,h2,n2,e1,e2,e3⟩:=Zvc (w:=(n1+1)::n1::W) (i:=n1+1+1) (by simp) (by omega) (q5.keep K2) (by rw[Za7];have:=hil s (Yti hs);omega)
   rw[e1]
   have f6:=e2.get (n1+1) (by omega)
   simp at f6
   have e2le:=e2.le
   have e3':=e3
   obtain⟨j,c,rfl,j1,j2,j3⟩:=e3
   have hH2:=(K2.trans e2).set (i:=n1+1) (o:=.cells (Zce s (.slice j 0 (strs s.inputs).length c 1)) 112 true) (by omega)
   have d2:¬n1+1=j:=fun hc=>by rw[←hc,f6]at j2;simp at j2
   have d3:n1+1<n2:=by omega
   have d4:¬n1+1=n2:=by omega
   have d5:¬n2=n1+1:=by omega
   simp(disch:=first|(simp;done)|omega|rfl) [-getElem?_pos,hr,hf2,h9,h3,f6,splice,Zal,d3,d4,d5]
   have hc2:Cp (h2.set (n1+1) (.cells [.str s.name,.str s.op,.str s.factor,.slice j 0 s.inputs.length c 1,.int .i64 s.cost] 112 true)) n2 (.slice j 0 s.inputs.length c 1) (strs s.inputs):=by
    refine⟨j,c,by rw[Za7],j1,?_,j3⟩
    rw[T.get_set,Yte (fun h=>d2 h.symm)];exact j2
   unfold Zce at hH2
   rw[Za7]at hH2
   have ho2:=(ho.keep hH2).keep ((Keeps.refl).new (.cells [.str s.name,.str s.op,.str s.factor,.slice j 0 s.inputs.length c 1,.int .i64 s.cost] 112 true))
   obtain⟨v3,h4,w4,a1,a2,a3,a4⟩:=ho2.step (x:=.slice n2 0 1 (some 1) 5) (w:=(n1+1)::(n1+1)::n1::W) (by omega) hs (hc2.keep (Keeps.refl.new _)) (by simp[Zau,St.row,Zce,slc]) (by omega)
   rw[a1]
   have wok:¬n1<N:=by omega
   have wok2:¬n1+1<N:=by omega
   have a2':Zaa N w4=[]:=by rw[a2];simp[Zaa,hW,wok,wok2]
   simp(disch:=first|(simp;done)|omega|rfl) [-getElem?_pos,hr,hf2,h9,a2']
   exact⟨m,by omega,((hK.trans hH2).new _).then a3,k+1,by omega,by simp,a4⟩
 ·rintro _ r ⟨H,n1,W⟩ hr ⟨rfl,hW,hK,u,h3,ho⟩
  simp only at hW hK ho
  simp(disch:=first|(simp;done)|omega|rfl) [-getElem?_pos,hr,h3,Ret,hW,hK]
  exact ho.gr
variable {N:Nat} {h:T O}
set_option maxHeartbeats 8000000
noncomputable def A.b3:=A.q Tryz.f3
def A.c3:A.F 3=some ⟨63,[.tmp 6],A.b3⟩:=by kernel_rfl
def A.k3:=@A.kk 3 _ _ _ A.c3 rfl
def Yf6{i:Nat}{w:List Nat}{a0 a1 a2:Int}(hi:i<N):A.C.call (.func 12 [] []) [.slice i 0 3 (some 3) 1] ⟨h.set i (.cells [.int .i64 a0,.int .i64 a1,.int .i64 a2] 3 true),N,w⟩=some (.int .i64 (Zak [a0,a1,a2]),⟨h.set i (.cells [.int .i64 a0,.int .i64 a1,.int .i64 a2] 3 true),N,w⟩):=
 Zky (l:=[a0,a1,a2]) (Sl.row (e:=3) (rw:=true) (cp:=some 3) hi (by simp[dI]) rfl (by simp)) (by simp)
def Ztj{g:List Stg}(h:Zld g=true):g.length≤17∧(∀s∈g,s.factor.length≤20∧s.inputs.length≤17):=by
 unfold Zld at h
 rw[Ytz,decide_eq_true_eq,Yue]at h
 refine⟨by omega,fun s hs=>?_⟩
 have:=h.2 s hs
 unfold Zby at this
 rw[Ytz,decide_eq_true_eq]at this
 omega
def Zxq{l:List FmR}(h:Zle l=true):l.length≤257∧∀f∈l,f.val.length≤20:=by
 unfold Zle at h
 rw[Ytz,decide_eq_true_eq,Yue]at h
 exact⟨by omega,fun f hf=>by simpa[shF]using h.2 f hf⟩
def Zn3{w:List Nat}(hP:P10 h N):A.C.call (.func 7 [] []) [] ⟨h,N,w⟩=some (.bool true,⟨h,N,w⟩):=by
 exact A.known hP.2
def Zq4{l:List Rc}(h:Zew l 8=true):l.length≤257∧∀x∈l,x.vs.length<1000∧∀s∈x.vs,s.length≤100000:=by
 unfold Zew at h
 rw[Ytz,decide_eq_true_eq,Yue]at h
 refine⟨by omega,fun x hx=>?_⟩
 have:=h.2 x hx
 unfold Zbf at this
 rw[Ytz,decide_eq_true_eq,Yue]at this
 refine⟨by omega,fun s hs=>?_⟩
 have:=of_decide_eq_true (this.2 s hs)
 omega
def Ztr{h:T O}{N:Nat}{u v z:V}{g:List Stg}{l:List FmR}{rs:List Rc}(hg:Gr h N u g)(hgl:g.length<9223372036854775808)(hin:∀s∈g,s.inputs.length<9223372036854775808)(hs:Sn 4 h N v (l.map fmC))(hll:l.length<9223372036854775808)(hz:RcS h N z rs)(hzl:rs.length<9223372036854775808)(hzi:∀x∈rs,x.vs.length<9223372036854775808)(hP:P10 h N):Fn A.C 3 [u,v,z] h N (fun x _ _=>x=.bool true):=by
 intro w
 rw[Zad,A.k3 (by simp)]
 have hsh:=fun w=>Yfm (w:=w) hg hgl hin
 have hsf:=fun w=>Yau (w:=w) hs hll
 have hsr:∀w,A.C.call (.func 6 [] []) [z,.int .i64 8] ⟨h,N,w⟩=some (.bool (Zew rs 8),⟨h,N,w⟩):=fun w=>Ynu (w:=w) (n:=8) hz hzl hzi (by decide)
 have haw:=fun w=>Zn3 (w:=w) hP
 cases hsg:Zld g with
 |false=>
  rw[hsg]at hsh
  simp(disch:=first|(simp;done)|omega|rfl) [-getElem?_pos,A.b3,hsh,haw,Ret]
  exact Keeps.refl
 |true=>
  rw[hsg]at hsh
  cases hsl:Zle l with
  |false=>
   rw[hsl]at hsf
   simp(disch:=first|(simp;done)|omega|rfl) [-getElem?_pos,A.b3,hsh,hsf,haw,Ret]
   exact Keeps.refl
  |true=>
   rw[hsl]at hsf
   cases hss:Zew rs 8 with
   |false=>
    rw[hss]at hsr
    simp(disch:=first|(simp;done)|omega|rfl) [-getElem?_pos,A.b3,hsh,hsf,hsr,haw,Ret]
    exact Keeps.refl
   |true=>
    rw[hss]at hsr
    obtain⟨h17,hfew⟩:=Ztj hsg
    obtain⟨l257,hv⟩:=Zxq hsl
    obtain⟨r257,hx⟩:=Zq4 hss
    have hPg:Yrk g:=fun s hs=>⟨(hfew s hs).1,by have:=(hfew s hs).2;omega⟩
    have hR:Yrq g:=hPg
    have hi3:∀s∈g,s.inputs.length<1000:=fun s hs=>by have:=(hfew s hs).2;omega
    have hv5:∀f∈l,f.val.length≤100000:=fun f hf=>by have:=hv f hf;omega
    simp(disch:=first|(simp;done)|omega|rfl) [-getElem?_pos,A.b3,hsh,hsf,hsr]
    refine Zaf (Zx1 hg (by omega) hi3) ?_
    rintro u1 h1 n1 k1 hg1
    simp(disch:=first|(simp;done)|omega|rfl) [-getElem?_pos,]
    refine Zaf (Ydj (hs.keepz k1) (by omega)) ?_
    rintro u2 h2 n2 k2 hs2
    have kk2:=k1.trans k2
    simp(disch:=first|(simp;done)|omega|rfl) [-getElem?_pos,]
    refine Zaf (Yg3 (hz.keep kk2) (by omega) (fun x hxm=>by have:=(hx x hxm).1;omega)) ?_
    rintro u3 h3 n3 k3 ⟨hz3,_⟩
    have kk3:=kk2.trans k3
    simp(disch:=first|(simp;done)|omega|rfl) [-getElem?_pos,]
    refine Zaf (Yky ((hg1.keep k2).keep k3) (by omega) hPg (hs2.keepz k3) hv (by omega) hz3.rcs (by omega) hx (hP.keep kk3)) ?_
    rintro _ h4 n4 k4 rfl
    have kk4:=kk3.trans k4
    simp(disch:=first|(simp;done)|omega|rfl) [-getElem?_pos,]
    refine Zaf (Ybc (hg.keep kk4) (by omega) hR) ?_
    rintro _ h5 n5 k5 rfl
    have kk5:=kk4.trans k5
    simp(disch:=first|(simp;done)|omega|rfl) [-getElem?_pos,]
    refine Zaf (Yku (hs.keepz kk5) hv5 (by omega)) ?_
    rintro _ h6 n6 k6 rfl
    have kk6:=kk5.trans k6
    simp(disch:=first|(simp;done)|omega|rfl) [-getElem?_pos,]
    refine Zaf (Yh2 (hz.keep kk6) (by omega) hx) ?_
    rintro _ h7 n7 k7 rfl
    have kk7:=kk6.trans k7
    have le7:=kk7.le
    have pf:=fun w=>Yf6 (h:=h7) (N:=n7+1) (i:=n7) (w:=w) (a0:=((chkGraph g:Nat):Int)) (a1:=Zcg l) (a2:=Zig rs) (by omega)
    rw[show Zak [((chkGraph g:Nat):Int),Zcg l,Zig rs]=Zxw g l rs from rfl]at pf
    have kX:Keeps h7 n7 (h7.set n7 (.cells [.int .i64 ((chkGraph g:Nat):Int),.int .i64 (Zcg l),.int .i64 (Zig rs)] 3 true)) (n7+1):=Keeps.refl.new _
    have kk8:=kk7.trans kX
    have haw8:=fun w=>Zn3 (w:=w) (hP.keep kk8)
    by_cases h0:Zxw g l rs=0
    ·have c1:((chkGraph g:Nat):Int)=0:=Zfn h0 _ (by simp)
     have c2:Zcg l=0:=Zfn h0 _ (by simp)
     have hG:=Zlm (show chkGraph g=0 by omega)
     simp(disch:=first|(simp;done)|omega|rfl) [-getElem?_pos,pf,splice,h0,Zae]
     refine Zaf (Yko (hg.keep kk8) hG (fun s hs=>(hfew s hs).1) (hs.keepz kk8) (Zpd c2).2 (Zzy c2) (by omega) (hz.keep kk8) (by omega) (fun x hxm=>(hx x hxm).1)) ?_
     rintro _ h9 n9 k9 rfl
     have haw9:=fun w=>Zn3 (w:=w) (hP.keep (kk8.trans k9))
     have e1:=Yks h0
     simp(disch:=first|(simp;done)|omega|rfl) [-getElem?_pos,e1,Zae,haw9,Ret]
     exact kk8.trans k9
    ·have hq1:(Zv1 g l rs).1=0:=by unfold Zv1;rw[Ytg h0]
     have hq2:(Zv1 g l rs).2=Zxw g l rs:=by unfold Zv1;rw[Ytg h0]
     simp(disch:=first|(simp;done)|omega|rfl) [-getElem?_pos,pf,splice,h0,Zae,hq1,hq2,haw8,Ret]
     exact kk8
open Go
inductive Zk8 where
 |nil
 |emp (b:Addr)
 |sl (b:Addr) (l c:Nat) (f:Nat→ByteArray)
def Zk8.val:Zk8→Value
 |.nil=>.slice none 0 0
 |.emp b=>.slice (some b) 0 0
 |.sl b l c f=>.slice (some b) l c
def Zk8.ok(W:World):Zk8→Prop
 |.sl b l c f=>l≤c∧0<c∧∀i,i<c→W.cell? (b.add i)=some (.string (f i))
 |_=>True
def Zk8.strs:Zk8→List Str
 |.sl b l c f=>(List.range l).map fun i=>(f i).data.toList
 |_=>[]
def eOf(W:World)(a:Addr):TypeId:=match W.heap[a.block]? with
 |some (.cells _ e _)=>e
 |_=>0
def Zw6{W:World}{a:Addr}{n:Nat}{f:Nat→Value}(hn:0<n)(hc:∀i,i<n→W.cell? (a.add i)=some (f i)):
  ∃c' lo hi,W.heap[a.block]?=some (.cells c' (eOf W a) (lo,hi))∧a.spot=none∧(∀i,i<n→c'[a.off+i]?=some (f i))∧a.off+n≤c'.size∧a.block<W.heap.size:=by
 have h0:=hc 0 hn
 have ha0:a.add 0=a:=by simp[Addr.add]
 rw[ha0]at h0
 obtain⟨c',e,fr,hb⟩:∃c' e fr,W.heap[a.block]?=some (.cells c' e fr):=by
  unfold World.cell? at h0
  split at h0
  ·rename_i c' e fr hb;exact⟨c',e,fr,hb⟩
  ·cases h0
 have hs:a.spot=none:=by
  unfold World.cell? at h0
  rw[hb]at h0
  simp only at h0
  split at h0
  ·cases h0
  ·rename_i h;simpa using h
 have hcell:∀i,i<n→c'[a.off+i]?=some (f i):=fun i hi=>by
  have:=hc i hi
  unfold World.cell? at this
  have e1:(a.add i).block=a.block:=by unfold Addr.add;split<;>rfl
  have e2:(a.add i).off=a.off+i:=by unfold Addr.add;split<;>simp_all
  have e3:(a.add i).spot=none:=by unfold Addr.add;split<;>simp_all
  rw[e1,hb]at this
  simp only[e2,e3,Option.isSome_none,Ytr,if_false]at this
  exact this
 have hlt:a.block<W.heap.size:=by
  rcases Nat.lt_or_ge a.block W.heap.size with h|h
  ·exact h
  ·rw[Array.getElem?_eq_none h]at hb;cases hb
 have hend:a.off+n≤c'.size:=by
  have:=hcell (n-1) (by omega)
  have h2:=(Array.getElem?_eq_some_iff.1 this).1
  omega
 obtain⟨lo,hi⟩:=fr
 exact⟨c',lo,hi,by rw[hb];simp[eOf,hb],hs,hcell,hend,hlt⟩
structure Yp1 where
 a:Addr
 n:Nat
 f:Nat→Value
 g:Nat→V
def Yp1.ok(W:World)(r:Yp1):Prop:=0<r.n∧(∀i,i<r.n→W.cell? (r.a.add i)=some (r.f i))∧∀i,i<r.n→(r.f i).oneCell'=true
def Zq6{P:Program}{tbl:Nat→Option Zen}{G:Nat}(hP:Zln P tbl G){x:Za1}(hx:Zb2 P x){F d:Nat}{f:FuncId}{mf:Zen}(hf:Zlu P f=some mf){args:List V}{xs:List Value}{v:V}{y:Value}{S:St}{μ:Mu}{W:World}
  (h:Ypn (Zgm mf (Zbk (Zgx x tbl F d) F) args S) v) (hh:Zbc P μ W S) (hS:S.w=[]) (hargs:VRs μ args xs) (hv:∀μ z,VR μ v z→z=y):
  Calls P f ⟨xs⟩ W fun e W'=>e=.returned y∧RowKit.Below W.heap.size W W':=by
 obtain⟨s,hrun,hw⟩:=h.ex
 obtain⟨fn,hfn,_⟩:=Zw8 hf
 have ih:=Zj7 hP.m hP.e hP.t hx F d
 have:=Ydi (Yea ih hP.e (Ydr hP.m hP.e ih) (Yit ih hP.e) (Zv3 ih) F) hfn hf hh hargs hrun
 refine callsIn_wide.1 (CallsIn.mono (F:=Fence.wide) this fun e W' he=>?_)
 cases e with
 |returned z=>
  obtain⟨μ',ws,h1,h2⟩:=he
  have hws:ws=[]:=by have:=h2.wl;rw[hw,hS]at this;simpa using this.symm
  subst hws
  exact⟨by rw[hv _ _ h1],h2.chg.os,h2.chg.tape,h2.chg.output,h2.chg.size,fun k hk=>h2.chg.block k hk fun i hi=>by cases hi⟩
 |panicked _=>exact he.elim
 |outgrown=>exact he.elim
def Cx.calls{P:Program}{C:Cx}{G:Nat}(hP:Zln P C.tbl G)(hx:Zb2 P C.x){f:Nat}{mf:Zen}(hf:Zlu P f=some mf)(ht:C.tbl f=some mf){args:List V}{xs:List Value}{v:V}{y:Value}{S:St}{μ:Mu}{W:World}
  (hn:∀st,C.x (.func f [] []) args st=none) (h:Fn C f args S.h S.n (fun u _ _=>u=v)) (hh:Zbc P μ W S) (hS:S.w=[]) (hargs:VRs μ args xs) (hv:∀μ z,VR μ v z→z=y):
  Calls P f ⟨xs⟩ W fun e W'=>e=.returned y∧RowKit.Below W.heap.size W W':=by
 obtain⟨u,st',hc,hw,hk,hu⟩:=(h []).ex
 subst hu
 have hS':(⟨S.h,S.n,[]⟩:St)=S:=by obtain⟨a,b,c⟩:=S;simp only at hS;subst hS;rfl
 rw[hS']at hc
 rw[Cx.call_eq]at hc
 unfold Zej at hc
 rw[hn]at hc
 simp only at hc
 obtain⟨n,hn'⟩:=Zkl (q:=fun n=>Zbk (C.at n) n) (fun n m hnm=>Zb9 (Cx.at_mono hnm) n m hnm) (fun _ _ _ _ _ e=>Cx.code_need e) hc
 unfold Zcu at hn'
 simp only[ht,List.nil_append,Yv4]at hn'
 exact Zq6 (F:=n) (d:=n) hP hx hf ⟨_,hn',hw⟩ hh hS hargs hv
end Go.Mx
