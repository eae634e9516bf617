/-slices-/
import Derived.Test.YtmoaaooccjbecaaGreatDoorOuT
set_option linter.all false
namespace Go.Mx
open Go Go.Proofs
variable {N:Nat} {h:T O} {v:V}
set_option maxRecDepth 1000000
noncomputable def A.w43:=A.q Tryz.f43
noncomputable def A.lb43_0:=A.ql A.w43 0 []
noncomputable def A.b43:=(fun x0=>A.qb A.w43 [x0]) A.lb43_0
def A.k43:=@A.kk 43 26 [.tmp 4] A.b43 (by kernel_rfl) rfl
def Ynv{u:V}{l m:List Str}{w:List Nat}(hu:Sl h N u (strs l))(hv:Sl h N v (strs m))(hl:l.length<1000000000):A.C.call (.func 43 [] []) [u,v] ⟨h,N,w⟩=some (.bool (decide (l=m)),⟨h,N,w⟩):=by
 apply Call.eq
 have l1:=hu.len
 have l2:=hv.len
 rw[Za7]at l1 l2
 rw[Zad,A.k43 (by simp)]
 by_cases hlm:l.length=m.length
 ·have hlm':(l.length:Int)=(m.length:Int):=by omega
  simp(disch:=first|(simp;done)|omega|rfl) [-getElem?_pos,A.b43,l1,l2,hlm,hlm',Zae]
  refine Zah [(4,5),(13,25)] (fun e r st=>st=⟨h,N,[]⟩∧((e=.exit 0∧l=m)∨(e=.ret∧l≠m∧r.get 4=some (.bool false)))) (fun j r st=>st=⟨h,N,[]⟩∧∃k,k+j=l.length∧r.get 13=some (.int .i64 k)∧l.take k=m.take k) l.length ?_ ?_ ?_
  ·exact⟨rfl,0,by omega,by simp,by simp⟩
  ·rintro j r _ hr hf ⟨rfl,k,hk,h5,he⟩
   rw[Zai]
   cases j with
   |zero=>
    obtain rfl:k=l.length:=by omega
    rw[Yuf,hlm,Yuf]at he
    simp(disch:=first|(simp;done)|omega|rfl) [-getElem?_pos,A.lb43_0,hr,hf,h5,l1,l2,hlm]
    exact he
   |succ j=>
    have hlt:k<l.length:=by omega
    have hlt2:k<m.length:=by omega
    obtain⟨s,hs⟩:=Zag hlt
    obtain⟨t,ht⟩:=Zag hlt2
    obtain⟨i,o,c,e,rw,q1,q2,q3,q4⟩:=hu.at (Zbo hs)
    obtain⟨i',o',c',e',rw',p1,p2,p3,p4⟩:=hv.at (Zbo ht)
    have hk1:(k:Int)<(l.length:Int):=by omega
    have hk2:(k:Int)<(m.length:Int):=by omega
    by_cases hst:s=t
    ·subst hst
     simp(disch:=first|(simp;done)|omega|rfl) [-getElem?_pos,A.lb43_0,hr,hf,h5,l1,l2,hk1,hk2,hlt,hlt2,q1,q2,q3,q4,p1,p2,p3,p4,Zbh,Zae,Zan.chk]
     exact⟨j,by omega,k+1,by omega,by simp,by rw[Yt8,Yt8,he,hs,ht]⟩
    ·have hne:l≠m:=fun hc=>hst (by rw[hc,ht]at hs;exact(Yt4 hs).symm)
     have hb:(s==t)=false:=by simpa using hst
     have hb2:(s !=t)=true:=by simpa using hst
     simp(disch:=first|(simp;done)|omega|rfl) [-getElem?_pos,A.lb43_0,hr,hf,h5,l1,l2,hk1,hk2,hlt,hlt2,q1,q2,q3,q4,p1,p2,p3,p4,Zbh,Zae,Zan.chk,hst,hb,hb2]
     exact hne
  ·rintro _ r _ hr ⟨rfl,⟨rfl,hq⟩|⟨rfl,hq,h4⟩⟩
   ·simp(disch:=first|(simp;done)|omega|rfl) [-getElem?_pos,hr,hq]
   ·simp(disch:=first|(simp;done)|omega|rfl) [-getElem?_pos,hr,hq,h4]
 ·have hlm':¬(l.length:Int)=(m.length:Int):=by omega
  have hne:l≠m:=fun hc=>hlm (by rw[hc])
  simp(disch:=first|(simp;done)|omega|rfl) [-getElem?_pos,A.b43,l1,l2,hlm',Zae,hne]
noncomputable def A.w38:=A.q Tryz.f38
noncomputable def A.lb38_0:=A.ql A.w38 0 []
noncomputable def A.b38:=(fun x0=>A.qb A.w38 [x0]) A.lb38_0
def A.k38:=@A.kk 38 22 [.tmp 4] A.b38 (by kernel_rfl) rfl
def Yg2{f:V}{l:List (List V)}{Q:Nat→T O→Nat→V→Prop}(Y:V→Prop)(hQ:∀j h n h' n' c u,Q j h n c→Upd (fun i=>i∈Zc8 u) h n h' n'→Zs2 29 Y h u→Q j h' n' c)(hs:Sn 3 h N v l)(hl:l.length<1000000000)(h1:∀(j:Nat) (x:List V),l[j]?=some x→x.length=3∧x.all V.one=true)(hf:∀(j:Nat) (x:List V),l[j]?=some x→∀h' n',Keeps h N h' n'→FnV A.C f [(.agg x)] h' n' (fun u h2 n2=>∃y,u=y∧[y].length=1∧[y].all V.one=true∧(∀q∈[y],Y q)∧Q j h2 n2 y)):Fn A.C 38 [v,f] h N (fun u h' n'=>∃out,Own 1 29 N h' n' u out∧out.length=l.length∧∀(j:Nat),j<l.length→∃y,out[j]?=some [y]∧Q j h' n' y):=by
 intro w
 have hlen:=hs.len
 rw[Zad,A.k38 (by simp)]
 simp(disch:=first|(simp;done)|omega|rfl) [-getElem?_pos,A.b38,hlen]
 refine Zah [(5,5),(7,7),(10,20)] (fun e r st=>e=.exit 0∧Zaa N st.w=[]∧Keeps h N st.h st.n∧∃u out,r.get 5=some u∧Own 1 29 N st.h st.n u out∧out.length=l.length∧∀(j:Nat),j<l.length→∃y,out[j]?=some [y]∧Q j st.h st.n y) (fun m r st=>Zaa N st.w=[]∧Keeps h N st.h st.n∧∃k u out,k+m=l.length∧r.get 10=some (.int .i64 k)∧r.get 5=some u∧Own 1 29 N st.h st.n u out∧out.length=k∧(out=[]→u=.nilslice)∧(∀c∈out,∀y∈c,Y y)∧∀(j:Nat),j<k→∃y,out[j]?=some [y]∧Q j st.h st.n y) l.length ?_ ?_ ?_
 ·exact⟨by simp,Keeps.refl,0,.nilslice,[],by omega,by simp,by simp,Own.nil,rfl,fun _=>rfl,by simp,fun j hj=>by omega⟩
 ·rintro m r ⟨H,n1,W⟩ hr hf2 ⟨hW,hK,k,u,out,hk,h10,h5,ho,hol,hnil,hY,hout⟩
  simp only at hW hK ho hout
  rw[Zai]
  cases m with
  |zero=>
   have hkk:k=l.length:=by omega
   subst hkk
   simp(disch:=first|(simp;done)|omega|rfl) [-getElem?_pos,A.lb38_0,hr,hf2,h10,hW,hK]
   exact⟨u,h5,out,ho,hol,hout⟩
  |succ m=>
   have hlt:k<l.length:=by omega
   obtain⟨x,hx⟩:=Zag hlt
   obtain⟨i,o,cc,e,rw,q1,q2,q3,q4⟩:=(hs.keep hK).at hx
   have hk1:(k:Int)<(l.length:Int):=by omega
   obtain⟨e1,e2⟩:=h1 k x hx
   have d1:¬i=n1:=by omega
   have d4:n1<n1+1:=by omega
   have kA:=(hK.new (.cells [(.int .i64 0),(.int .i64 0),.nilslice] 73 true)).set (i:=n1) (o:=.cells x 73 true) hK.le
   have e3:∀v:List V,(V.agg v).cells=v:=fun _=>rfl
   have e4:splice [(.int .i64 0),(.int .i64 0),.nilslice] 0 x=x:=by unfold splice;rw[e1];simp[e1]
   have e5:slc x 0 3=some x:=by unfold slc;rw[Ytg (by omega)];simp;exact Yto (by omega)
   simp(disch:=first|(simp;done)|omega|rfl) [-getElem?_pos, -V.cells, -V.one,A.lb38_0,hr,hf2,h10,h5,hk1,hlt,hlen,q1,q3,q4,Zam,d1,Zal,e3,e1,e2,e4,e5]
   refine Zg5 (hf k x hx _ _ kA) ?_
   rintro y h3 n3 k3 ⟨_,rfl,c1,c2,cY,c3⟩
   have kle3:=k3.le
   have kn:=hK.le
   have kB:=kA.trans k3
   have b1:V.one y=true:=by simpa using c2
   have b2:V.cells y=[y]:=by cases y<;>first|rfl|cases b1
   simp(disch:=first|(simp;done)|omega|rfl) [-getElem?_pos, -V.cells, -V.one,hr,hf2,h10,h5,b1,b2,splice]
   have ho3:Own 1 29 N (h3.set n3 (.cells [y] 29 true)) (n3+1) u out:=(ho.keep (((Keeps.refl.new _).set (Ytf n1)).trans k3)).keep (Keeps.refl.new _)
   obtain⟨v',h',w',f1,f2,f3,f4,fD,f5⟩:=Zdf (Y:=Y) (x:=[y]) (u:=.slice n3 0 1 (some 1) 1) (bytes:=8) (w:=n1::W) ho3 hnil hY (by omega) (by decide) c1 (by simp[Zau,St.row,slc]) (by omega)
   rw[f1]
   have wok:¬n1<N:=by omega
   have f6:Zaa N w'=[]:=by rw[f2];simp[Zaa,hW,wok]
   have kz:=(kB.new (.cells [y] 29 true)).then f3
   have k4:Keeps h3 n3 (h3.set n3 (.cells [y] 29 true)) (n3+1):=Keeps.refl.new _
   have hq4:Q k (h3.set n3 (.cells [y] 29 true)) (n3+1) y:=hQ _ _ _ _ _ _ .nilslice c3 k4.upd Zs2.nil
   simp(disch:=first|(simp;done)|omega|rfl) [-getElem?_pos,hr,hf2,h10,f6]
   refine⟨m,by omega,kz,k+1,by omega,by simp,out++[[y]],f5,by simp[hol],by simp,fun c' hc z hz=>?_,fun j hj=>?_⟩
   ·rcases Yt9.1 hc with hc|hc
    ·exact hY c' hc z hz
    ·simp only[Yu6]at hc;subst hc;exact cY z hz
   by_cases hjk:j<k
   ·obtain⟨y,g1,g2⟩:=hout j hjk
    exact⟨y,by rw[Yt2 (by omega)];exact g1,hQ _ _ _ _ _ _ _ (hQ _ _ _ _ _ _ .nilslice g2 ((((Keeps.refl.new _).set (Ytf n1)).trans k3).trans k4).upd Zs2.nil) f4 fD⟩
   ·obtain rfl:j=k:=by omega
    exact⟨y,by rw[Yud (by omega),hol];simp,hQ _ _ _ _ _ _ _ hq4 f4 fD⟩
 ·rintro _ r ⟨H,n1,W⟩ hr ⟨rfl,hW,hK,u,out,h5,ho,hol,hout⟩
  simp only at hW hK ho hout
  simp(disch:=first|(simp;done)|omega|rfl) [-getElem?_pos,hr,h5,Ret,hW,hK]
  exact⟨out,ho,hol,hout⟩
noncomputable def A.w40:=A.q Tryz.f40
noncomputable def A.lb40_0:=A.ql A.w40 0 []
noncomputable def A.b40:=(fun x0=>A.qb A.w40 [x0]) A.lb40_0
def A.k40:=@A.kk 40 19 [.tmp 4] A.b40 (by kernel_rfl) rfl
def Yhc{f:V}(l:List (List V))(p:Nat→Bool)(hs:Sn 4 h N v l)(hl:l.length<1152921504606846976)(hf:∀(j:Nat) (x:List V),l[j]?=some x→∀h' n',Keeps h N h' n'→FnV A.C f [.agg x] h' n' (fun u _ _=>u=.bool (p j))):Fn A.C 40 [v,f] h N (fun u _ _=>u=.int .i64 (Za6 p 0 l.length)):=by
 intro w
 have hlen:=hs.len
 rw[Zad,A.k40 (by simp)]
 simp(disch:=first|(simp;done)|omega|rfl) [-getElem?_pos,A.b40,hlen]
 refine Zah [(4,5),(8,18)] (fun e r st=>Zaa N st.w=[]∧Keeps h N st.h st.n∧((e=.exit 0∧Za6 p 0 l.length= -1)∨(e=.ret∧r.get 4=some (.int .i64 (Za6 p 0 l.length))))) (fun m r st=>Zaa N st.w=[]∧Keeps h N st.h st.n∧∃k,k+m=l.length∧r.get 8=some (.int .i64 k)∧Za6 p 0 l.length=Za6 p k m) l.length ?_ ?_ ?_
 ·exact⟨by simp,Keeps.refl,0,by omega,by simp,rfl⟩
 ·rintro m r ⟨H,n1,W⟩ hr hf2 ⟨hW,hK,k,hk,h8,hz⟩
  simp only at hW hK
  rw[Zai]
  cases m with
  |zero=>
   have:k=l.length:=by omega
   subst this
   simp only[Za6]at hz
   simp(disch:=first|(simp;done)|omega|rfl) [-getElem?_pos,A.lb40_0,hr,hf2,h8,hW,hK,hz]
  |succ m=>
   have hlt:k<l.length:=by omega
   obtain⟨c,hc⟩:=Zag hlt
   obtain⟨i,o,cc,e,rw,q1,q2,q3,q4⟩:=hs.at hc
   have q3:=(hK.get _ q2).trans q3
   have hk1:(k:Int)<(l.length:Int):=by omega
   simp only[Za6]at hz
   simp(disch:=first|(simp;done)|omega|rfl) [-getElem?_pos,A.lb40_0,hr,hf2,h8,hk1,hlt,hlen,q1,q3,q4,hW]
   refine Zg5 (hf k c hc _ _ hK) ?_
   rintro v h2 n2 k2 rfl
   have kk:=hK.trans k2
   cases hp:p k
   ·rw[hp]at hz
    simp(disch:=first|(simp;done)|omega|rfl) [-getElem?_pos,hr,hf2,h8,hW,kk]
    exact⟨m,by omega,k+1,by omega,by simp,by simpa using hz⟩
   ·rw[hp]at hz
    simp(disch:=first|(simp;done)|omega|rfl) [-getElem?_pos,hr,hf2,h8,hW,kk]
    simpa using hz.symm
 ·rintro e r ⟨H,n1,W⟩ hr ⟨hW,hK,⟨rfl,hz⟩|⟨rfl,h4⟩⟩
  ·simp only at hW hK
   simp(disch:=first|(simp;done)|omega|rfl) [-getElem?_pos,hr,hz,Ret,hW,hK]
  ·simp only at hW hK
   simp(disch:=first|(simp;done)|omega|rfl) [-getElem?_pos,hr,h4,Ret,hW,hK]
noncomputable def A.b41:=A.q Tryz.f41
def A.k41:=@A.kk 41 9 [.tmp 3] A.b41 (by kernel_rfl) rfl
def Ynx{f:FmR}{x:Rc}{u:V}{q:Nat}{e:TypeId}{rw:Bool}(hq:h.get q=some (.cells (rcC (x,u)) e rw))(hlt:q<N):FnV A.C (.func 41 [] [.ptr q 0]) [.agg (fmC f)] h N (fun y _ _=>y=.bool (decide (f.n=x.f))):=by
 intro w
 rw[Zad,A.k41 (by simp)]
 have d1:¬q=N:=by omega
 simp(disch:=first|(simp;done)|omega|rfl) [-getElem?_pos,A.b41,fmC,rcC,hq,d1,Zam,Ret,Zae]
 exact Keeps.refl.new _
variable {N:Nat} {h:T O} {v:V}
noncomputable def A.b48:=A.q Tryz.f48
def A.k48:=@A.kk 48 26 [.tmp 2] A.b48 (by kernel_rfl) rfl
noncomputable def A.w15:=A.q Tryz.f15
noncomputable def A.lb15_0:=A.ql A.w15 0 []
noncomputable def A.b15:=(fun x0=>A.qb A.w15 [x0]) A.lb15_0
def A.k15:=@A.kk 15 22 [.tmp 2] A.b15 (by kernel_rfl) rfl
noncomputable def A.w84:=A.q Tryz.f84
noncomputable def A.lb84_0:=A.ql A.w84 0 []
noncomputable def A.b84:=(fun x0=>A.qb A.w84 [x0]) A.lb84_0
def A.k84:=@A.kk 84 19 [.tmp 2] A.b84 (by kernel_rfl) rfl
noncomputable def A.w6:=A.q Tryz.f6
noncomputable def A.lb6_0:=A.ql A.w6 1 []
noncomputable def A.lb6_1:=(fun x0=>A.ql A.w6 0 [x0]) A.lb6_0
noncomputable def A.b6:=(fun x0=>A.qb A.w6 [x0]) A.lb6_1
def A.k6:=@A.kk 6 58 [.tmp 4] A.b6 (by kernel_rfl) rfl
def Ymn{l:List Str}(hs:Sl h N v (strs l))(hl:l.length<100000)(hf0:∀s∈l,s.length≤100000):Fn A.C 84 [v] h N (fun u _ _=>u=.int .i64 (Zak (l.map fun s=>((chkNum s:Nat):Int)))):=by
 intro w
 have hlen:=hs.len
 rw[Za7]at hlen
 rw[Zad,A.k84 (by simp)]
 simp(disch:=first|(simp;done)|omega|rfl) [-getElem?_pos,A.b84]
 refine Zah [(2,18)] (fun e r st=>Zaa N st.w=[]∧Keeps h N st.h st.n∧((e=.exit 0∧Zak (l.map fun s=>((chkNum s:Nat):Int))=0)∨(e=.ret∧r.get 2=some (.int .i64 (Zak (l.map fun s=>((chkNum s:Nat):Int))))))) (fun m r st=>Zaa N st.w=[]∧Keeps h N st.h st.n∧∃k,k+m=l.length∧r.get 3=some (.int .i64 k)∧Zak (l.map fun s=>((chkNum s:Nat):Int))=Zak ((l.drop k).map fun s=>((chkNum s:Nat):Int))) l.length ?_ ?_ ?_
 ·exact⟨by simp,Keeps.refl,0,by omega,by simp,by simp⟩
 ·rintro m r ⟨H,n1,W⟩ hr hf ⟨hW,hK,k,hk,h7,hz⟩
  simp only at hW hK
  rw[Zai]
  cases m with
  |zero=>
   obtain rfl:k=l.length:=by omega
   rw[Yug,Ywf,Zak]at hz
   simp(disch:=first|(simp;done)|omega|rfl) [-getElem?_pos,A.lb84_0,hr,hf,h7,hlen,hz,hW,hK]
  |succ m=>
   have hlt:k<l.length:=by omega
   obtain⟨s,hc⟩:=Zag hlt
   obtain⟨i,o,cc,e,rw,q1,q2,q3,q4⟩:=(hs.keep hK).at (Zbo hc)
   rw[Zao hc,Yuy,Zak]at hz
   have hk1:(k:Int)<(l.length:Int):=by omega
   simp(disch:=first|(simp;done)|omega|rfl) [-getElem?_pos,A.lb84_0,hr,hf,h7,hk1,hlt,hlen,q1,q3,q4]
   refine Zaf (Zmv (hf0 s (Yti hc))) ?_
   rintro _ h3 n3 k3 rfl
   have kk:=hK.trans k3
   by_cases h0:chkNum s=0
   ·rw[Ytg (by omega)]at hz
    simp(disch:=first|(simp;done)|omega|rfl) [-getElem?_pos,hr,hf,h7,h0,hW,Zae]
    exact⟨m,by omega,kk,k+1,by omega,by simp,by simpa using hz⟩
   ·rw[Yte (by omega)]at hz
    have h0':¬((chkNum s:Nat):Int)=0:=by omega
    simp(disch:=first|(simp;done)|omega|rfl) [-getElem?_pos,hr,hf,h7,h0,h0',hW,Zae,hz]
    exact kk
 ·rintro _ r ⟨H,n1,W⟩ hr ⟨hW,hK,⟨rfl,hz⟩|⟨rfl,h2⟩⟩
  ·simp only at hW hK
   simp(disch:=first|(simp;done)|omega|rfl) [-getElem?_pos,hr,hz,Ret,hW,hK]
  ·simp only at hW hK
   simp(disch:=first|(simp;done)|omega|rfl) [-getElem?_pos,hr,h2,Ret,hW,hK]
def Ymo{x:Rc}{u:V}(hu:Sl h N u (strs x.vs))(hl:x.vs.length<1000)(hs:∀s∈x.vs,s.length≤100000):Fn A.C 48 [.agg [.int .i64 x.f,.int .i64 x.t,u]] h N (fun v _ _=>v=.int .i64 (Ze1 x)):=by
 intro w
 have o1:=hu.form.one
 have o2:=hu.form.cells
 unfold V.one at o1
 unfold V.cells at o2
 have hlen:=hu.len
 rw[Za7]at hlen
 have k0:Keeps h N ((h.set N (.cells [.int .i64 x.f,.int .i64 x.t,u] 54 true)).set (N+1) (.cells [.int .i64 (if x.f<1∨999999999<x.f then 3 else 0),.int .i64 (if x.t<0∨100000000<x.t then 3 else 0)] 3 true)) (N+1+1):=(Keeps.refl.new _).new _
 have hi:(16<(x.vs.length:Int))=(16<x.vs.length):=by apply propext;omega
 have hfi:=fun w=>Zky (h:=(h.set N (.cells [.int .i64 x.f,.int .i64 x.t,u] 54 true)).set (N+1) (.cells [.int .i64 (if x.f<1∨999999999<x.f then 3 else 0),.int .i64 (if x.t<0∨100000000<x.t then 3 else 0)] 3 true)) (N:=N+1+1) (v:=.slice (N+1) 0 2 (some 2) 1) (l:=[if x.f<1∨999999999<x.f then 3 else 0,if x.t<0∨100000000<x.t then 3 else 0]) (w:=w) (Sl.row (e:=3) (rw:=true) (cp:=some 2) (by omega) (by simp[dI]) rfl (by simp)) (by simp)
 rw[Zad,A.k48 (by simp)]
 have fin:∀(r:T V),True:=fun _=>trivial
 by_cases c1:x.f<1∨999999999<x.f
 ·have e1:Ze1 x=3:=by simp[Ze1,Zjy,Zak,c1]
  simp only[Ytg c1,Zak]at hfi
  simp(disch:=first|(simp;done)|omega|rfl) [-getElem?_pos,A.b48,o1,o2,hlen,splice,Zam,slc,Zd3,c1,hfi,Zae,Zan.chk,Ret,e1]
  exact(Keeps.refl.new _).new _
 ·by_cases c2:x.t<0∨100000000<x.t
  ·have e1:Ze1 x=3:=by simp[Ze1,Zjy,Zak,c1,c2]
   simp only[Yte c1,Ytg c2,Zak]at hfi
   simp(disch:=first|(simp;done)|omega|rfl) [-getElem?_pos,A.b48,o1,o2,hlen,splice,Zam,slc,Zd3,c1,c2,hfi,Zae,Zan.chk,Ret,e1]
   exact(Keeps.refl.new _).new _
  ·simp only[Yte c1,Yte c2,Zak]at hfi k0
   by_cases c3:16<x.vs.length
   ·have e1:Ze1 x=5:=by simp[Ze1,Zjy,Zak,c1,c2,c3]
    simp(disch:=first|(simp;done)|omega|rfl) [-getElem?_pos,A.b48,o1,o2,hlen,splice,Zam,slc,Zd3,c1,c2,c3,hi,hfi,Zae,Zan.chk,Ret,e1]
    exact(Keeps.refl.new _).new _
   ·have e1:Ze1 x=Zak (x.vs.map fun s=>((chkNum s:Nat):Int)):=by simp[Ze1,Zjy,Zak,c1,c2,c3]
    simp(disch:=first|(simp;done)|omega|rfl) [-getElem?_pos,A.b48,o1,o2,hlen,splice,Zam,slc,Zd3,c1,c2,c3,hi,hfi,Zae,Zan.chk]
    refine Zaf (Ymn (hu.keep k0) (by omega) hs) ?_
    rintro _ h3 n3 k3 rfl
    simp(disch:=first|(simp;done)|omega|rfl) [-getElem?_pos,Ret,e1]
    exact k0.trans k3
def Zig(l:List Rc):Int:=if 256<l.length then 5 else Zak (l.map Ze1)
def Yh2{l:List Rc}(hs:RcS h N v l)(hl:l.length<100000)(hx:∀x∈l,x.vs.length<1000∧∀s∈x.vs,s.length≤100000):Fn A.C 15 [v] h N (fun u _ _=>u=.int .i64 (Zig l)):=by
 intro w
 have hlen:=hs.len
 rw[Zad,A.k15 (by simp)]
 by_cases c0:256<l.length
 ·have c0':256<(l.length:Int):=by omega
  simp(disch:=first|(simp;done)|omega|rfl) [-getElem?_pos,A.b15,hlen,c0',Zig,c0,Ret]
  exact Keeps.refl
 have c0':¬256<(l.length:Int):=by omega
 have e0:Zig l=Zak (l.map Ze1):=by simp[Zig,c0]
 rw[e0]
 simp(disch:=first|(simp;done)|omega|rfl) [-getElem?_pos,A.b15,hlen,c0']
 refine Zah [(2,4),(8,21)] (fun e r st=>Zaa N st.w=[]∧Keeps h N st.h st.n∧((e=.exit 0∧Zak (l.map Ze1)=0)∨(e=.ret∧r.get 2=some (.int .i64 (Zak (l.map Ze1)))))) (fun m r st=>Zaa N st.w=[]∧Keeps h N st.h st.n∧∃k,k+m=l.length∧r.get 3=some (.int .i64 k)∧Zak (l.map Ze1)=Zak ((l.drop k).map Ze1)) l.length ?_ ?_ ?_
 ·exact⟨by simp,Keeps.refl,0,by omega,by simp,by simp⟩
 ·rintro m r ⟨H,n1,W⟩ hr hf ⟨hW,hK,k,hk,h7,hz⟩
  simp only at hW hK
  rw[Zai]
  cases m with
  |zero=>
   obtain rfl:k=l.length:=by omega
   rw[Yug,Ywf,Zak]at hz
   simp(disch:=first|(simp;done)|omega|rfl) [-getElem?_pos,A.lb15_0,hr,hf,h7,hlen,hz,hW,hK]
  |succ m=>
   have hlt:k<l.length:=by omega
   obtain⟨x,hc⟩:=Zag hlt
   obtain⟨i,o,cc,e,rw,u,q1,q2,q3,q4,q5⟩:=(hs.keep hK).at hc
   obtain⟨p1,_⟩:=Zex q4
   unfold rcC at p1
   rw[Zao hc,Yuy,Zak]at hz
   have hk1:(k:Int)<(l.length:Int):=by omega
   obtain⟨x1,x2⟩:=hx x (Yti hc)
   simp(disch:=first|(simp;done)|omega|rfl) [-getElem?_pos, -Zam,A.lb15_0,hr,hf,h7,hk1,hlt,hlen,q1,q3,p1]
   refine Zaf (Ymo q5 x1 x2) ?_
   rintro _ h3 n3 k3 rfl
   have kk:=hK.trans k3
   by_cases h0:Ze1 x=0
   ·rw[Ytg h0]at hz
    simp(disch:=first|(simp;done)|omega|rfl) [-getElem?_pos,hr,hf,h7,h0,hW,Zae]
    exact⟨m,by omega,kk,k+1,by omega,by simp,by simpa using hz⟩
   ·rw[Yte h0]at hz
    simp(disch:=first|(simp;done)|omega|rfl) [-getElem?_pos,hr,hf,h7,h0,hW,Zae,hz]
    exact kk
 ·rintro _ r ⟨H,n1,W⟩ hr ⟨hW,hK,⟨rfl,hz⟩|⟨rfl,h2⟩⟩
  ·simp only at hW hK
   simp(disch:=first|(simp;done)|omega|rfl) [-getElem?_pos,hr,hz,Ret,hW,hK]
  ·simp only at hW hK
   simp(disch:=first|(simp;done)|omega|rfl) [-getElem?_pos,hr,h2,Ret,hW,hK]
def Zbf(x:Rc):Bool:=decide (x.vs.length≤7∨x.vs.length=17)&&x.vs.all fun s=>decide (s.length≤60)
def Zew(l:List Rc)(n:Nat):Bool:=decide (l.length≤n∨l.length=257)&&l.all Zbf
def SrI(h:T O)(N:Nat)(l:List Rc)(m:Nat)(r:T V)(st:St):Prop:=st=⟨h,N,[]⟩∧∃k,k+m=l.length∧r.get 5=some (.int .i64 k)∧l.all Zbf=(l.drop k).all Zbf
def Zvx{h:T O}{N:Nat}{v:V}{l:List Rc}(hs:RcS h N v l)(hl:l.length<9223372036854775808)(hin:∀x∈l,x.vs.length<9223372036854775808){r0:T V}(a0:r0.get 0=some v):
  ∀k r st,(∀t,inD [(4,6),(16,57)] t=false→r.get t=r0.get t)→Fx [(4,6),(16,57)] r0 58 ⟨r,58,[]⟩→SrI h N l k r st→Code A.C none A.lb6_1 ⟨r,58,[]⟩ st (Rd [(4,6),(16,57)] r0 58 (SrI h N l) k (fun e r st=>st=⟨h,N,[]⟩∧((e=.exit 0∧l.all Zbf=true)∨(e=.ret∧l.all Zbf=false∧r.get 4=some (.bool false))))):=by
 rintro m r _ hr hf ⟨rfl,k,hk,h3,hz⟩
 have lg:=hs.len
 rw[Zai]
 cases m with
 |zero=>
  have:k=l.length:=by omega
  subst this
  rw[Yug,List.all_nil]at hz
  simp(disch:=first|(simp;done)|omega|rfl) [-getElem?_pos,A.lb6_1,hr,hf,a0,h3,lg]
  simpa using hz
 |succ m=>
  have hlt:k<l.length:=by omega
  obtain⟨x,hx⟩:=Zag hlt
  obtain⟨i,o,cc,e,rw,y,q1,q2,q3,q4,q5⟩:=hs.at hx
  obtain⟨_,p1,p2,p3⟩:=Zex q4
  have hk1:(k:Int)<(l.length:Int):=by omega
  have lz:=q5.len
  rw[Za7]at lz
  have hinl:=hin x (Yti hx)
  rw[Zao hx,List.all_cons]at hz
  have fal:∀(hc:Zbf x=false),l.all Zbf=false:=fun hc=>by rw[hz,hc];rfl
  by_cases c4:x.vs.length≤7∨x.vs.length=17
  ·have hss:Zbf x=x.vs.all (fun n=>decide (n.length≤60)):=by simp[Zbf,c4]
   rcases c4 with c4|c4
   ·have c4':¬7<(x.vs.length:Int):=by omega
    simp(disch:=first|(simp;done)|omega|rfl) [-getElem?_pos,A.lb6_1,hr,hf,a0,h3,hk1,hlt,lg,q1,q3,p3,lz,c4']
    refine Zah [(4,4),(6,6),(38,57)] (fun e r st=>st=⟨h,N,[]⟩∧((e=.exit 2∧Zbf x=true)∨(e=.ret∧Zbf x=false∧r.get 4=some (.bool false)))) (fun m r st=>st=⟨h,N,[]⟩∧∃t,t+m=x.vs.length∧r.get 6=some (.int .i64 t)∧Zbf x=(x.vs.drop t).all (fun n=>decide (n.length≤60))) x.vs.length ?_ ?_ ?_
    ·exact⟨rfl,0,by omega,by simp,by simpa using hss⟩
    ·rintro m2 r2 _ hr2 hf2 ⟨rfl,t,ht,h4,hz2⟩
     rw[Zai]
     cases m2 with
     |zero=>
      have:t=x.vs.length:=by omega
      rw[this,Yug,List.all_nil]at hz2
      rw[this]at h4
      simp(disch:=first|(simp;done)|omega|rfl) [-getElem?_pos,A.lb6_0,hr,hr2,hf2,a0,h3,h4,hk1,hlt,lg,q1,q3,p3,lz,hz2]
     |succ m2=>
      have htl:t<x.vs.length:=by omega
      have htl':(t:Int)<(x.vs.length:Int):=by omega
      obtain⟨n,hn⟩:=Zag htl
      obtain⟨b1,b2,b3,b4,b5,z1,z2,z3,z4⟩:=q5.at (Zbo hn)
      rw[Zao hn,List.all_cons]at hz2
      by_cases cn:n.length≤60
      ·have cn':¬60<(n.length:Int):=by omega
       simp(disch:=first|(simp;done)|omega|rfl) [-getElem?_pos,A.lb6_0,hr,hr2,hf2,a0,h3,h4,hk1,hlt,htl,htl',lg,q1,q3,p3,lz,z1,z3,z4,cn']
       exact⟨m2,by omega,t+1,by omega,by simp,by rw[hz2];simp[cn]⟩
      ·have cn':60<(n.length:Int):=by omega
       have hq:Zbf x=false:=by rw[hz2];simp[cn]
       simp(disch:=first|(simp;done)|omega|rfl) [-getElem?_pos,A.lb6_0,hr,hr2,hf2,a0,h3,h4,hk1,hlt,htl,htl',lg,q1,q3,p3,lz,z1,z3,z4,cn',hq]
    ·rintro e r2 _ hr2 ⟨rfl,⟨rfl,hq⟩|⟨rfl,hq,h2⟩⟩
     ·have hfi:=hf.inner (D':=[(4,4),(6,6),(38,57)]) rfl (by simp) hr2
      have hz':l.all Zbf=(l.drop (k+1)).all Zbf:=by rw[hz,hq];simp
      simp(disch:=first|(simp;done)|omega|rfl) [-getElem?_pos,hr,hr2,h3,hfi]
      exact⟨m,by omega,rfl,k+1,by omega,by simp,hz'⟩
     ·have hfi:=hf.inner (D':=[(4,4),(6,6),(38,57)]) rfl (by simp) hr2
      have hq':=fal hq
      simp(disch:=first|(simp;done)|omega|rfl) [-getElem?_pos,hr,hr2,h2,hfi]
      simpa using hq'
   ·have c4':7<(x.vs.length:Int):=by omega
    have c5':(x.vs.length:Int)=17:=by omega
    simp(disch:=first|(simp;done)|omega|rfl) [-getElem?_pos,A.lb6_1,hr,hf,a0,h3,hk1,hlt,lg,q1,q3,p3,lz,c4',c4,Zae]
    refine Zah [(4,4),(6,6),(38,57)] (fun e r st=>st=⟨h,N,[]⟩∧((e=.exit 2∧Zbf x=true)∨(e=.ret∧Zbf x=false∧r.get 4=some (.bool false)))) (fun m r st=>st=⟨h,N,[]⟩∧∃t,t+m=x.vs.length∧r.get 6=some (.int .i64 t)∧Zbf x=(x.vs.drop t).all (fun n=>decide (n.length≤60))) x.vs.length ?_ ?_ ?_
    ·exact⟨rfl,0,by omega,by simp,by simpa using hss⟩
    ·rintro m2 r2 _ hr2 hf2 ⟨rfl,t,ht,h4,hz2⟩
     rw[Zai]
     cases m2 with
     |zero=>
      have:t=x.vs.length:=by omega
      rw[this,Yug,List.all_nil]at hz2
      rw[this]at h4
      simp(disch:=first|(simp;done)|omega|rfl) [-getElem?_pos,A.lb6_0,hr,hr2,hf2,a0,h3,h4,hk1,hlt,lg,q1,q3,p3,lz,hz2]
     |succ m2=>
      have htl:t<x.vs.length:=by omega
      have htl':(t:Int)<(x.vs.length:Int):=by omega
      obtain⟨n,hn⟩:=Zag htl
      obtain⟨b1,b2,b3,b4,b5,z1,z2,z3,z4⟩:=q5.at (Zbo hn)
      rw[Zao hn,List.all_cons]at hz2
      by_cases cn:n.length≤60
      ·have cn':¬60<(n.length:Int):=by omega
       simp(disch:=first|(simp;done)|omega|rfl) [-getElem?_pos,A.lb6_0,hr,hr2,hf2,a0,h3,h4,hk1,hlt,htl,htl',lg,q1,q3,p3,lz,z1,z3,z4,cn']
       exact⟨m2,by omega,t+1,by omega,by simp,by rw[hz2];simp[cn]⟩
      ·have cn':60<(n.length:Int):=by omega
       have hq:Zbf x=false:=by rw[hz2];simp[cn]
       simp(disch:=first|(simp;done)|omega|rfl) [-getElem?_pos,A.lb6_0,hr,hr2,hf2,a0,h3,h4,hk1,hlt,htl,htl',lg,q1,q3,p3,lz,z1,z3,z4,cn',hq]
    ·rintro e r2 _ hr2 ⟨rfl,⟨rfl,hq⟩|⟨rfl,hq,h2⟩⟩
     ·have hfi:=hf.inner (D':=[(4,4),(6,6),(38,57)]) rfl (by simp) hr2
      have hz':l.all Zbf=(l.drop (k+1)).all Zbf:=by rw[hz,hq];simp
      simp(disch:=first|(simp;done)|omega|rfl) [-getElem?_pos,hr,hr2,h3,hfi]
      exact⟨m,by omega,rfl,k+1,by omega,by simp,hz'⟩
     ·have hfi:=hf.inner (D':=[(4,4),(6,6),(38,57)]) rfl (by simp) hr2
      have hq':=fal hq
      simp(disch:=first|(simp;done)|omega|rfl) [-getElem?_pos,hr,hr2,h2,hfi]
      simpa using hq'
  ·have c4':7<(x.vs.length:Int):=by omega
   have c5':¬(x.vs.length:Int)=17:=by omega
   have c5:¬x.vs.length=17:=by omega
   have hq:=fal (by simp[Zbf,c4])
   simp(disch:=first|(simp;done)|omega|rfl) [-getElem?_pos,A.lb6_1,hr,hf,a0,h3,hk1,hlt,lg,q1,q3,p3,lz,c4',c5,c5',Zae]
   simpa using hq
def Ynu{l:List Rc}{w:List Nat}{n:Nat}(hs:RcS h N v l)(hl:l.length<9223372036854775808)(hin:∀x∈l,x.vs.length<9223372036854775808)(hn:n<100):A.C.call (.func 6 [] []) [v,.int .i64 n] ⟨h,N,w⟩=some (.bool (Zew l n),⟨h,N,w⟩):=by
 apply Call.eq
 have lg:=hs.len
 rw[Zad,A.k6 (by simp)]
 by_cases hlen:l.length≤n∨l.length=257
 ·have hsg:Zew l n=l.all Zbf:=by simp[Zew,hlen]
  rw[hsg]
  rcases hlen with hl6|hl17
  ·have a1:¬(n:Int)<(l.length:Int):=by omega
   simp(disch:=first|(simp;done)|omega|rfl) [-getElem?_pos,A.b6,lg,a1]
   refine Zah [(4,6),(16,57)] (fun e r st=>st=⟨h,N,[]⟩∧((e=.exit 0∧l.all Zbf=true)∨(e=.ret∧l.all Zbf=false∧r.get 4=some (.bool false)))) (SrI h N l) l.length ?_ ?_ ?_
   ·exact⟨rfl,0,by omega,by simp,by simp⟩
   ·exact Zvx hs hl hin (by simp)
   ·rintro e r _ hr ⟨rfl,⟨rfl,hz⟩|⟨rfl,hz,h2⟩⟩
    ·simp(disch:=first|(simp;done)|omega|rfl) [-getElem?_pos,hr];simpa using hz
    ·simp(disch:=first|(simp;done)|omega|rfl) [-getElem?_pos,hr,h2];simpa using hz
  ·have a1:(n:Int)<(l.length:Int):=by omega
   have a2:(l.length:Int)=257:=by omega
   have a4:(n:Int)<257:=by omega
   have a5:n<257:=by omega
   simp(disch:=first|(simp;done)|omega|rfl) [-getElem?_pos,A.b6,lg,a1,a2,a4,a5,hl17,Zae]
   refine Zah [(4,6),(16,57)] (fun e r st=>st=⟨h,N,[]⟩∧((e=.exit 0∧l.all Zbf=true)∨(e=.ret∧l.all Zbf=false∧r.get 4=some (.bool false)))) (SrI h N l) l.length ?_ ?_ ?_
   ·exact⟨rfl,0,by omega,by simp,by simp⟩
   ·exact Zvx hs hl hin (by simp)
   ·rintro e r _ hr ⟨rfl,⟨rfl,hz⟩|⟨rfl,hz,h2⟩⟩
    ·simp(disch:=first|(simp;done)|omega|rfl) [-getElem?_pos,hr];simpa using hz
    ·simp(disch:=first|(simp;done)|omega|rfl) [-getElem?_pos,hr,h2];simpa using hz
 ·have hsg:Zew l n=false:=by simp[Zew,hlen]
  have a1:(n:Int)<(l.length:Int):=by omega
  have a2:¬(l.length:Int)=257:=by omega
  have a3:¬l.length=257:=by omega
  simp(disch:=first|(simp;done)|omega|rfl) [-getElem?_pos,A.b6,lg,a1,a2,a3,hsg,Zae]
def Zut(l:List FmR)(n:Int):Int:=Za6 (fun j=>decide ((l[j]?.map FmR.n)=some n)) 0 l.length
def Zzk(l:List FmR)(x:Rc):FmR:=(l[(Zut l x.f).toNat]?).getD ⟨0,0,0,[]⟩
def rpE(l:List FmR)(rs:List Rc)(i:Nat):Int:=match rs[i]? with
 |none=>0
 |some x=>if Zut l x.f<0 then 10 else if 0<i∧x.f≤((rs[i-1]?).getD x).f then 11 else 0
def Zd4(rs:List Rc)(out:List (List Rat))(i:Nat):Bool:=match rs[i]?,out[i]? with
 |some x,some r=>!decide (x.vs=r.map Za0)
 |_,_=>false
def rpF(rs:List Rc)(out:List (List Rat)):Int:=if Za6 (Zd4 rs out) 0 rs.length<0 then 0 else ((rs[(Za6 (Zd4 rs out) 0 rs.length).toNat]?).map Rc.f).getD 0
def Zxw(g:List Stg)(l:List FmR)(rs:List Rc):Int:=Zak [(chkGraph g:Nat),Zcg l,Zig rs]
def Zv1(g:List Stg)(l:List FmR)(rs:List Rc):Int×Int:=if Zxw g l rs≠0 then (0,Zxw g l rs) else if Zak ((List.range rs.length).map (rpE l rs))≠0 then (0,Zak ((List.range rs.length).map (rpE l rs))) else match outQ g (rs.map (Zzk l))with
 |none=>(0,4)
 |some out=>(rpF rs out,0)
def Zsg{p:Nat→Bool}:∀{m k:Nat},0≤Za6 p k m→∃(j:Nat),Za6 p k m=(j:Int)∧k≤j∧j<k+m∧p j=true
 |0,k,h=>by simp[Za6]at h
 |m+1,k,h=>by
  simp only[Za6]at h ⊢
  by_cases hp:p k=true
  ·rw[Ytg hp];exact⟨k,rfl,Ytf _,by omega,hp⟩
  ·rw[Yte hp]at h ⊢
   obtain⟨j,e,h1,h2,h3⟩:=Zsg h
   exact⟨j,e,by omega,by omega,h3⟩
def Zqb{l:List FmR}{x:Rc}(h:¬Zut l x.f<0):∃(j:Nat) (f:FmR),Zut l x.f=(j:Int)∧j<l.length∧l[j]?=some f∧f.n=x.f∧Zzk l x=f:=by
 obtain⟨j,e,h1,h2,h3⟩:=Zsg (p:=fun j=>decide ((l[j]?.map FmR.n)=some x.f)) (m:=l.length) (k:=0) (by unfold Zut at h;omega)
 have hj:j<l.length:=by omega
 obtain⟨f,hf⟩:=Zag hj
 have e':Zut l x.f=(j:Int):=e
 refine⟨j,f,e',hj,hf,?_,?_⟩
 ·simpa[hf]using h3
 ·unfold Zzk
  rw[e']
  simp[hf]
def Ziz{p:Nat→Bool}{n:Nat}:∀{k:Nat},k≤n→(∀j,j<k→p j=false)→Za6 p 0 n=Za6 p k (n-k)
 |0,_,_=>rfl
 |k+1,hk,h=>by
  rw[Ziz (k:=k) (by omega) (fun j hj=>h j (by omega)),show n-k=(n-(k+1))+1 by omega]
  simp only[Za6]
  rw[Yte (by rw[h k (by omega)];simp)]
def Zv0{rs:List Rc}{out:List (List Rat)}(h:∀j,j<rs.length→Zd4 rs out j=false):rpF rs out=0:=by
 unfold rpF
 rw[Ziz (Ytf _) h,Nat.sub_self]
 rfl
def Yiu{rs:List Rc}{out:List (List Rat)}{k:Nat}{x:Rc}(hk:rs[k]?=some x)(h:∀j,j<k→Zd4 rs out j=false)(hb:Zd4 rs out k=true):rpF rs out=x.f:=by
 have hl:=Zar hk
 have e:Za6 (Zd4 rs out) 0 rs.length=(k:Int):=by
  rw[Ziz (k:=k) (by omega) h,show rs.length-k=(rs.length-k-1)+1 by omega]
  simp only[Za6]
  rw[Ytg hb]
 unfold rpF
 rw[e,Yte (by omega)]
 simp[hk]
def Zxv{g:List Stg}{l:List FmR}{rs:List Rc}(h:Zak [((chkGraph g:Nat):Int),Zcg l,if 256<rs.length then 5 else 0]≠0):Zxw g l rs=Zak [((chkGraph g:Nat):Int),Zcg l,if 256<rs.length then 5 else 0]:=by
 unfold Zxw
 simp only[Zak]at h ⊢
 by_cases h1:((chkGraph g:Nat):Int)=0
 ·by_cases h2:Zcg l=0
  ·rw[Ytg h1,Ytg h2]at h ⊢
   rw[Ytg h1,Ytg h2]
   by_cases h3:256<rs.length
   ·simp[Zig,h3]
   ·simp[h3]at h
  ·rw[Ytg h1,Yte h2,Ytg h1,Yte h2]
 ·rw[Yte h1,Yte h1]
def Ztt{g:List Stg}{l:List FmR}{rs:List Rc}(h:Zak [((chkGraph g:Nat):Int),Zcg l,if 256<rs.length then 5 else 0]=0):Zxw g l rs=Zak (rs.map Ze1)∧((chkGraph g:Nat):Int)=0∧Zcg l=0∧rs.length≤256:=by
 have h1:((chkGraph g:Nat):Int)=0:=Zfn h _ (by simp)
 have h2:Zcg l=0:=Zfn h _ (by simp)
 have h3:(if 256<rs.length then (5:Int) else 0)=0:=Zfn h _ (by simp)
 have h4:¬256<rs.length:=fun hc=>by rw[Ytg hc]at h3;cases h3
 refine⟨?_,h1,h2,by omega⟩
 unfold Zxw
 simp only[Zak]
 rw[Ytg h1,Ytg h2]
 simp only[Zig,Yte h4]
 by_cases h5:Zak (rs.map Ze1)=0
 ·rw[Ytg h5];exact h5.symm
 ·rw[Yte h5]
set_option maxHeartbeats 4000000
noncomputable def A.w49:=A.q Tryz.f49
noncomputable def A.lb49_0:=A.ql A.w49 1 []
noncomputable def A.lb49_1:=(fun x0=>A.ql A.w49 0 [x0]) A.lb49_0
noncomputable def A.b49:=(fun x0=>A.qb A.w49 [x0]) A.lb49_1
def A.k49:=@A.kk 49 38 [.tmp 4] A.b49 (by kernel_rfl) rfl
def Zes(l:List FmR)(ns:List Int):List FmR:=l.filter fun f=>decide (f.n∈ns)
def Zu1{l:List FmR}{ns:List Int}{k:Nat}{f:FmR}(h:l[k]?=some f):Zes (l.take (k+1)) ns=Zes (l.take k) ns++if f.n∈ns then [f] else []:=by
 unfold Zes
 rw[Yt8,h,List.filter_append]
 congr 1
 by_cases hm:f.n∈ns<;>simp[hm]
def Zsq{h:T O}{N:Nat}{v z:V}{l:List FmR}{ns:List Int}(hs:Sn 4 h N v (l.map fmC))(hl:l.length<1000)(hz:Sl h N z (dI ns))(hn:ns.length<1000):Fn A.C 49 [v,z] h N (fun u h' n'=>Sn 4 h' n' u ((Zes l ns).map fmC)):=by
 intro w
 have hlv:=hs.len
 rw[Ytx]at hlv
 have hlz:=hz.len
 rw[Zat]at hlz
 rw[Zad,A.k49 (by simp)]
 simp(disch:=first|(simp;done)|omega|rfl) [-getElem?_pos,A.b49]
 refine Zah [(5,36)] (fun e r st=>e=.exit 0∧Zaa N st.w=[]∧Keeps h N st.h st.n∧∃u,r.get 5=some u∧Own 4 51 N st.h st.n u ((Zes l ns).map fmC)) (fun m r st=>Zaa N st.w=[]∧Keeps h N st.h st.n∧∃k u,k+m=l.length∧r.get 6=some (.int .i64 k)∧r.get 5=some u∧Own 4 51 N st.h st.n u ((Zes (l.take k) ns).map fmC)) l.length ?_ ?_ ?_
 ·exact⟨by simp,Keeps.refl,0,.nilslice,by omega,by simp,by simp,by simpa[Zes]using Own.nil⟩
 ·rintro m r ⟨H,n1,W⟩ hr hf ⟨hW,hK,k,u,hk,h6,h5,hO⟩
  simp only at hW hK hO
  rw[Zai]
  have le:=hK.le
  cases m with
  |zero=>
   obtain rfl:k=l.length:=by omega
   rw[Yuf]at hO
   simp(disch:=first|(simp;done)|omega|rfl) [-getElem?_pos,A.lb49_1,hr,hf,h6,h5,hlv,hW,hK]
   exact hO
  |succ m=>
   have hlt:k<l.length:=by omega
   have hlt':(k:Int)<(l.length:Int):=by omega
   obtain⟨f,hfk⟩:=Zag hlt
   have hct:=Zu1 (ns:=ns) hfk
   obtain⟨i0,o0,c0,e0,rw0,q1,q2,q3,q4⟩:=(hs.keepz hK).at (show (l.map fmC)[k]?=some (fmC f) by rw[Ytl,hfk];rfl)
   have u0:c0[o0+k*4]?=some (.int .i64 f.n):=Zjt (j:=0) q4 (by decide)
   simp(disch:=first|(simp;done)|omega|rfl) [-getElem?_pos,A.lb49_1,hr,hf,h6,h5,hlv,hlt,hlt']
   refine Zah [(5,5),(7,7),(14,36)] (fun e r st=>e=.exit 2∧Zaa N st.w=[]∧Keeps h N st.h st.n∧∃u,r.get 5=some u∧Own 4 51 N st.h st.n u ((Zes (l.take (k+1)) ns).map fmC)) (fun m r st=>Zaa N st.w=[]∧st.h=H∧st.n=n1∧∃j,j+m=ns.length∧r.get 7=some (.int .i64 j)∧r.get 5=some u∧∀t,t<j→ns[t]?≠some f.n) ns.length ?_ ?_ ?_
   ·exact⟨by simpa using hW,rfl,rfl,0,by omega,by simp,by simp[hr,h5],fun t ht=>by omega⟩
   ·rintro m2 r2 ⟨H2,n2,W2⟩ hr2 hf2 ⟨hW2,e1,e2,j,hj,h7,h5',hne⟩
    simp only at e1 e2 hW2
    subst e1 e2
    rw[Zai]
    cases m2 with
    |zero=>
     obtain rfl:j=ns.length:=by omega
     have hnm:¬f.n∈ns:=fun hc=>by
      obtain⟨t,ht⟩:=Yuw hc
      exact hne t (Zar ht) ht
     rw[Yte hnm,Yv4]at hct
     rw[hct]
     simp(disch:=first|(simp;done)|omega|rfl) [-getElem?_pos,A.lb49_0,hr,hr2,hf2,h6,h7,h5',hlz,hW2,hK]
     exact hO
    |succ m2=>
     have hjt:j<ns.length:=by omega
     have hjt':(j:Int)<(ns.length:Int):=by omega
     obtain⟨y,hy⟩:=Zag hjt
     obtain⟨b1,b2,b3,b4,b5,z1,z2,z3,z4⟩:=(hz.keep hK).at (show (dI ns)[j]?=some (.int .i64 y) by simp[dI,hy])
     by_cases hyn:f.n=y
     ·have hm:f.n∈ns:=by rw[hyn];exact Yti hy
      rw[Ytg hm]at hct
      rw[hct]
      have hcf:(V.agg (fmC f)).cells=fmC f:=rfl
      have hlf:(fmC f).length=4:=rfl
      have hof2:(fmC f).all V.one=true:=rfl
      have spf:splice [V.int .i64 0,.int .i64 0,.int .i64 0,.str []] 0 (fmC f)=fmC f:=rfl
      have kY:Keeps H2 n2 (H2.set n2 (.cells (fmC f) 51 true)) (n2+1):=Keeps.refl.new _
      obtain⟨v',h',w',f1,f2,f3,f4,f5⟩:=Za9 (x:=fmC f) (u:=.slice n2 0 1 (some 1) 4) (bytes:=40) (w:=W2) (hO.keep kY) (by omega) (by decide) rfl (by simp[Zau,St.row,slc,fmC]) (by
       have:=List.length_filter_le (fun f=>decide (f.n∈ns)) (l.take k)
       simp only[Ytx,Zes,Ytu]at this ⊢
       omega)
      have hW3:Zaa N w'=[]:=by rw[f2];exact hW2
      simp(disch:=first|(simp;done)|omega|rfl) [-getElem?_pos, -V.cells, -V.one,A.lb49_0,hr,hr2,hf2,h6,h7,h5',hlz,hlv,hlt,hlt',hjt,hjt',q1,q2,q3,q4,u0,z1,z2,z3,z4,hyn,Zae,Zan.chk,hcf,hlf,hof2,spf,Za3,f1,hW3]
      exact⟨(hK.trans kY).then f3,f5⟩
     ·simp(disch:=first|(simp;done)|omega|rfl) [-getElem?_pos,A.lb49_0,hr,hr2,hf2,h6,h7,h5',hlz,hlv,hlt,hlt',hjt,hjt',q1,q2,q3,q4,u0,z1,z2,z3,z4,hyn,Zae,Zan.chk,hW2]
      exact⟨m2,by omega,j+1,by omega,by simp,fun t ht=>by
       by_cases e:t=j
       ·subst e;rw[hy];intro hc;exact hyn (Yt4 hc).symm
       ·exact hne t (by omega)⟩
   ·rintro _ r2 ⟨H2,n2,W2⟩ hr2 ⟨rfl,hW2,hK2,u2,h5',hO2⟩
    have hfi:=hf.inner (D':=[(5,5),(7,7),(14,36)]) rfl (by simp) hr2
    simp only at hW2 hK2 hO2
    simp(disch:=first|(simp;done)|omega|rfl) [-getElem?_pos,hr,hr2,h6,h5',hfi,hW2,hK2]
    exact⟨m,by omega,k+1,by omega,by simp,hO2⟩
 ·rintro _ r ⟨H,n1,W⟩ hr ⟨rfl,hW,hK,u,h5,hO⟩
  simp only at hW hK hO
  simp(disch:=first|(simp;done)|omega|rfl) [-getElem?_pos,hr,h5,Ret,hW,hK]
  exact hO.sn
end Go.Mx
