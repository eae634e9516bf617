/-Maps with integers as keys-/
import Derived.Test.YtmhlaoiplmemiaaGreatDoorSpE
set_option linter.all false
namespace Go.Mx
open Go Go.Proofs
variable {M N i:Nat} {h:T O} {k:Int} {m:List (List Rat)} {o o0:O} {u v:V} {w:List Nat}
set_option maxRecDepth 1000000
def esK(ks:List (Int×V)):List (V×V):=ks.map fun p=>(.int .i64 p.1,p.2)
def Zok(k:Int):List (Int×V)→Nat→Option (Nat×V)
 |[],_=>none
 |(a,v)::t,i=>if k=a then some (i,v) else Zok k t (i+1)
def Zz7(k:Int)(v:V):List (Int×V)→List (Int×V)
 |[]=>[(k,v)]
 |(a,x)::t=>if k=a then (k,v)::t else (a,x)::Zz7 k v t
def Zz6(ks:List (Int×V))(k:Int):V:=match Zok k ks 0 with
 |some (_,v)=>v
 |none=>.nilslice
def Ym2{k:Int}:∀{ks:List (Int×V)} {i:Nat},findV (.int .i64) (.int .i64 k) (esK ks) i=some (Zok k ks i)
 |[],i=>rfl
 |(a,v)::t,i=>by
  have ih:=Ym2 (k:=k) (ks:=t) (i:=i+1)
  unfold esK at ih ⊢
  rw[Yvq]
  unfold findV
  have he:Zy3 (.int .i64) (.int .i64 k) (.int .i64 a)=some (k==a):=by simp[Zy3]
  simp only[he]
  unfold Zok
  by_cases e:k=a
  ·subst e;simp
  ·have:(k==a)=false:=by simpa using e
   rw[this,Yur e]
   exact ih
def Ze2{k:Int}:∀{ks:List (Int×V)} {i:Nat},Zok k ks i=(Zok k ks 0).map fun p=>(p.1+i,p.2)
 |[],i=>rfl
 |(a,v)::t,i=>by
  unfold Zok
  by_cases e:k=a
  ·simp[e]
  ·rw[Yur e,Yur e,Ze2 (k:=k) (ks:=t) (i:=i+1),Ze2 (k:=k) (ks:=t) (i:=0+1),Option.map_map]
   congr 1
   funext p
   simp
   omega
def Zrg{k:Int}{v:V}:∀{ks:List (Int×V)} {j:Nat} {x:V},Zok k ks 0=some (j,x)→(esK ks).set j (.int .i64 k,v)=esK (Zz7 k v ks)
 |[],j,x,h=>by cases h
 |(a,y)::t,j,x,h=>by
  unfold Zok at h
  unfold Zz7
  by_cases e:k=a
  ·subst e
   rw[Yuu rfl]at h ⊢
   simp at h
   obtain⟨rfl,_⟩:=h
   rfl
  ·rw[Yur e]at h ⊢
   rw[Ze2]at h
   cases hf:Zok k t 0 with
   |none=>rw[hf]at h;cases h
   |some p=>
    obtain⟨j',x'⟩:=p
    rw[hf]at h
    simp at h
    obtain⟨rfl,rfl⟩:=h
    have ih:=Zrg (v:=v) hf
    unfold esK at ih ⊢
    simp only[Yvq,List.set_cons_succ,ih]
def Zrh{k:Int}{v:V}:∀{ks:List (Int×V)},Zok k ks 0=none→esK ks++[(.int .i64 k,v)]=esK (Zz7 k v ks)
 |[],h=>rfl
 |(a,y)::t,h=>by
  unfold Zok at h
  unfold Zz7
  by_cases e:k=a
  ·rw[Yuu e]at h;cases h
  ·rw[Yur e]at h ⊢
   rw[Ze2]at h
   have hf:Zok k t 0=none:=by simpa using h
   have ih:=Zrh (v:=v) hf
   unfold esK at ih ⊢
   simp only[Yvq,Yxb,ih]
def Zpz{k k':Int}{v:V}:∀{ks:List (Int×V)},Zz6 (Zz7 k v ks) k'=if k'=k then v else Zz6 ks k'
 |[]=>by
  unfold Zz7 Zz6 Zok
  by_cases e:k'=k
  ·simp[e]
  ·simp[e,Zok]
 |(a,x)::t=>by
  have ih:=Zpz (k:=k) (k':=k') (v:=v) (ks:=t)
  unfold Zz6 at ih ⊢
  unfold Zz7
  by_cases e:k=a
  ·subst e
   rw[Yuu rfl]
   unfold Zok
   by_cases e2:k'=k
   ·simp[e2]
   ·rw[Yur e2,Yur e2,Yur e2]
  ·rw[Yur e]
   unfold Zok
   by_cases e2:k'=a
   ·have:k'≠k:=fun hc=>e (by rw[←hc,e2])
    simp[e2]
    intro hc
    exact absurd hc.symm e
   ·rw[Yur e2,Yur e2,Ze2,Ze2 (k:=k') (ks:=t) (i:=0+1)]
    cases h1:Zok k' (Zz7 k v t) 0<;>cases h2:Zok k' t 0<;>rw[h1,h2]at ih<;>simpa using ih
def Ylp{z bytes:Nat}{e:TypeId}{N0:Nat}{v':V}{l:List (List V)}{x:List V}{st:St}(s:Own z e N0 h N v l)(hz:0<z)(hx:x.length=z)(hu:Zat ⟨h,N,w⟩ z u=some (1,x))(ha:Za6 ⟨h,N,w⟩ z bytes e v u=some (v',st)):Zci v'=[N]∧st.w=Zci v++w:=by
 have h10:¬(1:Nat)=0:=by decide
 unfold Za6 at ha
 rw[hu]at ha
 obtain⟨hl,⟨_,rfl⟩|⟨i,rfl,h2,h3,h4⟩⟩:=s
 ·simp only[h10,if_false]at ha
  split at ha
  ·simp at ha
   rw[←ha.1,←ha.2]
   exact⟨rfl,rfl⟩
  ·cases ha
 ·have hfl:=Za8 hl
  simp only[h10,if_false,St.row,h4]at ha
  split at ha
  ·cases ha
  ·rw[Yuu trivial,Yur (by rw[hfl,Ywn,Yvv];omega)]at ha
   split at ha
   ·simp at ha
    rw[←ha.1,←ha.2]
    exact⟨rfl,rfl⟩
   ·cases ha
def MfO.push2{N0:Nat}{x:V}{l:List Rat}(s:MfO N0 h N v m)(hu:FrT h N u l)(hN:N0≤N)(hx:Zat ⟨h,N,w⟩ 1 x=some (1,[u]))(hm:m.length<100000):
  ∃v' h' w',Za6 ⟨h,N,w⟩ 1 24 79 v x=some (v',⟨h',N+1,w'⟩)∧oldIds N0 w'=oldIds N0 w∧Keeps h N0 h' (N+1)∧MfO N0 h' (N+1) v' (m++[l])∧Zci v'=[N]∧Upd (fun i=>i∈Zci v) h N h' (N+1)∧Zos 79 NW h v∧w'=Zci v++w:=by
 obtain⟨v',h',w',f1,f2,f3,f4⟩:=s.push hu hN hx hm
 obtain⟨us,h1,h2,h3,h4⟩:=s
 obtain⟨v1,h1',w1,g1,g2,g3,g4,gD,g5⟩:=Zco (Y:=NW) (x:=[u]) (u:=x) (bytes:=24) (w:=w) h1 (fun h0=>h2 (List.map_eq_nil_iff.1 h0)) (fun c hc y hy=>by
  obtain⟨z,hz,rfl⟩:=Yvb.1 hc
  obtain rfl:y=z:=by simpa using hy
  obtain⟨j,hj⟩:=Ywg hz
  obtain⟨r,hr⟩:=Zaf (l:=m) (k:=j) (by have:=Zaz hj;omega)
  obtain⟨u',a1,a2⟩:=h4 j r hr
  rw[hj]at a1
  obtain rfl:y=u':=by simpa using a1
  exact a2.1.form.2.2) hN (by decide) rfl hx (by rw[Yvn];omega)
 have hr:=Ylp (bytes:=24) h1 (by decide) rfl hx f1
 rw[f1]at g1
 simp only[Yup,Yuv,St.mk.injEq,true_and]at g1
 obtain⟨rfl,rfl,rfl⟩:=g1
 exact⟨v',h',w',f1,f2,f3,f4,hr.1,g4,gD,hr.2⟩
def MfO.movedV{N0:Nat}{h':T O}{N':Nat}{v':V}(s:MfO N0 h N v' m)(k:Upd (fun i=>i∈Zci v) h N h' N')(hd:Zos 79 NW h v)(hne:∀i∈Zci v',i∉Zci v):MfO N0 h' N' v' m:=by
 obtain⟨us,⟨hl,h1⟩,h2,h3,h4⟩:=s
 refine⟨us,⟨hl,?_⟩,h2,h3,fun j l hl=>?_⟩
 ·rcases h1 with h1|⟨i,a,b,c,d⟩
  ·exact .inl h1
  ·exact .inr ⟨i,a,b,Yu0 c k.le,(k.get i c (hne i (by rw[a];simp[Zci]))).trans d⟩
 ·obtain⟨u,g1,g2⟩:=h4 j l hl
  exact⟨u,g1,g2.moved k hd (by decide)⟩
def Yq3(o:O):Prop:=∀c e w,o≠.cells c e w
def Sl.setO{l:List V}(s:Sl h N v l)(g:h.get i=some o0)(ho:Yq3 o0):Sl (h.set i o) N v l:=s.moved (D:=fun j=>j=i) ⟨Yus _,fun j _ hj=>by rw[T.get_set,Yur hj]⟩ fun j hj hc=>by
 subst hc
 rcases s with⟨_,rfl|rfl⟩|⟨j',o',cp,c,e,rw,rfl,_,h3,_⟩
 ·simp[Zci]at hj
 ·simp[Zci]at hj
 ·simp[Zci]at hj
  subst hj
  rw[g]at h3
  exact absurd (Yvr h3) (ho _ _ _)
def FrT.setO{l:List Rat}(s:FrT h N v l)(g:h.get i=some o0)(ho:Yq3 o0):FrT (h.set i o) N v l:=by
 obtain⟨⟨cs,h1,h2,h3⟩,h4⟩:=s
 have hne:∀j∈Zci v,¬j=i:=fun j hj hc=>by
  obtain⟨z,w,hz⟩:=h4 j hj
  rw[hc,g]at hz
  exact absurd (Yvr hz) (ho _ _ _)
 have hI:∀{x:V} {z:Int},In h N x z→In (h.set i o) N x z:=fun s=>by
  rcases s with s|⟨i,o,l,c,s1,s2,s3⟩
  ·exact .inl s
  ·exact .inr ⟨i,o,l,c,s1,Sl.setO s2 g ho,s3⟩
 refine⟨⟨cs,h1.moved (D:=fun j=>j=i) ⟨Yus _,fun j _ hj=>by rw[T.get_set,Yur hj]⟩ hne,h2,fun j q hq=>?_⟩,fun j hj=>by rw[T.get_set,Yur (hne j hj)];exact h4 j hj⟩
 obtain⟨c,a,n1,u1,n2,u2,e,s1,s2⟩:=h3 j q hq
 exact⟨c,a,n1,u1,n2,u2,e,hI s1,hI s2⟩
def MfO.setO{N0:Nat}(s:MfO N0 h N v m)(g:h.get i=some o0)(ho:Yq3 o0):MfO N0 (h.set i o) N v m:=by
 obtain⟨us,⟨hl,h1⟩,h2,h3,h4⟩:=s
 refine⟨us,⟨hl,?_⟩,h2,h3,fun j l hl=>?_⟩
 ·rcases h1 with h1|⟨j,a,b,c,d⟩
  ·exact .inl h1
  ·refine .inr ⟨j,a,b,c,?_⟩
   rw[T.get_set,Yur]
   ·exact d
   ·rintro rfl
    rw[g]at d
    exact absurd (Yvr d) (ho _ _ _)
 ·obtain⟨u,g1,g2⟩:=h4 j l hl
  exact⟨u,g1,g2.setO g ho⟩
def MfO.row{N0:Nat}(s:MfO N0 h N v m):∀i∈Zci v,N0≤i∧i<N:=fun i hi=>by
 obtain⟨us,⟨hl,⟨_,rfl⟩|⟨j,rfl,b,c,d⟩⟩,_⟩:=s
 ·simp[Zci]at hi
 ·simp[Zci]at hi
  omega
def Zb3(l:List Pk)(k:Int):List (List Rat):=(l.filter fun p=>decide (p.act=k)).map fun p=>(Zk1 p.sl).map fun x=>x/Zfb p.am
def Zmx{l:List Pk}{p:Pk}:Zb3 (l++[p]) k=Zb3 l k++if p.act=k then [(Zk1 p.sl).map fun x=>x/Zfb p.am] else []:=by
 unfold Zb3
 rw[List.filter_append,List.map_append,List.filter_cons]
 by_cases e:p.act=k<;>simp[e]
def Zfp{l:List Pk}:(Zb3 l k).length≤l.length:=by
 unfold Zb3
 rw[Yvn]
 exact List.length_filter_le _ _
structure MpI (h:T O) (N0 N M:Nat) (ks:List (Int×V)) (l:List Pk):Prop where
 map:h.get M=some (.map (esK ks))
 lt:M<N0
 le:N0≤N
 mat:∀k,MfO N0 h N (Zz6 ks k) (Zb3 l k)
 dj:∀k k',k≠k'→∀i∈Zci (Zz6 ks k),i∉Zci (Zz6 ks k')
def MpI.keep{h':T O}{N0 N':Nat}{ks:List (Int×V)}{l:List Pk}(s:MpI h N0 N M ks l)(k:Keeps h N h' N'):MpI h' N0 N' M ks l:=⟨(k.get M (Yu0 s.lt s.le)).trans s.map,s.lt,Yv4 s.le k.le,fun j=>(s.mat j).keep k,s.dj⟩
def MpI.nil{N0:Nat}(g:h.get M=some (.map []))(hM:M<N0)(hN:N0≤N):MpI h N0 N M [] []:=⟨g,hM,hN,fun k=>MfO.nil,fun k k' _ i hi=>by simp[Zz6,Zok,Zci]at hi⟩
def MpI.push{N0:Nat}{ks:List (Int×V)}{l:List Pk}{p:Pk}{x:V}(s:MpI h N0 N M ks l)(hu:FrT h N u ((Zk1 p.sl).map fun x=>x/Zfb p.am))(hx:Zat ⟨h,N,w⟩ 1 x=some (1,[u]))(hm:l.length<100000):
  ∃v' h' w',Za6 ⟨h,N,w⟩ 1 24 79 (Zz6 ks p.act) x=some (v',⟨h',N+1,w'⟩)∧oldIds N0 w'=oldIds N0 w∧Keeps h N0 h' (N+1)∧h'.get M=some (.map (esK ks))∧MpI (h'.set M (.map (esK (Zz7 p.act v' ks)))) N0 (N+1) M (Zz7 p.act v' ks) (l++[p])∧w'=Zci (Zz6 ks p.act)++w:=by
 obtain⟨v',h',w',f1,f2,f3,f4,f5,f6,f7,f8⟩:=(s.mat p.act).push2 hu s.le hx (by have:=Zfp (l:=l) (k:=p.act);omega)
 have gM:h'.get M=some (.map (esK ks)):=(f3.get M s.lt).trans s.map
 have hn:Yq3 (.map (esK ks)):=fun _ _ _ hc=>by cases hc
 refine⟨v',h',w',f1,f2,f3,gM,⟨by rw[T.get_set,Yuu rfl],s.lt,Nat.le_succ_of_le s.le,fun k=>?_,fun k k' hk i hi=>?_⟩,f8⟩
 ·rw[Zpz,Zmx]
  by_cases e:k=p.act
  ·rw[Yuu e,Yuu e.symm,e]
   exact f4.setO gM hn
  ·rw[Yur e,Yur (Ne.symm e),Ywo]
   exact((s.mat k).movedV f6 f7 (s.dj k p.act e)).setO gM hn
 ·rw[Zpz]at hi ⊢
  by_cases e:k=p.act
  ·rw[Yuu e,f5]at hi
   rw[Yur (fun hc=>hk (e.trans hc.symm))]
   intro hc
   have:=(s.mat k').row i hc
   simp at hi
   omega
  ·rw[Yur e]at hi
   by_cases e2:k'=p.act
   ·rw[Yuu e2,f5]
    have:=(s.mat k).row i hi
    simp
    omega
   ·rw[Yur e2]
    exact s.dj k k' hk i hi
variable {N:Nat} {h:T O} {v:V}
set_option maxHeartbeats 2000000
noncomputable def A.w138:=A.q Tryz.f138
noncomputable def A.lb138_0:=A.ql A.w138 0 []
noncomputable def A.b138:=(fun x0=>A.qb A.w138 [x0]) A.lb138_0
def A.k138:=@A.kk 138 22 [.tmp 4] A.b138 (by kernel_rfl) rfl
def Yhk{f:V}{l:List V}{Q:Nat→T O→Nat→List V→Prop}(Y:V→Prop)(hQ:∀j h n h' n' c u,Q j h n c→Upd (fun i=>i∈Zci u) h n h' n'→Zos 95 Y h u→Q j h' n' c)(hs:Sl h N v l)(hl:l.length<1000000000)(hf:∀(j:Nat) (x:V),l[j]?=some x→∀h' n',Keeps h N h' n'→FnV A.C f [x] h' n' (fun u h2 n2=>∃c,u=(.agg c)∧c.length=4∧c.all V.one=true∧(∀q∈c,Y q)∧Q j h2 n2 c)):Fn A.C 138 [v,f] h N (fun u h' n'=>∃out,Own 4 95 N h' n' u out∧out.length=l.length∧∀(j:Nat),j<l.length→∃c,out[j]?=some c∧Q j h' n' c):=by
 intro w
 have hlen:=hs.len
 rw[Zaa,A.k138 (by simp)]
 simp[A.b138,hlen]
 refine Zag [(5,5),(7,7),(10,20)] (fun e r st=>e=.exit 0∧oldIds N st.w=[]∧Keeps h N st.h st.n∧∃u out,r.get 5=some u∧Own 4 95 N st.h st.n u out∧out.length=l.length∧∀(j:Nat),j<l.length→∃c,out[j]?=some c∧Q j st.h st.n c) (fun m r st=>oldIds N st.w=[]∧Keeps h N st.h st.n∧∃k u out,k+m=l.length∧r.get 10=some (.int .i64 k)∧r.get 5=some u∧Own 4 95 N st.h st.n u out∧out.length=k∧(out=[]→u=.nilslice)∧(∀c∈out,∀y∈c,Y y)∧∀(j:Nat),j<k→∃c,out[j]?=some c∧Q j st.h st.n c) l.length ?_ ?_ ?_
 ·exact⟨by simp,Keeps.refl,0,.nilslice,[],by omega,by simp,by simp,Own.nil,rfl,fun _=>rfl,by simp,fun j hj=>by omega⟩
 ·rintro m r ⟨H,n1,W⟩ hr hf2 ⟨hW,hK,k,u,out,hk,h10,h5,ho,hol,hnil,hY,hout⟩
  simp only at hW hK ho hout
  rw[Zah]
  cases m with
  |zero=>
   have hkk:k=l.length:=by omega
   subst hkk
   simp[A.lb138_0,hr,hf2,h10,hW,hK]
   exact⟨u,h5,out,ho,hol,hout⟩
  |succ m=>
   have hlt:k<l.length:=by omega
   obtain⟨x,hx⟩:=Zaf hlt
   obtain⟨i,o,cc,e,rw,q1,q2,q3,q4⟩:=(hs.keep hK).at hx
   have hk1:(k:Int)<(l.length:Int):=by omega
   have kA:=hK
   simp[A.lb138_0,hr,hf2,h10,h5,hk1,hlt,hlen,q1,q3,q4]
   refine Zgh (hf k x hx _ _ kA) ?_
   rintro _ h3 n3 k3 ⟨c,rfl,c1,c2,cY,c3⟩
   have kle3:=k3.le
   have kn:=hK.le
   have kB:=kA.trans k3
   have b1:∀v:List V,(V.agg v).cells=v:=fun _=>rfl
   have b2:splice [(.int .i64 0),.nilslice,(.int .i64 0),.nilslice] 0 c=c:=by unfold splice;rw[c1];simp[c1]
   simp[-V.cells, -V.one,hr,hf2,h10,h5,b1,b2,c1,c2]
   have ho3:Own 4 95 N (h3.set n3 (.cells c 95 true)) (n3+1) u out:=(ho.keep ((Keeps.refl).trans k3)).keep (Keeps.refl.new _)
   obtain⟨v',h',w',f1,f2,f3,f4,fD,f5⟩:=Zco (Y:=Y) (x:=c) (u:=.slice n3 0 1 (some 1) 4) (bytes:=64) (w:=W) ho3 hnil hY (by omega) (by decide) c1 (by simp only[Zat,St.row,T.get_set,if_true];unfold slc;simp[c1];exact Yuy (by omega)) (by omega)
   rw[f1]
   have wok:¬n1<N:=by omega
   have f6:oldIds N w'=[]:=by rw[f2];simp[oldIds,hW,wok]
   have kz:=(kB.new (.cells c 95 true)).then f3
   have k4:Keeps h3 n3 (h3.set n3 (.cells c 95 true)) (n3+1):=Keeps.refl.new _
   have hq4:Q k (h3.set n3 (.cells c 95 true)) (n3+1) c:=hQ _ _ _ _ _ _ .nilslice c3 k4.upd Zos.nil
   simp(disch:=first|(simp;done)|omega|(simp only[Zac,Zad,Yuq];omega)|rfl) [hr,hf2,h10,f6]
   refine⟨m,by omega,kz,k+1,by omega,by simp,out++[c],f5,by simp[hol],by simp,fun c' hc z hz=>?_,fun j hj=>?_⟩
   ·rcases Yv1.1 hc with hc|hc
    ·exact hY c' hc z hz
    ·simp only[Ywj]at hc;subst hc;exact cY z hz
   by_cases hjk:j<k
   ·obtain⟨c,g1,g2⟩:=hout j hjk
    exact⟨c,by rw[Yu7 (by omega)];exact g1,hQ _ _ _ _ _ _ _ (hQ _ _ _ _ _ _ .nilslice g2 (((Keeps.refl).trans k3).trans k4).upd Zos.nil) f4 fD⟩
   ·obtain rfl:j=k:=by omega
    exact⟨c,by rw[Yvj (by omega),hol];simp,hQ _ _ _ _ _ _ _ hq4 f4 fD⟩
 ·rintro _ r ⟨H,n1,W⟩ hr ⟨rfl,hW,hK,u,out,h5,ho,hol,hout⟩
  simp only at hW hK ho hout
  simp[hr,h5,Ret,hW,hK]
  exact⟨out,ho,hol,hout⟩
noncomputable def A.w55:=A.q Tryz.f55
noncomputable def A.lb55_0:=A.ql A.w55 0 []
noncomputable def A.b55:=(fun x0=>A.qb A.w55 [x0]) A.lb55_0
def A.k55:=@A.kk 55 32 [.tmp 2] A.b55 (by kernel_rfl) rfl
noncomputable def A.b139:=A.q Tryz.f139
def A.k139:=@A.kk 139 8 [.cell 3 (some 4)] A.b139 (by kernel_rfl) rfl
def Ymf{f:V}{l:List Str}(F:Str→Rat)(hs:Sl h N v (strs l))(hl:l.length<1000000000)(hf:∀s∈l,∀h' n',Keeps h N h' n'→FnV A.C f [.str s] h' n' (fun x h2 n2=>Fc h2 n2 x (F s))):Fn A.C 138 [v,f] h N (fun u h' n'=>FrT h' n' u (l.map F)):=by
 have key:=Yhk (f:=f) (Q:=fun j h n c=>∀q,(l.map F)[j]?=some q→FcC h n c q) NW (fun j h n h' n' c u hq k hd q hq'=>(hq q hq').moved k hd) hs (by rw[Zbl];omega) ?_
 ·intro w
  refine(key w).mono fun u st=>?_
  rintro⟨q1,q2,out,o1,o2,o3⟩
  exact⟨q1,q2,Ybx o1 (by simpa[strs]using o2) fun j hj=>o3 j (by simp at hj;rw[Zbl];omega)⟩
 ·intro j x hx h' n' hk
  obtain⟨s,hsj⟩:=Zaf (l:=l) (k:=j) (by have:=Zaz hx;rw[Zbl]at this;omega)
  rw[Zff hsj]at hx
  obtain rfl:V.str s=x:=by simpa using hx
  refine fun w=>(hf s (Yux hsj) h' n' hk w).mono fun y st=>?_
  rintro⟨q1,q2,q3⟩
  obtain⟨c,rfl,hc⟩:=q3.c
  refine⟨q1,q2,c,rfl,hc.len.1,hc.len.2,hc.noU,fun q hq=>?_⟩
  simp[hsj]at hq
  rw[←hq]
  exact hc
def Yjk{s:Str}(hc:chkNum s=0)(hl:s.length≤24):Fn A.C 93 [.str s] h N (fun x h' n'=>Fc h' n' x (Zfb s)):=by
 obtain⟨t1,t2,t3⟩:=Zhq hc
 have l1:(decI (Zfb s).num).length≤100000:=by
  have:(decI (Zfb s).num).length≤(decN (Zfb s).num.natAbs).length+1:=by unfold decI;split<;>simp
  omega
 have hfr:=Ydm (q:=Zfb s) (h:=h) (N:=N) l1 (by omega)
 rw[t1]at hfr
 exact hfr
def Yfz{c:List V}(h:c.length=4):slc c 0 4=some c:=by unfold slc;rw[h];simp;exact Yuy (by omega)
def Ya1{c:List V}(h:c.length=4):splice [V.int .i64 0,.nilslice,.int .i64 0,.nilslice] 0 c=c:=by unfold splice;rw[h];simp
def Yo3{B:Nat}{s:Str}{d:List V}{q:Rat}{e:TypeId}{rw:Bool}(hB:h.get B=some (.cells d e rw))(hBN:B<N)(hd:FcC h N d q)(h0:q≠0)(hq:Qb 100 q)(hs:chkNum s=0)(hl:s.length≤24):FnV A.C (.func 139 [] [.ptr B 0]) [.str s] h N (fun z h' n'=>Fc h' n' z (Zfb s/q)):=by
 intro w
 obtain⟨d1,d2⟩:=hd.len
 have hcc:∀c:List V,(V.agg c).cells=c:=fun _=>rfl
 have s1:=Yfz d1
 have hsb:=Yel hs hl
 have w1:=hsb.wls
 have w2:=hq.wls
 have w3:=(Yq1 hq h0).wls
 have kB:Keeps h N (h.set N (.cells [.int .i64 0,.nilslice,.int .i64 0,.nilslice] 95 true)) (N+1):=Keeps.refl.new _
 have gN:(h.set N (.cells [.int .i64 0,.nilslice,.int .i64 0,.nilslice] 95 true)).get N=some (.cells [.int .i64 0,.nilslice,.int .i64 0,.nilslice] 95 true):=by rw[T.get_set,Yuu rfl]
 have gB:=(kB.get B hBN).trans hB
 rw[Zaa,A.k139 (by simp)]
 simp[-V.cells, -V.one,A.b139]
 generalize h.set N (.cells [.int .i64 0,.nilslice,.int .i64 0,.nilslice] 95 true)=G at*
 refine Zab (Yjk hs hl) ?_
 rintro x H1 n1 k1 hx
 have le1:=k1.le
 have gB1:=(k1.get B (by omega)).trans gB
 have lB:B<n1:=by omega
 simp[-V.cells, -V.one,gB1,lB,d1,d2,s1]
 refine Zab (Ydt hx ((hd.keep kB).keep k1).fc h0 (by omega) (by omega) (by omega) (by omega) (by omega) (by omega)) ?_
 rintro _ H2 n2 k2 hz
 obtain⟨z,rfl,hzc⟩:=hz.c
 obtain⟨z1,z2⟩:=hzc.len
 have le2:=k2.le
 have g2:=(k2.get N (by omega)).trans ((k1.get N (by omega)).trans gN)
 have e4:=Ya1 z1
 have s2:=Yfz z1
 have lt:N<n2:=by omega
 have lt1:N<n1:=by omega
 simp[-V.cells, -V.one,Zak,hcc,z1,z2,e4,s2,g2,lt,lt1,Ret,Zam.chk]
 exact⟨((kB.trans k1).trans k2).set (Yus _),(hzc.setNU (e1:=95) (w1:=true) (c1:=z) g2 nu0 (by rw[z1];rfl)).fc⟩
structure OkP (p:Pk) (S Z:Nat):Prop where
 lo:0≤p.act
 hi:p.act<Z
 num:chkNum p.am=0
 len:p.am.length≤24
 ne:Zfb p.am≠0
 sl:p.sl.length=S
 ok:OkL p.sl
def Yhm{h:T O}{n M:Nat}{w:List Nat}{ks:List (Int×V)}{a:Int}(g:h.get M=some (.map (esK ks))):Yhl ⟨h,n,w⟩ (.int .i64) .nilslice false (some (.map M)) (some (.int .i64 a))=some (Zz6 ks a,⟨h,n,w⟩):=by
 have hf:(Zjc.int IntKind.i64).fits (V.int IntKind.i64 a)=true:=rfl
 show (if (Zjc.int IntKind.i64).fits (V.int IntKind.i64 a)=true then Zr9 ⟨h,n,w⟩ (.int .i64) .nilslice false (.int .i64 a) (h.get M) else none)=_
 rw[Yuu hf,g,Znl,Ym2]
 unfold Zz6
 cases hx:Zok a ks 0 with
 |none=>rfl
 |some p=>rfl
def Ysc{h:T O}{n M:Nat}{w:List Nat}{ks:List (Int×V)}{a:Int}{x:V}(g:h.get M=some (.map (esK ks))):msetK ⟨h,n,w⟩ (.int .i64) (some (.map M)) (some (.int .i64 a)) (some x)=some (.tup [],⟨h.set M (.map (esK (Zz7 a x ks))),n,M::w⟩):=by
 have hf:(Zjc.int IntKind.i64).fits (V.int IntKind.i64 a)=true:=rfl
 show (if (Zjc.int IntKind.i64).fits (V.int IntKind.i64 a)=true then Zpf ⟨h,n,w⟩ (.int .i64) M (.int .i64 a) x (h.get M) else none)=_
 rw[Yuu hf]
 unfold Zpf
 simp only[g,Ym2]
 cases hx:Zok a ks 0 with
 |none=>simp only[Yce,←Zrh hx];rfl
 |some p=>obtain⟨j,y⟩:=p;simp only[Yce,←Zrg hx];rfl
def Zlh{l:List Pk}{S Z:Nat}(hs:PkS h N v l)(hl:l.length<1000)(hG:∀p∈l,OkP p S Z)(hS:S<1000):Fn A.C 55 [v] h N (fun x h' n'=>∃ks,x=.map N∧MpI h' (N+1) n' N ks l):=by
 intro w
 have lg:=hs.len
 have kB:Keeps h N (h.set N (.map [])) (N+1):=Keeps.refl.new _
 rw[Zaa,A.k55 (by simp)]
 simp[A.b55,lg]
 refine Zag [(5,6),(10,30)] (fun e r st=>e=.exit 0∧oldIds N st.w=[]∧Keeps h N st.h st.n∧∃ks,MpI st.h (N+1) st.n N ks l) (fun i r st=>oldIds N st.w=[]∧Keeps h N st.h st.n∧∃t ks,t+i=l.length∧r.get 10=some (.int .i64 t)∧MpI st.h (N+1) st.n N ks (l.take t)) l.length ?_ ?_ ?_
 ·exact⟨by simp,kB,0,[],by omega,by simp,MpI.nil (by simp) (by omega) (by show N+1≤N+1;omega)⟩
 ·rintro i r ⟨H,n,W⟩ hr hf ⟨hW,hK,t,ks,ht,h10,hM⟩
  simp only at hW hK hM
  have le:=hM.le
  rw[Zah]
  cases i with
  |zero=>
   obtain rfl:t=l.length:=by omega
   rw[Yuy (Yus _)]at hM
   simp[A.lb55_0,hr,hf,h10,hW,hK]
   exact⟨ks,hM⟩
  |succ i=>
   have hlt:t<l.length:=by omega
   have hlt':(t:Int)<(l.length:Int):=by omega
   obtain⟨p,hp⟩:=Zaf hlt
   have hg:=hG p (Yux hp)
   obtain⟨i1,o,y,e,rw,u,q1,q2,q3,q4,q5,q6,q7,q8⟩:=(hs.keep hK).at hp
   have ou:V.one u=true:=q8.form.one
   have hcc:∀c:List V,(V.agg c).cells=c:=fun _=>rfl
   have cl:(pkC p u).length=3:=rfl
   have c2:(pkC p u).all V.one=true:=by simp[pkC, -V.one,ou];exact⟨rfl,rfl⟩
   have e3:∀z:List V,z.length=3→splice [V.int .i64 0,.str [],.nilslice] 0 z=z:=fun z hz=>by unfold splice;rw[hz];simp[hz]
   have p0:(pkC p u)[0]?=some (.int .i64 p.act):=rfl
   have p1:(pkC p u)[1]?=some (.str p.am):=rfl
   have p2:(pkC p u)[2]?=some u:=rfl
   simp[-V.cells, -V.one,A.lb55_0,hr,hf,h10,hlt,hlt',lg,hcc,cl,c2,e3,q1,q2,q3,q4,Zrq q4,Zak,p1]
   have kA:Keeps H n ((H.set n (.cells [.int .i64 0,.str [],.nilslice] 38 true)).set n (.cells (pkC p u) 38 true)) (n+1):=(Keeps.refl.new _).set (Yus _)
   have gA:((H.set n (.cells [.int .i64 0,.str [],.nilslice] 38 true)).set n (.cells (pkC p u) 38 true)).get n=some (.cells (pkC p u) 38 true):=by rw[T.get_set,Yuu rfl]
   generalize (H.set n (.cells [.int .i64 0,.str [],.nilslice] 38 true)).set n (.cells (pkC p u) 38 true)=G1 at*
   refine Zab (Yjk hg.num hg.len) ?_
   rintro _ H2 n2 k2 hx
   obtain⟨c,rfl,hc⟩:=hx.c
   obtain⟨c3,c4⟩:=hc.len
   have le2:=k2.le
   have e4:=Ya1 c3
   have gA2:=(k2.get n (by omega)).trans gA
   have kC:Keeps H2 n2 ((H2.set n2 (.cells [.int .i64 0,.nilslice,.int .i64 0,.nilslice] 95 true)).set n2 (.cells c 95 true)) (n2+1):=(Keeps.refl.new _).set (Yus _)
   have gC:((H2.set n2 (.cells [.int .i64 0,.nilslice,.int .i64 0,.nilslice] 95 true)).set n2 (.cells c 95 true)).get n2=some (.cells c 95 true):=by rw[T.get_set,Yuu rfl]
   have hn2:¬n=n2:=by omega
   have ln3:n<n2+1:=by omega
   simp[-V.cells, -V.one,hr,hf,hcc,c3,c4,e4,Zak,hn2,ln3,gA2,p0,p1,p2]
   generalize (H2.set n2 (.cells [.int .i64 0,.nilslice,.int .i64 0,.nilslice] 95 true)).set n2 (.cells c 95 true)=G3 at*
   have gA3:=(kC.get n (by omega)).trans gA2
   have hM3:=((hM.keep kA).keep k2).keep kC
   have gM:=hM3.map
   have hlk:=fun w=>Yhm (n:=n2+1) (w:=w) (a:=p.act) gM
   simp[-V.cells, -V.one,hlk,hr,hf,gA3,ln3,p0,p1,p2]
   have hab:Qb 100 (Zfb p.am):=Yel hg.num hg.len
   refine Zab (Ymf (fun s=>Zfb s/Zfb p.am) (((q8.keep kA).keep k2).keep kC) (by rw[hg.sl];omega) fun s hs' h' n' hk'=>Yo3 ((hk'.get n2 (by omega)).trans gC) (by have:=hk'.le;omega) ((hc.keep kC).keep hk') hg.ne hab (hg.ok s hs').1 (hg.ok s hs').2) ?_
   rintro x H4 n4 k4 hx4
   have le4:=k4.le
   have hx5:FrT H4 n4 x ((Zk1 p.sl).map fun y=>y/Zfb p.am):=by
    have e:(Zk1 p.sl).map (fun y=>y/Zfb p.am)=p.sl.map fun s=>Zfb s/Zfb p.am:=by unfold Zk1;rw[List.map_map];rfl
    rw[e];exact hx4
   obtain⟨f1,f2,f3⟩:=hx5.1.form
   have kD:Keeps H4 n4 (H4.set n4 (.cells [x] 79 true)) (n4+1):=Keeps.refl.new _
   have sp1:splice [V.nilslice] 0 [x]=[x]:=rfl
   obtain⟨v',h',w',j1,j2,j3,j4,j5,j6⟩:=MpI.push (x:=.slice n4 0 1 (some 1) 1) (w:=[]) ((hM3.keep k4).keep kD) (hx5.keep kD) (by simp[Zat,St.row,slc]) (by rw[Yvh];omega)
   have hms:=fun w=>Ysc (n:=n4+1+1) (w:=w) (a:=p.act) (x:=v') j4
   have hrow:=fun i hi=>(hM.mat p.act).row i hi
   simp[-V.cells, -V.one,sp1,f1,f2,Zbs,hr,hf,j1,hms]
   have hww:∀i∈oldIds (n4+1) w',N+1≤i∧i<n:=fun i hi=>by
    have:=(Zqi hi).1
    rw[j6,Ywo]at this
    exact hrow i this
   have hm:Znj (oldIds (n4+1) w') (some [n])=false:=by
    unfold Znj
    rw[List.any_eq_false]
    intro i hi
    have:=hww i hi
    simp
    omega
   generalize oldIds (n4+1) w'=ww at*
   refine(Zij (by simp[-oldIds,hm,Zid,Zfx];exact fun x hx=>by have:=hww x hx;omega)).2 ?_
   simp(disch:=first|(simp;done)|omega|(simp only[Zac,Zad,Yuq];omega)|rfl) [-V.cells, -V.one,hr,hf,h10]
   have kY:=(((((hK.trans kA).trans k2).trans kC).trans k4).trans kD)
   have kZ:Keeps h N h' (n4+1+1):=kY.then ⟨by have:=j3.le;omega,fun i hi=>j3.get i (by omega)⟩
   refine⟨i,by omega,Znf fun j hj=>?_,kZ.set (Yus _),t+1,by omega,by simp,_,by rw[Yw0,hp];exact j5⟩
   have hNN:N<n4+1+1:=by omega
   simp only[hNN,if_true,Yv1,Yvt,List.not_mem_nil,or_false]at hj
   rcases hj with rfl|hj|rfl|rfl|hj
   ·exact Yus _
   ·have:=hww j hj
    omega
   ·omega
   ·omega
   ·exact Yb5 hW j hj
 ·rintro _ r ⟨H,n,W⟩ hr ⟨rfl,hW,hK,ks,hM⟩
  simp only at hW hK hM
  simp[hr,Ret,hW,hK]
  exact⟨ks,hM⟩
variable {K S:Nat} {m:List (List Rat)}
set_option maxHeartbeats 1000000
noncomputable def A.w56:=A.q Tryz.f56
noncomputable def A.lb56_0:=A.ql A.w56 0 []
noncomputable def A.b56:=(fun x0=>A.qb A.w56 [x0]) A.lb56_0
def A.k56:=@A.kk 56 28 [.tmp 2] A.b56 (by kernel_rfl) rfl
noncomputable def A.b142:=A.q Tryz.f142
def A.k142:=@A.kk 142 7 [.cell 3 (some 4)] A.b142 (by kernel_rfl) rfl
def Yop{a b:List Rat}{j k n:Nat}(ha:∀q∈a,Qb j q)(hb:∀q∈b,Qb k q)(hj:1≤j)(hk:1≤k):∀q∈Zta (fun x y=>x+y) a b n,Qb (j+k+1) q:=fun q hq=>by
 unfold Zta at hq
 obtain⟨i,_,rfl⟩:=Yvb.1 hq
 exact(Zi0 ha hj i).add (Zi0 hb hk i)
def Ye2(a r:List Rat):List Rat:=Zta (fun x y=>x+y) a r a.length
def Zwz:∀{m:List (List Rat)} {a:List Rat},(m.foldl Ye2 a).length=a.length
 |[],a=>rfl
 |r::t,a=>by rw[List.foldl_cons,Zwz];unfold Ye2;rw[Zf5]
def Ydn:∀{m:List (List Rat)} {a:List Rat} {j K:Nat},(∀q∈a,Qb j q)→QbM m K→1≤j→1≤K→∀q∈m.foldl Ye2 a,Qb (j+m.length*(K+1)) q
 |[],a,j,K,ha,_,_,_=>by simpa using ha
 |r::t,a,j,K,ha,hm,hj,hK=>by
  intro q hq
  rw[List.foldl_cons]at hq
  have h1:∀q∈Ye2 a r,Qb (j+K+1) q:=Yop ha (hm r Yvg) hj hK
  have:=Ydn h1 (fun x hx=>hm x (Yu1 _ hx)) (by omega) hK q hq
  have e:j+K+1+t.length*(K+1)=j+(r::t).length*(K+1):=by rw[Yuq,Yvv,Nat.one_mul];omega
  rw[←e]
  exact this
def Zto(m:List (List Rat))(S:Nat):List Rat:=m.foldl Ye2 ((List.range S).map fun _=>0)
def Zgq(m:List (List Rat))(S:Nat):List Rat:=(Zto m S).map fun x=>x/((m.length:Int):Rat)
def Zhx:(Zto m S).length=S:=by unfold Zto;rw[Zwz];simp
def Zfy:(Zgq m S).length=S:=by unfold Zgq;rw[Yvn,Zhx]
def Yft{r:List Rat}:Zto (m++[r]) S=Ye2 (Zto m S) r:=by simp[Zto]
def Ztn(hm:QbM m K)(hK:1≤K):∀q∈Zto m S,Qb (1+m.length*(K+1)) q:=Ydn (fun q hq=>by
 obtain⟨_,_,rfl⟩:=Yvb.1 hq
 exact⟨by decide,by decide⟩) hm (Yus _) hK
def Yjl{n:Nat}(h0:0<n)(hn:n<16):Qb 4 (((n:Nat):Int):Rat)∧((((n:Nat):Int):Rat))≠0:=⟨⟨by simp;omega,by simp⟩,fun hc=>by
 have:=congrArg Rat.num hc
 simp at this
 omega⟩
def Yhe(hm:QbM m K)(hK:1≤K)(h0:0<m.length)(hn:m.length<16):∀q∈Zgq m S,Qb (1+m.length*(K+1)+4) q:=fun q hq=>by
 unfold Zgq at hq
 obtain⟨x,hx,rfl⟩:=Yvb.1 hq
 obtain⟨a,b⟩:=Yjl h0 hn
 rw[Rat.div_def]
 exact(Ztn hm hK x hx).mul (Yq1 a b)
def Ypm{h:T O}{N p:Nat}{c d:List V}{x q:Rat}{e:TypeId}{rw:Bool}{j k:Nat}(hp:h.get p=some (.cells d e rw))(hpl:p<N)(hc:FcC h N c x)(hd:FcC h N d q)(h0:q≠0)(hx:Qb j x)(hq:Qb k q)(hj:j≤500000000)(hk:k≤500000000):FnV A.C (.func 142 [] [.ptr p 0]) [.agg c] h N (fun z h' n'=>Fc h' n' z (x/q)):=by
 intro w
 have:=Yp6 hp hpl hc hd h0 hx hq hj hk w
 rw[Zaa,A.k162 (by simp)]at this
 rw[Zaa,A.k142 (by simp)]
 exact this
def Yct{h:T O}{N:Nat}{u:V}(hu:MfS h N u m)(hm0:0<m.length)(hml:m.length<16)(hc:RcN m S)(hS:S<1000)(hK1:1≤K)(hq:QbM m K)(hb:m.length*(K+1)+K+100≤300000):Fn A.C 56 [u] h N (fun x h' n'=>FrT h' n' x (Zgq m S)):=by
 intro w
 have lu:=hu.len
 have hm0':(0:Int)<(m.length:Int):=by omega
 obtain⟨l0,hl0⟩:=Zaf hm0
 obtain⟨i2,o2,c2,e2,w2,y,q1,q2,q3,q4,q5⟩:=Zqa hu hl0
 rw[Yv7]at q4
 have ly:=q5.1.len
 rw[hc l0 (Yux hl0)]at ly
 obtain⟨nb1,nb2⟩:=Yjl hm0 hml
 rw[Zaa,A.k56 (by simp)]
 simp[A.b56,lu,hm0,hm0',q1,q2,q3,q4,ly]
 refine Zab (Yfe hS) ?_
 rintro _ H1 n1 k1 ⟨rfl,s1⟩
 have fr:=s1.frt
 have hl:((List.range S).map fun _=>(0:Rat)).length=S:=by simp
 rw[hl]at fr
 simp[lu]
 refine Zag [(3,3),(5,5),(14,21)] (fun e r st=>e=.exit 0∧oldIds N st.w=[]∧Keeps h N st.h st.n∧∃v,r.get 3=some v∧FrT st.h st.n v (Zto m S)) (fun i r st=>oldIds N st.w=[]∧Keeps h N st.h st.n∧∃t v,t+i=m.length∧r.get 14=some (.int .i64 t)∧r.get 3=some v∧FrT st.h st.n v (Zto (m.take t) S)) m.length ?_ ?_ ?_
 ·exact⟨by simp,k1,0,.slice N 0 S (some S) 4,by omega,by simp,by simp,by simpa[Zto]using fr⟩
 ·rintro i r ⟨H,n,W⟩ hr hf ⟨hW,hK,t,v,ht,h14,h3,hv⟩
  simp only at hW hK hv
  rw[Zah]
  cases i with
  |zero=>
   obtain rfl:t=m.length:=by omega
   rw[Yuy (Yus _)]at hv
   simp[A.lb56_0,hr,hf,h14,h3,hW,hK]
   exact hv
  |succ i=>
   have hlt:t<m.length:=by omega
   have hlt':(t:Int)<(m.length:Int):=by omega
   obtain⟨row,hrow⟩:=Zaf hlt
   have hrm:=Yux hrow
   obtain⟨i3,o3,c3,e3,w3,x,p1,p2,p3,p4,p5⟩:=Zqa (hu.keep hK) hrow
   have hqT:QbM (m.take t) K:=fun r hr=>hq r (Ywq hr)
   have hsb:=Ztn (S:=S) hqT hK1
   have hlt2:(m.take t).length=t:=by rw[Yvh];omega
   rw[hlt2]at hsb
   have hmul:t*(K+1)≤m.length*(K+1):=Yve _ (by omega)
   simp[A.lb56_0,hr,hf,h14,h3,hlt,hlt',lu,p1,p2,p3,p4]
   refine Zab (Yda (fun x y=>x+y) hv.1 p5.1 (by rw[Zhx,hc row hrm];exact Yus _) (fun x hx y hy h' n' ca cb k' ha hb=>?_) (by rw[Zhx];omega)) ?_
   ·have w1:=(hsb x hx).wls
    have w2:=(hq row hrm y hy).wls
    exact Zqo ha.fc hb.fc (by omega) (by omega) (by omega) (by omega)
   rintro z H2 n2 k2 hz
   simp(disch:=first|(simp;done)|omega|(simp only[Zac,Zad,Yuq];omega)|rfl) [hr,hf,h14,hW]
   refine⟨i,by omega,hK.trans k2,t+1,by omega,by simp,?_⟩
   rw[Yw0,hrow]
   show FrT H2 n2 z (Zto (m.take t++[row]) S)
   rw[Yft]
   exact hz
 ·rintro _ r ⟨H,n,W⟩ hr ⟨rfl,hW,hK,v,h3,hv⟩
  simp only at hW hK hv
  simp[hr,h3,lu]
  refine Zab (Yh2 (by omega) (by omega)) ?_
  rintro _ H2 n2 k2 hz
  obtain⟨cz,rfl,hcz⟩:=hz.c
  obtain⟨f1,f2⟩:=hcz.len
  have hcc:(V.agg cz).cells=cz:=rfl
  have e4:=Ya1 f1
  have le2:=k2.le
  have kC:Keeps H2 n2 ((H2.set n2 (.cells [.int .i64 0,.nilslice,.int .i64 0,.nilslice] 95 true)).set n2 (.cells cz 95 true)) (n2+1):=(Keeps.refl.new _).set (Yus _)
  have gC:((H2.set n2 (.cells [.int .i64 0,.nilslice,.int .i64 0,.nilslice] 95 true)).set n2 (.cells cz 95 true)).get n2=some (.cells cz 95 true):=by rw[T.get_set,Yuu rfl]
  simp[-V.cells, -V.one,hr,h3,hcc,f1,f2,e4,Zak]
  generalize (H2.set n2 (.cells [.int .i64 0,.nilslice,.int .i64 0,.nilslice] 95 true)).set n2 (.cells cz 95 true)=G at*
  have hsb:=Ztn (S:=S) hq hK1
  refine Zab (Yme (fun x=>x/((m.length:Int):Rat)) ((hv.keep k2).keep kC).1 (by rw[Zhx];omega) fun x hx c' h' n' k' hc'=>Ypm (j:=1+m.length*(K+1)) (k:=4) ((k'.get n2 (by omega)).trans gC) (by have:=k'.le;omega) hc' ((hcz.keep kC).keep k') nb2 (hsb x hx) nb1 (by omega) (by omega)) ?_
  rintro z H3 n3 k3 hz3
  simp[hr,Ret]
  exact⟨by rw[Yur (by have:=hK.le;omega)];exact hW,((hK.trans k2).trans kC).trans k3,hz3⟩
set_option maxHeartbeats 2000000
set_option maxHeartbeats 2000000
variable {N R:Nat} {h:T O} {l:List Rat}
noncomputable def A.w7:=A.q Tryz.f7
noncomputable def A.lb7_0:=A.ql A.w7 0 []
noncomputable def A.b7:=(fun x0=>A.qb A.w7 [x0]) A.lb7_0
def A.k7:=@A.kk 7 14 [.tmp 2] A.b7 (by kernel_rfl) rfl
def Ysk{l:List V}:(l.map fun y=>[y]).flatten=l:=by
 induction l with
 |nil=>rfl
 |cons a t ih=>simp[ih]
structure RwS (h:T O) (N R:Nat) (l:List Rat):Prop where
 lt:R<N
 get:h.get R=some (.cells (tx l) 24 true)
def RwS.keep{h':T O}{N':Nat}(s:RwS h N R l)(k:Keeps h N h' N'):RwS h' N' R l:=⟨Yu0 s.lt k.le,(k.get R s.lt).trans s.get⟩
def RwS.put{j:Nat}{q:Rat}(s:RwS h N R l)(hj:j<l.length):splice (tx l) j [.str (Zas q)]=tx (l.set j q)∧RwS (h.set R (.cells (tx (l.set j q)) 24 true)) N R (l.set j q):=by
 refine⟨?_,s.lt,by rw[T.get_set,Yuu rfl]⟩
 rw[Zxx (by rw[Zfe];exact hj)]
 simp[tx,strs,List.map_set]
def RwS.txt(s:RwS h N R l):TxT h N (.slice R 0 l.length none 1) l:=⟨Sl.row s.lt s.get (Zfe l) (fun k hk=>by cases hk),fun i hi=>by
 simp[Zci]at hi
 subst hi
 exact⟨_,_,s.get⟩⟩
def Zri{n:Nat}(h0:0<n)(hn:n<1000):Fn A.C 7 [.int .i64 n] h N (fun x h' n'=>∃R,x=.slice R 0 n none 1∧N≤R∧RwS h' n' R ((List.range n).map fun _=>0)):=by
 intro w
 rw[Zaa,A.k7 (by simp)]
 simp[A.b7]
 refine Zag [(3,12)] (fun e r st=>e=.exit 0∧oldIds N st.w=[]∧Keeps h N st.h st.n∧∃v,r.get 3=some v∧Own 1 24 N st.h st.n v ((tx ((List.range n).map fun _=>0)).map fun y=>[y])) (fun m r st=>oldIds N st.w=[]∧Keeps h N st.h st.n∧∃t v,t+m=n∧r.get 4=some (.int .i64 t)∧r.get 3=some v∧Own 1 24 N st.h st.n v ((tx ((List.range t).map fun _=>0)).map fun y=>[y])) n ?_ ?_ ?_
 ·exact⟨by simp,Keeps.refl,0,_,by omega,by simp,by simp,Own.nil⟩
 ·rintro m r ⟨H,n1,W⟩ hr hf ⟨hW,hK,t,v,ht,h4,h3,hO⟩
  simp only at hW hK hO
  rw[Zah]
  have le:=hK.le
  cases m with
  |zero=>
   obtain rfl:t=n:=by omega
   simp[A.lb7_0,hr,hf,h3,h4,hW,hK]
   exact hO
  |succ m=>
   have hlt:t<n:=by omega
   have hlt':(t:Int)<(n:Int):=by omega
   have sp1:splice [V.str []] 0 [.str [48]]=[.str [48]]:=rfl
   have kD:Keeps H n1 (H.set n1 (.cells [.str [48]] 24 true)) (n1+1):=Keeps.refl.new _
   obtain⟨v',h',w',j1,j2,j3,_,j5⟩:=Zb6 (x:=[.str [48]]) (u:=.slice n1 0 1 (some 1) 1) (bytes:=16) (w:=W) (hO.keep kD) (by omega) (by decide) rfl (by simp[Zat,St.row,slc]) (by simp[tx,strs];omega)
   have kF:Keeps h N h' (n1+1+1):=(hK.trans kD).then j3
   simp(disch:=first|(simp;done)|omega|rfl) [A.lb7_0,hr,hf,h3,h4,hlt,hlt',sp1,Zbs,j1,j2,hW,kF]
   refine⟨m,by omega,t+1,by omega,by simp,?_⟩
   have e:(tx ((List.range (t+1)).map fun _=>(0:Rat))).map (fun y=>[y])=(tx ((List.range t).map fun _=>(0:Rat))).map (fun y=>[y])++[[.str [48]]]:=by
    rw[List.range_succ,List.map_append]
    simp[tx,strs]
    rfl
   rw[e]
   exact j5
 ·rintro _ r ⟨H,n1,W⟩ hr ⟨rfl,hW,hK,v,h3,hO⟩
  simp only at hW hK hO
  obtain⟨hl,⟨hz,_⟩|⟨R,rfl,h1,h2,h3'⟩⟩:=hO
  ·have:=congrArg List.length hz
   simp[tx,strs]at this
   omega
  ·simp[hr,h3,Ret,hW,hK]
   refine⟨R,⟨rfl,by rw[Zfe];simp⟩,h1,h2,?_⟩
   rw[h3',Ysk]
def OkP.qb{p:Pk}{S Z:Nat}(h:OkP p S Z):Qb 96 (Zfb p.am)∧∀q∈Zk1 p.sl,Qb 96 q:=⟨Yek h.num h.len (by decide),fun q hq=>by
 obtain⟨s,hs,rfl⟩:=Yvb.1 hq
 exact Yek (h.ok s hs).1 (h.ok s hs).2 (by decide)⟩
def Zl6{l:List Pk}{S Z:Nat}{k:Int}(hG:∀p∈l,OkP p S Z):RcN (Zb3 l k) S∧QbM (Zb3 l k) 192:=by
 refine⟨fun r hr=>?_,fun r hr q hq=>?_⟩
 ·unfold Zb3 at hr
  obtain⟨p,hp,rfl⟩:=Yvb.1 hr
  have:=hG p ((List.mem_filter.1 hp).1)
  rw[Yvn]
  unfold Zk1
  rw[Yvn]
  exact this.sl
 ·unfold Zb3 at hr
  obtain⟨p,hp,rfl⟩:=Yvb.1 hr
  have hg:=hG p ((List.mem_filter.1 hp).1)
  obtain⟨x,hx,rfl⟩:=Yvb.1 hq
  rw[Rat.div_def]
  exact(hg.qb.2 x hx).mul (Yq1 hg.qb.1 hg.ne)
end Go.Mx
