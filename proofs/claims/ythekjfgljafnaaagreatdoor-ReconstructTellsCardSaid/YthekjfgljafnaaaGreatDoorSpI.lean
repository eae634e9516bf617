/-lensletref05-/
import Derived.Test.YthekjfgljafnaaaGreatDoorCrB
set_option linter.all false
namespace Go.Mx
open Go Go.Proofs
set_option maxRecDepth 1000000
set_option maxHeartbeats 1000000
noncomputable def A.w9:=A.q Tryz.f9
noncomputable def A.lb9_0:=A.ql A.w9 0 []
noncomputable def A.b9:=(fun x0=>A.qb A.w9 [x0]) A.lb9_0
def A.c9:A.F 9=some ⟨21,[.tmp 4],A.b9⟩:=by kernel_rfl
def A.k9:=@A.kk 9 _ _ _ A.c9 rfl
set_option maxHeartbeats 4000000
def Yb1{h:T O}{N n:Nat}{v:V}{l:List (List Str)}(hs:MtS h N v l)(hl:l.length<100000)(hx:∀x∈l,x.length<100000∧∀s∈x,s.length≤100000):Fn A.C 9 [v,.int .i64 n] h N (fun u _ _=>u=.int .i64 (Zam (l.map fun x=>Zbz x n))):=by
 intro w
 have lg:=hs.len
 rw[Zab,A.k9 (by simp)]
 simp(disch:=first|(simp;done)|omega|rfl) [-getElem?_pos,A.b9,lg]
 refine Zai [(4,4),(6,7),(10,20)] (fun e r st=>Zaa N st.w=[]∧Keeps h N st.h st.n∧((e=.exit 0∧Zam (l.map fun x=>Zbz x n)=0)∨(e=.ret∧r.get 4=some (.int .i64 (Zam (l.map fun x=>Zbz x n)))))) (fun m r st=>Zaa N st.w=[]∧Keeps h N st.h st.n∧∃k,k+m=l.length∧r.get 10=some (.int .i64 k)∧Zam (l.map fun x=>Zbz x n)=Zam ((l.drop k).map fun x=>Zbz x n)) l.length ?_ ?_ ?_
 ·exact⟨by simp,Keeps.refl,0,by omega,by simp,by simp⟩
 ·rintro m r ⟨H,n1,W⟩ hr hf2 ⟨hW,hK,k,hk,h5,hz⟩
  simp only at hW hK
  rw[Zah]
  cases m with
  |zero=>
   obtain rfl:k=l.length:=by omega
   rw[Yw5,Yyr,Zam]at hz
   simp(disch:=first|(simp;done)|omega|rfl) [-getElem?_pos,A.lb9_0,hr,hf2,h5,lg,hz,hW,hK]
  |succ m=>
   have hlt:k<l.length:=by omega
   obtain⟨s,hc⟩:=Zae hlt
   obtain⟨i,o,cc,e,rw,u,q1,q2,q3,q4,q5⟩:=(hs.keep hK).at hc
   obtain⟨x1,x2⟩:=hx s (Yv7 hc)
   rw[Zan hc,Yxk,Zam]at hz
   have hk1:(k:Int)<(l.length:Int):=by omega
   simp(disch:=first|(simp;done)|omega|rfl) [-getElem?_pos,A.lb9_0,hr,hf2,h5,hk1,hlt,lg,q1,q2,q3,q4]
   refine Zac (Zxu q5 x1 x2) ?_
   rintro _ h3 n3 k3 rfl
   have kk:=hK.trans k3
   by_cases h0:Zbz s n=0
   ·rw[Yv6 h0]at hz
    simp(disch:=first|(simp;done)|omega|rfl) [-getElem?_pos,hr,hf2,h5,h0,hW,Zad]
    exact⟨m,by omega,kk,k+1,by omega,by simp,by simpa using hz⟩
   ·rw[Yv4 h0]at hz
    simp(disch:=first|(simp;done)|omega|rfl) [-getElem?_pos,hr,hf2,h5,h0,hW,Zad,hz]
    exact kk
 ·rintro _ r ⟨H,n1,W⟩ hr ⟨hW,hK,⟨rfl,hz⟩|⟨rfl,h2⟩⟩
  ·simp only at hW hK
   simp(disch:=first|(simp;done)|omega|rfl) [-getElem?_pos,hr,hz,Ret,hW,hK]
  ·simp only at hW hK
   simp(disch:=first|(simp;done)|omega|rfl) [-getElem?_pos,hr,h2,Ret,hW,hK]
variable {K N:Nat} {h:T O} {m:List (List Str)} {v:V}
set_option maxHeartbeats 2000000
structure Bnd (A B:Nat) (q:Rat):Prop where
 num:q.num.natAbs≤A
 den:q.den≤B
def Bnd.txt{A B a b:Nat}{q:Rat}(h:Bnd A B q)(hA:A<10^a)(hB:B<10^b)(ha:0<a)(hb:0<b):(Zax q).length≤a+b+2:=by
 have h1:=(Zb4 (n:=q.num.natAbs) ha).2 (Yww h.num hA)
 have h2:=(Zb4 (n:=q.den) hb).2 (Yww h.den hB)
 have h3:(decI q.num).length≤(decN q.num.natAbs).length+1:=by
  unfold decI
  split<;>simp
 unfold Zax
 split
 ·omega
 ·simp
  omega
def Bnd.big{A B:Nat}{q:Rat}(h:Bnd A B q)(hA:A<10^600)(hB:B<10^600):Yav q=false:=by
 have h1:=(Zb4 (n:=q.num.natAbs) (k:=600) (by decide)).2 (Yww h.num hA)
 have h2:=(Zb4 (n:=q.den) (k:=600) (by decide)).2 (Yww h.den hB)
 unfold Yav
 simp
 omega
def Yrd{s:Str}(h:Zvh s 4=true):chkNum s=0∧s.length≤10∧Bnd 9999 9999 (Zo0 s):=by
 unfold Zvh Yre at h
 simp only[Ywo,decide_eq_true_eq]at h
 obtain⟨h1,h2,h3,h4⟩:=h
 have h3:=(Zb4 (n:=(Zo0 s).num.natAbs) (k:=4) (by decide)).1 h3
 have h4:=(Zb4 (n:=(Zo0 s).den) (k:=4) (by decide)).1 h4
 exact⟨h2,by omega,by omega,by omega⟩
def Yfc{r c:Nat}(h:Zg9 m r c=0):0<m.length∧0<hdL m∧m.length≤r∧hdL m≤c∧∀l∈m,l.length=hdL m∧∀s∈l,chkNum s=0:=by
 unfold Zg9 at h
 split at h
 ·cases h
 ·rename_i h1
  split at h
  ·cases h
  ·rename_i h2
   refine⟨by omega,by omega,by omega,by omega,fun l hl=>?_⟩
   have h3:=Zcc h _ (List.mem_map_of_mem hl)
   unfold Zbz at h3
   split at h3
   ·rename_i h4
    refine⟨h4,fun s hs=>?_⟩
    have:=Zcc h3 _ (List.mem_map_of_mem hs)
    simpa using this
   ·cases h3
def Yg5(h:∀l∈m,∀s∈l,chkNum s=0):m=(Zdq m).map fun r=>r.map Zax:=by
 unfold Zdq
 rw[List.map_map]
 conv=>lhs;rw[←List.map_id m]
 apply Yyp
 intro l hl
 show l=(Ztp l).map Zax
 unfold Ztp
 rw[List.map_map]
 conv=>lhs;rw[←List.map_id l]
 apply Yyp
 intro s hs
 exact(Zoh (h l hl s hs)).1.symm
def Yun{c:Nat}(h:K≤3*c):2^K≤8^c:=Yxt (Yw3 (by decide) h) (Nat.le_of_eq (Nat.pow_mul 2 3 c))
def Yss{c:Nat}(h:c≠0):8^c<10^c:=Nat.pow_lt_pow_left (by decide) h
def Yqi{c:Nat}{q:Rat}(h:Qb K q)(hK:K≤3*c)(hc:c≠0):q.num.natAbs<10^c∧q.den<10^c:=by
 have e:=Yww (Yun hK) (Yss hc)
 exact⟨Nat.lt_trans h.1 e,Nat.lt_trans h.2 e⟩
def Zr5{q:Rat}(h:Qb K q)(hK:K≤1800):Yav q=false∧(Zax q).length≤1202:=by
 obtain⟨e1,e2⟩:=Yqi (c:=600) h (by omega) (by decide)
 have hb:Bnd q.num.natAbs q.den q:=⟨Yv5 _,Yv5 _⟩
 exact⟨hb.big e1 e2,by have:=hb.txt (a:=600) (b:=600) e1 e2 (by decide) (by decide);omega⟩
def Ycg{s:List Rat}:Ztp (s.map Zax)=s:=by
 unfold Ztp
 rw[List.map_map]
 have:(Zo0∘Zax)=id:=funext fun q=>Yg4 q
 rw[this,List.map_id]
def Zxj:∀{l:List Int},(∀x∈l,x=0)→Zam l=0
 |[],_=>rfl
 |x::l,h=>by
  rw[h x (by simp)]
  exact Zxj (l:=l) fun y hy=>h y (by simp[hy])
def Ydi{l:List Rat}(h:∀q∈l,Qb 1800 q):Zbz (l.map Zax) l.length=0:=by
 unfold Zbz
 rw[Yv6 (Yw7 ..)]
 apply Zxj
 intro x hx
 rw[List.map_map]at hx
 obtain⟨q,hq,rfl⟩:=Ywv.1 hx
 have e:chkNum (Zax q)=0:=by rw[Yak,(Zr5 (h q hq) (Yv5 _)).1];rfl
 simp[e]
def Zu5{B:List (List Rat)}{n:Nat}(h:QbM B 1800)(hc:RcN B n):Zam ((B.map fun r=>r.map Zax).map fun x=>Zbz x n)=0:=by
 apply Zxj
 intro x hx
 rw[List.map_map]at hx
 obtain⟨r,hr,rfl⟩:=Ywv.1 hx
 show Zbz (r.map Zax) n=0
 rw[←hc r hr]
 exact Ydi (h r hr)
def Yfe{l:List Str}{n:Nat}(h:Zbz l n=0):l.length=n:=by
 unfold Zbz at h
 split at h
 ·assumption
 ·exact absurd h (by decide)
def TxM.mts{h:T O}{N:Nat}{v:V}{B:List (List Rat)}(s:TxM h N v B):MtS h N v (B.map fun r=>r.map Zax):=by
 obtain⟨us,h1,h2,h3⟩:=s
 refine⟨us,h1,by simpa using h2,fun j l hl=>?_⟩
 rw[Ywj]at hl
 cases e:B[j]? with
 |none=>rw[e]at hl;simp at hl
 |some r=>
  rw[e]at hl
  simp only[Yya,Yv3]at hl
  subst hl
  exact h3 j r e
def Yfl{u:V}{x0:List Rat}(hm:MtS h N u m)(hl0:Tx h N v x0)(hP:P10 h N)(sm:Zcq 6 6 m=true)(hx0:∀q∈x0,Qb 1800 q)(hx6:x0.length<1000):Fn A.C 11 [u,v] h N (fun x h' n'=>Yvv (Yrz m (x0.map Zax)) (Ypu m (x0.map Zax)) x h' n'):=by
 intro w
 obtain⟨l,el⟩:∃l,l=x0.map Zax:=⟨_,rfl⟩
 have erl:Ztp l=x0:=by rw[el];exact Ycg
 have hl:Sl h N v (strs l):=by rw[el];exact hl0
 have l1:l.length<100000:=by rw[el,Yw7];omega
 have l2:∀s∈l,s.length≤100000:=fun s hs=>by
  rw[el]at hs
  obtain⟨q,hq,rfl⟩:=Ywv.1 hs
  have:=(Zr5 (hx0 q hq) (Yv5 _)).2
  omega
 have hqb:∀q∈Ztp l,Qb 1800 q:=by rw[erl];exact hx0
 have hlen:(Ztp l).length=l.length:=by simp[Ztp]
 rw[←el]
 obtain⟨m1,m2⟩:=Ze9 sm
 have o1:V.one u=true∧V.cells u=[u]:=by
  obtain⟨us,⟨_,rfl|rfl⟩|⟨i,o,cp,c,e,rw,rfl,_⟩,_⟩:=hm<;>exact⟨rfl,rfl⟩
 have o2:=hl.form.one
 have o3:=hl.form.cells
 obtain⟨o4,o5⟩:=o1
 rw[Zab,A.k11 (by simp)]
 unfold V.one at o2 o4
 unfold V.cells at o3 o5
 simp(disch:=first|(simp;done)|omega|rfl) [-getElem?_pos,A.b11,o2,o3,o4,o5,splice]
 generalize hH:((h.set N (.cells [u] 22 true)).set (N+1) (.cells [v] 25 true)).set (N+1+1) (.cells [.func 46 [] [.ptr N 0],.func 48 [] [.ptr (N+1) 0,.ptr N 0]] 77 true)=H
 have kB:Keeps h N H (N+1+1+1):=by rw[←hH];exact((Keeps.refl.new _).new _).new _
 have g0:H.get N=some (.cells [u] 22 true):=by rw[←hH];simp
 have g1:H.get (N+1)=some (.cells [v] 25 true):=by rw[←hH];simp
 have g2:H.get (N+1+1)=some (.cells [.func 46 [] [.ptr N 0],.func 48 [] [.ptr (N+1) 0,.ptr N 0]] 77 true):=by rw[←hH];simp
 clear hH
 have hs:Sl H (N+1+1+1) (.slice (N+1+1) 0 2 (some 2) 1) [.func 46 [] [.ptr N 0],.func 48 [] [.ptr (N+1) 0,.ptr N 0]]:=Sl.row (by omega) g2 rfl (fun k hk=>by simp at hk;omega)
 have key:=Yjj (l:=[Zg9 m 64 64,Zbz l (hdL m)]) hs rfl (by simp) (Ymn (P:=fun f e _=>∀h' n',Keeps H (N+1+1+1) h' n'→FnV A.C f [] h' n' (fun u _ _=>u=.int .i64 e)) (fun h' n' hk=>Ypa (l:=l) ((hk.get N (by omega)).trans g0) (by have:=hk.le;omega) ((hm.keep kB).keep hk) m1 m2) (fun hz h' n' hk=>Yo9 ((hk.get (N+1) (by omega)).trans g1) (by have:=hk.le;omega) ((hk.get N (by omega)).trans g0) (by have:=hk.le;omega) ((hm.keep kB).keep hk) m1 m2 ((hl.keep kB).keep hk) l1 l2 (Yfd hz sm).pos))
 change Fn A.C 45 _ H _ (fun u _ _=>u=.int .i64 (Yrz m l))at key
 refine Zac key ?_
 rintro _ H2 n2 k2 rfl
 have le2:=k2.le
 by_cases hE:Yrz m l=0
 ·have z1:=Zcc hE (Zg9 m 64 64) (by simp)
  have z2:=Zcc hE (Zbz l (hdL m)) (by simp)
  have hM:=Yfd z1 sm
  have z3:=(Yfe z2)
  have g3:=(k2.get N (by omega)).trans g0
  have kC:=kB.trans k2
  have d1:N<n2:=by omega
  have d2:N+1<n2:=by omega
  simp(disch:=first|(simp;done)|omega|rfl) [-getElem?_pos,hE,Zad,g3]
  refine Zac (Zie (k0:=100) ((hm.keep kC).rat fun r hr=>(hM.row r hr).2) (by simp[Zdq];omega) (fun r hr=>by obtain⟨a1,a2⟩:=hM.rat r hr;exact⟨by have:=hM.n6;omega,a2⟩) (by decide)) ?_
  rintro y H3 n3 k3 hy
  have le3:=k3.le
  have g4:=(k3.get (N+1) (by omega)).trans ((k2.get (N+1) (by omega)).trans g1)
  have d3:N+1<n3:=by omega
  simp(disch:=first|(simp;done)|omega|rfl) [-getElem?_pos,g4]
  refine Zac (Zpy (l:=Ztp l) (k0:=1800) (by rw[erl];exact((Tx.keep hl0 kC).keep k3)) (by omega) hqb (by decide)) ?_
  rintro z H4 n4 k4 hz
  have le4:=k4.le
  simp(disch:=first|(simp;done)|omega|rfl) [-getElem?_pos,]
  have n6:=hM.n6
  refine Zac (Ycj (n:=hdL m) (j:=100) (k:=1800) (hy.keep k4) hz.1 hM.rat (by omega) hqb (by decide) (by decide) (by omega) (by simp[Zdq];have:=hM.le;omega)) ?_
  rintro x H5 n5 k5 hx
  have le5:=k5.le
  simp(disch:=first|(simp;done)|omega|rfl) [-getElem?_pos,]
  have kD:=((kC.trans k3).trans k4).trans k5
  have hq:∀q∈Ypu m l,Qb 11407 q:=fun q hq=>by
   obtain⟨r,hr,rfl⟩:=Ywv.1 hq
   obtain⟨a1,a2⟩:=hM.rat r hr
   exact Yoi (n:=6) a2 hqb (by decide) (by decide) (by omega)
  refine Zac (Yli (l:=Ypu m l) (k:=11407) hx.1 (hP.keep kD) (by simp[Ypu,Zdq];have:=hM.le;omega) hq (by decide)) ?_
  rintro a H6 n6' k6 ha
  have kE:=kD.trans k6
  rcases ha with⟨t1,rfl⟩|⟨t1,v2,rfl,t2⟩
  ·simp(disch:=first|(simp;done)|omega|rfl) [-getElem?_pos,Ret]
   refine(Zl0 (by simp[-Zaa,d1,d3,Zmq,Zkh]<;>omega)).2 ?_
   simp(disch:=first|(simp;done)|omega|rfl) [-getElem?_pos,Ret]
   exact⟨kE,.inr ⟨rfl,.inl ⟨t1,rfl⟩⟩⟩
  ·simp(disch:=first|(simp;done)|omega|rfl) [-getElem?_pos,Ret]
   refine(Zl0 (by simp[-Zaa,d1,d3,Zmq,Zkh]<;>omega)).2 ?_
   simp(disch:=first|(simp;done)|omega|rfl) [-getElem?_pos,Ret]
   exact⟨kE,.inr ⟨rfl,.inr ⟨t1,v2,rfl,t2⟩⟩⟩
 ·simp(disch:=first|(simp;done)|omega|rfl) [-getElem?_pos,hE,Zad,Ret]
  exact⟨kB.trans k2,.inl ⟨hE,rfl⟩⟩
def Zfy{u:V}{B:List (List Rat)}(hm:MtS h N u m)(hT:TxM h N v B)(sm:Zcq 6 6 m=true)(hE:Zg9 m 64 16=0)(hB:QbM B 1800)(hBl:B.length≤6)(hBc:RcN B (hdL m))(hn5:hdL m≤6):Fn A.C 18 [u,v] h N (fun x _ _=>x=.int .i64 (if kbQ m=B then 0 else 21)):=by
 intro w
 obtain⟨m1,m2⟩:=Ze9 sm
 obtain⟨b,eb⟩:∃b,b=B.map fun r=>r.map Zax:=⟨_,rfl⟩
 have hb:MtS h N v b:=by rw[eb];exact hT.mts
 have rbl:b.length=B.length:=by rw[eb,Yw7]
 have b1:b.length<100000:=by omega
 have b2:∀x∈b,x.length<100000∧∀s∈x,s.length≤100000:=fun x hx=>by
  rw[eb]at hx
  obtain⟨r,hr,rfl⟩:=Ywv.1 hx
  refine⟨by rw[Yw7,hBc r hr];omega,fun s hs=>?_⟩
  obtain⟨q,hq,rfl⟩:=Ywv.1 hs
  have:=(Zr5 (hB r hr q hq) (Yv5 _)).2
  omega
 have hb0:Zam (b.map fun x=>Zbz x (hdL m))=0:=by
  rw[eb]
  exact Zu5 hB hBc
 have h16:¬16<b.length:=by omega
 have lu:=hm.len
 have lv:=hb.len
 rw[Zab,A.k18 (by simp)]
 simp(disch:=first|(simp;done)|omega|rfl) [-getElem?_pos,A.b18]
 refine Zac (Zmi hm m1 m2) ?_
 rintro _ H1 n1 k1 rfl
 ·have hM:=Zmp hE sm
  have m0:=hM.pos
  have m0':(0:Int)<(m.length:Int):=by omega
  obtain⟨l1,l2,l3,l4,l5⟩:=hM.lens
  obtain⟨l0,hl0⟩:=Zae m0
  obtain⟨i0,o0,cc0,e0,rw0,u0,z1,z2,z3,z4,z5⟩:=(hm.keep k1).at hl0
  have z6:=z5.len
  rw[Zb5,(hM.row l0 (Yv7 hl0)).1]at z6
  rw[Yxc]at z4
  have hc16:¬(16:Int)<(b.length:Int):=by omega
  simp(disch:=first|(simp;done)|omega|rfl) [-getElem?_pos,hE,Zad,lu,lv,m0,m0',z1,z2,z3,z4,z6,Ztv,hc16]
  refine Zac (Yha (n:=hdL m) (hb.keep k1) b1 b2) ?_
  rintro _ H2 n2 k2 rfl
  have kD:Keeps H2 n2 (H2.set n2 (.cells [.int .i64 0,.int .i64 0] 26 true)) (n2+1):=Keeps.refl.new _
  have kE:=(k1.trans k2).trans kD
  ·have hn6:=hM.n6
   have hkl:=Ydv hM
   simp(disch:=first|(simp;done)|omega|rfl) [-getElem?_pos,splice,Ymi,hb0,Zad,Zam]
   refine Zac (Zie (k0:=100) ((hm.keep kE).rat fun r hr=>(hM.row r hr).2) (by omega) l5 (by decide)) ?_
   rintro y H3 n3 k3 hy
   simp(disch:=first|(simp;done)|omega|rfl) [-getElem?_pos,]
   refine Zac (Zst hy hM.qb.1 hM.le6 l2 hM.n6 hM.qb.2) ?_
   rintro z H4 n4 k4 hz
   simp(disch:=first|(simp;done)|omega|rfl) [-getElem?_pos,]
   refine Zac (Zie (k0:=1800) (((hT.keep kE).keep k3).keep k4) (by omega) (fun l hl=>⟨by rw[hBc l hl];omega,hB l hl⟩) (by decide)) ?_
   rintro x H5 n5 k5 hx
   simp(disch:=first|(simp;done)|omega|rfl) [-getElem?_pos,]
   refine Zac (Yly (hz.keep k5) hx (Ydu hM.qb.1 hM.n6 hM.qb.2) (hB.mono (by decide)) (Yv5 _) (by show (kbQ m).length<_;omega) (by omega) (fun r hr=>by rw[Zja r hr];omega) (fun r hr=>by rw[hBc r hr];omega)) ?_
   rintro _ H6 n6 k6 rfl
   have kF:=(((kE.trans k3).trans k4).trans k5).trans k6
   by_cases hq:kbQ m=B
   ·have hq':Zll (Zdq m) (hdL m)=B:=hq
    simp(disch:=first|(simp;done)|omega|rfl) [-getElem?_pos,hq,hq',Ztv,Ret]
    exact kF
   ·have hq':¬Zll (Zdq m) (hdL m)=B:=hq
    simp(disch:=first|(simp;done)|omega|rfl) [-getElem?_pos,hq,hq',Ztv,Ret]
    exact kF
set_option maxHeartbeats 2000000
noncomputable def A.w10:=A.q Tryz.f10
noncomputable def A.lb10_0:=A.ql A.w10 1 []
noncomputable def A.lb10_1:=(fun x0=>A.ql A.w10 0 [x0]) A.lb10_0
noncomputable def A.b10:=(fun x0=>A.qb A.w10 [x0]) A.lb10_1
def A.c10:A.F 10=some ⟨54,[.tmp 2],A.b10⟩:=by kernel_rfl
def A.k10:=@A.kk 10 _ _ _ A.c10 rfl
def Ysj:Zax 1=[49]:=by decide+kernel
structure Yt9 (M:List (List Rat)) (n:Nat) (ps:List Nat):Prop where
 row:∀(i:Nat) (r:List Rat),M[i]?=some r→r.length=n
 piv:∀(i:Nat) (r:List Rat),M[i]?=some r→∃p,ps[i]?=some p∧p<n∧fnz r 0 r.length=p∧r[p]?=some 1
 asc:∀i p q,ps[i]?=some p→ps[i+1]?=some q→p<q
 zer:∀(i j p:Nat) (r:List Rat),j≠i→ps[i]?=some p→M[j]?=some r→r[p]?=some 0
def Zqr{m:List (List Rat)}{c:Nat}(hc:RcN m c):Yt9 (Zea m c) c (Za0 m c).2.2:=by
 have I:=Zci hc (n:=c)
 have hl:=Zdx (n:=c) hc
 have hrc:=Znc (n:=c) hc
 have hat:∀(i j:Nat) (r:List Rat) (p:Nat),(Zea m c)[j]?=some r→(Za0 m c).2.2[i]?=some p→p<c∧r[p]?=some (if j=i then 1 else 0):=fun i j r p hr hp=>by
  have hi:i<(Za0 m c).2.1:=by rw[←I.len];exact Zau hp
  have hj:j<(Za0 m c).2.1:=by rw[←hl];exact Zau hr
  have h1:=Zqq hc hi hj
  have h2:=I.lt i hi
  rw[hp]at h1 h2
  unfold atQ at h1
  rw[hr]at h1
  simp only[Yxg]at h1 h2
  refine⟨h2,?_⟩
  obtain⟨q,hq⟩:=Zae (l:=r) (k:=p) (by rw[hrc r (Yv7 hr)];exact h2)
  rw[hq]at h1 ⊢
  simpa using h1
 refine⟨fun i r hr=>hrc r (Yv7 hr),fun i r hr=>?_,fun i p q hp hq=>?_,fun i j p r hne hp hr=>?_⟩
 ·obtain⟨p,h1,h2,h3,_⟩:=Yca hc hr
  refine⟨p,h1,h2,h3,?_⟩
  have:=(hat i i r p hr h1).2
  rwa [Yv6 rfl]at this
 ·have:=I.asc i (i+1) (by omega) (by rw[←I.len];exact Zau hq)
  rw[hp,hq]at this
  exact this
 ·have:=(hat i j r p hr hp).2
  rwa [Yv4 hne]at this
def Zpz{h:T O}{N n:Nat}{w:List Nat}{v:V}{M:List (List Rat)}{ps:List Nat}(hs:TxM h N v M)(hE:Yt9 M n ps)(hl:M.length<1000)(hn:n<1000):A.C.call (.func 10 [] []) [v] ⟨h,N,w⟩=some (.bool true,⟨h,N,w⟩):=by
 apply Call.eq
 have lg:=hs.len
 rw[Zab,A.k10 (by simp)]
 simp(disch:=first|(simp;done)|omega|rfl) [-getElem?_pos,A.b10,lg]
 refine Zai [(2,8),(11,53)] (fun e r st=>st=⟨h,N,[]⟩∧e=.exit 0) (fun m r st=>st=⟨h,N,[]⟩∧∃k,k+m=M.length∧r.get 11=some (.int .i64 (k:Nat))∧∃x:Int,r.get 3=some (.int .i64 x)∧∀p,ps[k]?=some p→x<(p:Int)) M.length ?_ ?_ ?_
 ·exact⟨rfl,0,by omega,by simp, -1,by simp,fun p _=>by omega⟩
 ·rintro m r _ hr hf ⟨rfl,k,hk,h11,x,h3,hx⟩
  rw[Zah]
  cases m with
  |zero=>
   obtain rfl:k=M.length:=by omega
   simp(disch:=first|(simp;done)|omega|rfl) [-getElem?_pos,A.lb10_1,hr,hf,h11,h3,lg]
  |succ m=>
   have hlt:k<M.length:=by omega
   have hlt':(k:Int)<(M.length:Int):=by omega
   obtain⟨row,hrow⟩:=Zae hlt
   obtain⟨i,o,cc,e,rw,u,q1,q2,q3,q4,q5⟩:=hs.at hrow
   obtain⟨p,hp,hpn,hfz,h1⟩:=hE.piv k row hrow
   have hrl:=hE.row k row hrow
   have hpv:=fun w=>Zwl (w:=w) q5 (by omega)
   simp only[hfz]at hpv
   have lu:=Tx.len q5
   rw[hrl]at lu
   obtain⟨i2,o2,c2,e2,rw2,b1,b2,b3,b4⟩:=q5.at (Zhj h1)
   have c1:¬(p:Int)≤x:=by have:=hx p hp;omega
   have c3:¬(n:Int)≤(p:Int):=by omega
   have hpn':(p:Int)<(n:Int):=by omega
   simp(disch:=first|(simp;done)|omega|rfl) [-getElem?_pos,A.lb10_1,hr,hf,h11,h3,hlt,hlt',lg,q1,q2,q3,q4,hpv,lu,c1,c3,hpn,hpn',b1,b2,b3,b4,Ysj]
   refine Zai [(2,2),(7,8),(37,52)] (fun e r st=>st=⟨h,N,[]⟩∧e=.exit 2) (fun m r st=>st=⟨h,N,[]⟩∧∃j,j+m=M.length∧r.get 37=some (.int .i64 (j:Nat))) M.length ?_ ?_ ?_
   ·exact⟨rfl,0,by omega,by simp⟩
   ·rintro m2 r2 _ hr2 hf2 ⟨rfl,j,hj,h37⟩
    rw[Zah]
    cases m2 with
    |zero=>
     obtain rfl:j=M.length:=by omega
     simp(disch:=first|(simp;done)|omega|rfl) [-getElem?_pos,A.lb10_0,hr2,hf2,h37,hr,hf,h11,h3,lg]
    |succ m2=>
     have jlt:j<M.length:=by omega
     have jlt':(j:Int)<(M.length:Int):=by omega
     obtain⟨ro,hro⟩:=Zae jlt
     obtain⟨i3,o3,cc3,e3,rw3,u3,g1,g2,g3,g4,g5⟩:=hs.at hro
     have lu3:=Tx.len g5
     rw[hE.row j ro hro]at lu3
     by_cases hjk:j=k
     ·subst hjk
      simp(disch:=first|(simp;done)|omega|rfl) [-getElem?_pos,A.lb10_0,hr2,hf2,h37,hr,hf,h11,h3,lg,jlt,jlt',g1,g2,g3,g4]
      exact⟨m2,by omega,j+1,by omega,by simp⟩
     ·have hjk':¬(j:Int)=(k:Int):=by omega
      obtain⟨i4,o4,c4,e4,rw4,d1,d2,d3,d4⟩:=g5.at (Zhj (hE.zer k j p ro hjk hp hro))
      simp(disch:=first|(simp;done)|omega|rfl) [-getElem?_pos,A.lb10_0,hr2,hf2,h37,hr,hf,h11,h3,lg,jlt,jlt',g1,g2,g3,g4,hjk,hjk',lu3,hpn,hpn',d1,d2,d3,d4,Ya7]
      exact⟨m2,by omega,j+1,by omega,by simp⟩
   ·rintro e r2 _ hr2 ⟨rfl,rfl⟩
    simp(disch:=first|(simp;done)|omega|rfl) [-getElem?_pos,hr2,hr,hf,h11,h3]
    refine⟨?_,m,by omega,k+1,by omega,by omega,fun q hq=>hE.asc k p q hp hq⟩
    exact Fx.inner hf (by decide) (fun h=>by simpa using h) hr2
 ·rintro e r _ hr ⟨rfl,rfl⟩
  simp(disch:=first|(simp;done)|omega|rfl) [-getElem?_pos,hr]
variable {k n:Nat} {l:List Rat} {m:List (List Str)} {ps:List Nat}
def Yk2(h:∀q∈l,Qb 1800 q):Zfl l=false:=by
 unfold Zfl
 rw[List.any_eq_false]
 intro q hq
 rw[(Zr5 (h q hq) (Yv5 _)).1]
 decide
def Yt4:Zfl ((List.range n).map fun _=>(0:Rat))=false:=Yk2 fun q hq=>by
 obtain⟨_,_,rfl⟩:=Ywv.1 hq
 exact(show Qb 1 0 from ⟨by decide,by decide⟩).mono (by decide)
def Yo6{M:List (List Rat)}(h:QbM M 1800):Ztr M=false:=by
 unfold Ztr
 rw[List.any_eq_false]
 intro r hr
 rw[Yk2 (h r hr)]
 decide
structure TlM (m:List (List Str)):Prop where
 n1:0<hdL m
 n5:hdL m≤5
 s1:0<m.length
 s5:m.length≤5
 rc:RcN (Zdq m) (hdL m)
 qb:QbM (Zdq m) 14
 t:m=(Zdq m).map fun r=>r.map Zax
 sh:Zcq 6 6 m=true
 ck:Zg9 m 64 64=0
 c16:Zg9 m 64 16=0
def Ytv(h:Yf0 m 5 5 4=true):TlM m:=by
 unfold Yf0 at h
 simp only[Ywo,decide_eq_true_eq,Yw1]at h
 obtain⟨h1,h2,h3,h4,h5⟩:=h
 obtain⟨a1,a2,a3,a4,a5⟩:=Yfc h3
 refine⟨a2,h4,a1,h2,fun r hr=>?_,fun r hr q hq=>?_,Yg5 fun l hl=>(a5 l hl).2,Zrx h1 (by decide) (by decide),?_,h3⟩
 ·obtain⟨l,hl,rfl⟩:=Ywv.1 hr
  rw[Ztp,Yw7]
  exact(a5 l hl).1
 ·obtain⟨l,hl,rfl⟩:=Ywv.1 hr
  obtain⟨s,hs,rfl⟩:=Ywv.1 hq
  have:=h5 l hl
  unfold Yat at this
  rw[Ywo,Yw1]at this
  have hb:=(Yrd (this.2 s hs)).2.2
  exact⟨Yww hb.num (by decide),Yww hb.den (by decide)⟩
 ·unfold Zg9 at h3 ⊢
  rw[Yv4 (by omega),Yv4 (by omega)]at h3 ⊢
  exact h3
def Zof{R d r e z:Nat}(h1:R≤r)(h2:d≤e)(h3:(e+2)*(r+e+1)≤z):crB R d≤z:=by
 unfold crB
 exact Yxt (Yx9 (by omega) (by omega)) h3
def Zm2(h:TlM m):QbM (Zea (Zdq m) (hdL m)) 1212∧QbM (Zll (Zdq m) (hdL m)) 1212∧(Zll (Zdq m) (hdL m)).length+(Zea (Zdq m) (hdL m)).length=hdL m:=by
 have n5:=h.n5
 have hR:=Yl5 h.qb h.rc
 obtain⟨d,e,hde,h1,h2,q1,q2⟩:=Ydt hR h.rc (by omega)
 refine⟨q1.mono (Zof (r:=71) (e:=5) (by omega) (by omega) (by decide)),q2.mono ?_,by omega⟩
 have hd:d=0∨d=1∨d=2∨d=3∨d=4∨d=5:=by omega
 rcases hd with rfl|rfl|rfl|rfl|rfl|rfl
 ·exact Zof (r:=72) (e:=5) (by omega) (by omega) (by decide)
 ·exact Zof (r:=146) (e:=4) (by omega) (by omega) (by decide)
 ·exact Zof (r:=222) (e:=3) (by omega) (by omega) (by decide)
 ·exact Zof (r:=300) (e:=2) (by omega) (by omega) (by decide)
 ·exact Zof (r:=380) (e:=1) (by omega) (by omega) (by decide)
 ·exact Zof (r:=462) (e:=0) (by omega) (by omega) (by decide)
def Zou{M:List (List Rat)}{i j:Nat}{r:List Rat}(h:M[i]?=some r):atQ M i j=r[j]?.getD 0:=by
 unfold atQ
 rw[h]
 rfl
def Ylj(h:TlM m){k i:Nat}{x r:List Rat}(hx:(Zll (Zdq m) (hdL m))[k]?=some x)(hr:(Zdq m)[i]?=some r):Yau r x=0:=by
 rw[Yeq (h.rc r (Yv7 hr))]
 refine(Zas fun j _=>?_).trans (Zxa h.rc (Zau hx) i (Zau hr))
 show _=atQ (Zdq m) i j*atQ (Zll (Zdq m) (hdL m)) k j
 rw[Zou hx,Zou hr]
def Ylk(h:TlM m){k a:Nat}{x v:List Rat}(hx:(Zll (Zdq m) (hdL m))[k]?=some x)(hv:(Zea (Zdq m) (hdL m))[a]?=some v):Yau x v=0:=by
 rw[Yeq (Zja x (Yv7 hx))]
 refine(Zas fun j _=>?_).trans ((Zq0 h.rc).2 (Zxa h.rc (Zau hx)) a (Zau hv))
 show _=atQ (Zea (Zdq m) (hdL m)) a j*atQ (Zll (Zdq m) (hdL m)) k j
 rw[Zou hx,Zou hv,Rat.mul_comm]
def Yp4(h:TlM m){k:Nat}{x:List Rat}(hx:(Zll (Zdq m) (hdL m))[k]?=some x):Yrz m (x.map Zax)=0∧Ypu m (x.map Zax)=(List.range m.length).map fun _=>0:=by
 constructor
 ·unfold Yrz
  apply Zxj
  intro e he
  simp only[Yxa,List.not_mem_nil,or_false]at he
  rcases he with rfl|rfl
  ·exact h.ck
  ·rw[←Zja (m:=Zdq m) x (Yv7 hx)]
   exact Ydi fun q hq=>((Zm2 h).2.1 x (Yv7 hx) q hq).mono (by decide)
 ·unfold Ypu
  rw[Ycg]
  apply List.ext_getElem (by simp[Zdq])
  intro i h1 h2
  rw[Yw7]at h1
  simp only[List.getElem_map]
  exact Ylj h hx (Yv9 h1)
def Yfw(C:List (List Rat))(ps:List Nat)(l:List Rat)(n k:Nat):List Rat:=(List.range n).map fun j=>Zp1 (Yrr C j) (ps.map fun p=>l[p]?.getD 0) k
def Zj3{C:List (List Rat)}:(Yfw C ps l n k).length=n:=by simp[Yfw]
def Yp5{C:List (List Rat)}:Yfw C ps l n 0=(List.range n).map fun _=>0:=rfl
def Ybc{C:List (List Rat)}{v:List Rat}{p:Nat}(hv:C[k]?=some v)(hp:ps[k]?=some p)(hvl:v.length=n):Zmu (fun x y=>x+y) (Yfw C ps l n k) (v.map fun q=>q*l[p]?.getD 0) n=Yfw C ps l n (k+1):=by
 unfold Zmu Yfw
 apply Yyp
 intro j hj
 have hj:=Yx1.1 hj
 obtain⟨q,hq⟩:=Zae (l:=v) (k:=j) (by omega)
 have e1:(Yrr C j)[k]?.getD 0=q:=by
  unfold Yrr
  rw[Ywj,hv]
  simp[hq]
 have e2:(ps.map fun p=>l[p]?.getD 0)[k]?.getD 0=l[p]?.getD 0:=by
  rw[Ywj,hp]
  rfl
 rw[Ywj,Yyo hj,Ywj,hq]
 show _+_=Zp1 _ _ k+_*_
 rw[e1,e2]
 rfl
def Yln{C:List (List Rat)}(hC:QbM C 1212)(hl:∀q∈l,Qb 14 q)(hk:k≤5):∀q∈Yfw C ps l n k,Qb 6136 q:=fun q hq=>by
 obtain⟨j,_,rfl⟩:=Ywv.1 hq
 refine(Zn9 (j:=1212) (k:=14) (fun q hq=>?_) (fun q hq=>?_) (by decide) (by decide) k).mono ?_
 ·unfold Yrr at hq
  obtain⟨r,hr,rfl⟩:=Ywv.1 hq
  exact Zg2 (hC r hr) (by decide) j
 ·obtain⟨p,_,rfl⟩:=Ywv.1 hq
  exact Zg2 hl (by decide) p
 ·have:=Ywr (1212+14+1) hk
  omega
def Yp2(h:TlM m){i:Nat}{l:List Rat}(hl:(Zdq m)[i]?=some l):Yfw (Zea (Zdq m) (hdL m)) (Za0 (Zdq m) (hdL m)).2.2 l (hdL m) (Zea (Zdq m) (hdL m)).length=l:=by
 have hll:=h.rc l (Yv7 hl)
 refine Yh4 (by rw[Zj3,hll]) fun j hj=>?_
 rw[Zj3]at hj
 have hr:=Zdx (n:=hdL m) h.rc
 have hle:=(Zci h.rc (n:=hdL m)).len
 unfold Yfw
 rw[Ywj,Yyo hj]
 show Zp1 _ _ _=_
 rw[←Zou hl,Yb3 h.rc (Zau hl) hj,Yep,hr]
 apply Zas
 intro a ha
 obtain⟨v,hv⟩:=Zae (l:=Zea (Zdq m) (hdL m)) (k:=a) (by omega)
 obtain⟨p,hp⟩:=Zae (l:=(Za0 (Zdq m) (hdL m)).2.2) (k:=a) (by omega)
 rw[Ywj,hp,Zou hv,Zou hl]
 unfold Yrr
 rw[Ywj,hv]
 rfl
end Go.Mx
