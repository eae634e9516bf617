/-reconstruct-/
import Derived.Test.YtmhlaoiplmemiaaGreatDoorVbD
set_option linter.all false
namespace Go.Mx
open Go Go.Proofs
variable {N n:Nat} {h:T O} {l:List Str} {m:List (List Str)} {v:V}
set_option maxHeartbeats 2000000
set_option maxRecDepth 1000000
noncomputable def A.b9:=A.q Tryz.f9
def A.k9:=@A.kk 9 22 [.tmp 4,.tmp 5] A.b9 (by kernel_rfl) rfl
def Zk1(l:List Str):List Rat:=l.map Zfb
def Zeb(m:List (List Str)):List (List Rat):=m.map Zk1
def Za9:∀{l:List Int},Zal l=0→∀x∈l,x=0
 |[],_,x,hx=>by simp at hx
 |y::l,h,x,hx=>by
  simp only[Zal]at h
  split at h
  ·rename_i h0
   rcases Yvt.1 hx with rfl|hx
   ·exact h0
   ·exact Za9 h x hx
  ·rename_i h0;exact absurd h h0
def OkL(l:List Str):Prop:=∀s∈l,chkNum s=0∧s.length≤24
def OkL.txt(h:OkL l):(Zk1 l).map Zas=l:=by
 unfold Zk1
 rw[List.map_map]
 conv=>rhs;rw[←List.map_id l]
 apply Yww
 intro s hs
 exact(Zhq (h s hs).1).1
def OkL.qb(h:OkL l):∀q∈Zk1 l,Qb 100 q:=fun q hq=>by
 obtain⟨s,hs,rfl⟩:=Yvb.1 hq
 exact Yel (h s hs).1 (h s hs).2
def OkL.sl(hs:Sl h N v (strs l))(hl:OkL l):Tx h N v (Zk1 l):=by
 unfold Tx tx
 rw[hl.txt]
 exact hs
def MtS.rat(hs:MtS h N v m)(hm:∀r∈m,OkL r):TxM h N v (Zeb m):=by
 apply MtS.txm
 have:((Zeb m).map fun l=>l.map Zas)=m:=by
  unfold Zeb
  rw[List.map_map]
  conv=>rhs;rw[←List.map_id m]
  apply Yww
  intro r hr
  exact(hm r hr).txt
 rw[this]
 exact hs
def Zw6(h:Zdh l n=0)(hs:Zbb 6 l=true):l.length=n∧OkL l:=by
 unfold Zdh at h
 split at h
 ·rename_i hn
  refine⟨hn,fun s hs'=>?_⟩
  have h1:=Za9 h _ (Yvb.2 ⟨s,hs',rfl⟩)
  have h2:l.all Zl4=true:=by
   unfold Zbb at hs
   rw[Yu4]at hs
   exact hs.2
  have h3:=Yvk.1 h2 s hs'
  simp[Zl4]at h3
  exact⟨by omega,h3⟩
 ·exact absurd h (by decide)
def Zrd(h:Zbb n l=true):Zev l.length n=true:=by
 unfold Zbb at h
 rw[Yu4]at h
 exact h.1
structure OkM (m:List (List Str)) (n:Nat):Prop where
 pos:0<m.length
 le:m.length≤6
 n1:0<n
 n6:n≤6
 row:∀r∈m,r.length=n∧OkL r
def OkM.rat(h:OkM m n):∀r∈Zeb m,r.length=n∧∀q∈r,Qb 100 q:=fun r hr=>by
 obtain⟨s,hs,rfl⟩:=Yvb.1 hr
 exact⟨by simp[Zk1,(h.row s hs).1],(h.row s hs).2.qb⟩
def Zo1(h:Zdv 6 6 m=true):Zev m.length 6=true∧∀r∈m,Zbb 6 r=true:=by
 unfold Zdv at h
 rw[Yu4,Yvk]at h
 exact h
def Ypw(h:0<m.length):∃r∈m,hdL m=r.length:=by
 obtain⟨r,hr⟩:=Zaf h
 exact⟨r,Yux hr,by simp[hdL,hr]⟩
def Znm{k:Nat}(h:Zev k 6=true)(h2:k≤64):k≤6:=by
 simp[Zev]at h
 omega
def Yen(h:Zku m 64 64=0)(hs:Zdv 6 6 m=true):OkM m (hdL m):=by
 obtain⟨s1,s2⟩:=Zo1 hs
 unfold Zku at h
 split at h
 ·exact absurd h (by decide)
 split at h
 ·exact absurd h (by decide)
 rename_i h1 h2
 have hp:0<m.length:=by omega
 obtain⟨r0,hr0,e0⟩:=Ypw hp
 refine⟨hp,Znm s1 (by omega),by omega,?_,fun r hr=>Zw6 (Za9 h _ (Yvb.2 ⟨r,hr,rfl⟩)) (s2 r hr)⟩
 rw[e0]
 exact Znm (Zrd (s2 r0 hr0)) (by omega)
def Zez(h:Zbb 6 l=true):l.length<100000∧∀s∈l,s.length≤100000:=by
 refine⟨by have:=Zwm (Zrd h) (by omega);omega,fun s hs=>?_⟩
 unfold Zbb at h
 rw[Yu4]at h
 have h3:=Yvk.1 h.2 s hs
 simp[Zl4]at h3
 omega
def Zo2(h:Zdv 6 6 m=true):m.length<100000∧∀r∈m,r.length<100000∧∀s∈r,s.length≤100000:=by
 obtain⟨s1,s2⟩:=Zo1 h
 exact⟨by have:=Zwm s1 (by omega);omega,fun r hr=>Zez (s2 r hr)⟩
def Yui(e:Int)(l:List Rat)(x:V)(h:T O)(n:Nat):Prop:=(e≠0∧x=.tup [.nilslice,.int .i64 e])∨(e=0∧((Zdw l=true∧x=.tup [.nilslice,.int .i64 4])∨(Zdw l=false∧∃v,x=.tup [v,.int .i64 0]∧Tx h n v l)))
def Yqn(m:List (List Str))(l:List Str):Int:=Zal [Zku m 64 64,Zdh l (hdL m)]
def Yoo(m:List (List Str))(l:List Str):List Rat:=(Zeb m).map fun r=>Zsq r (Zk1 l)
def Zu6{a b:List Rat}{j k:Nat}(ha:∀q∈a,Qb j q)(hb:∀q∈b,Qb k q)(hj:1≤j)(hk:1≤k)(hn:a.length≤n):Qb (n*(j+k+1)+1) (Zsq a b):=(Zu7 ha hb hj hk a.length).mono (by have:=Yve (j+k+1) hn;omega)
def Ylr{a b:V}{x y:Int}{P:V→Int→Nat→Prop}(h0:P a x 0)(h1:x=0→P b y 1):∀(j:Nat) (f:V) (e:Int),[a,b][j]?=some f→[x,y][j]?=some e→(∀(i:Nat) (z:Int),i<j→[x,y][i]?=some z→z=0)→P f e j
 |0,f,e,hf,he,_=>by simp at hf he;subst hf he;exact h0
 |1,f,e,hf,he,hz=>by simp at hf he;subst hf he;exact h1 (hz 0 x (by omega) rfl)
 |j+2,f,e,hf,_,_=>by simp at hf
def Zxj{u:V}(hm:MtS h N u m)(hl:Sl h N v (strs l))(hP:P10 h N)(sm:Zdv 6 6 m=true)(sl:Zbb 6 l=true):Fn A.C 9 [u,v] h N (fun x h' n'=>Yui (Yqn m l) (Yoo m l) x h' n'):=by
 intro w
 obtain⟨m1,m2⟩:=Zo2 sm
 obtain⟨l1,l2⟩:=Zez sl
 have o1:V.one u=true∧V.cells u=[u]:=by
  obtain⟨us,⟨_,rfl|rfl⟩|⟨i,o,cp,c,e,rw,rfl,_⟩,_⟩:=hm<;>exact⟨rfl,rfl⟩
 have o2:=hl.form.one
 have o3:=hl.form.cells
 obtain⟨o4,o5⟩:=o1
 rw[Zaa,A.k9 (by simp)]
 unfold V.one at o2 o4
 unfold V.cells at o3 o5
 simp[A.b9,o2,o3,o4,o5,splice]
 generalize hH:((h.set N (.cells [u] 22 true)).set (N+1) (.cells [v] 28 true)).set (N+1+1) (.cells [.func 45 [] [.ptr N 0],.func 47 [] [.ptr (N+1) 0,.ptr N 0]] 76 true)=H
 have kB:Keeps h N H (N+1+1+1):=by rw[←hH];exact((Keeps.refl.new _).new _).new _
 have g0:H.get N=some (.cells [u] 22 true):=by rw[←hH];simp
 have g1:H.get (N+1)=some (.cells [v] 28 true):=by rw[←hH];simp
 have g2:H.get (N+1+1)=some (.cells [.func 45 [] [.ptr N 0],.func 47 [] [.ptr (N+1) 0,.ptr N 0]] 76 true):=by rw[←hH];simp
 clear hH
 have hs:Sl H (N+1+1+1) (.slice (N+1+1) 0 2 (some 2) 1) [.func 45 [] [.ptr N 0],.func 47 [] [.ptr (N+1) 0,.ptr N 0]]:=Sl.row (by omega) g2 rfl (fun k hk=>by simp at hk;omega)
 have key:=Zxh (l:=[Zku m 64 64,Zdh l (hdL m)]) hs rfl (by simp) (Ylr (P:=fun f e _=>∀h' n',Keeps H (N+1+1+1) h' n'→FnV A.C f [] h' n' (fun u _ _=>u=.int .i64 e)) (fun h' n' hk=>Yn3 (l:=l) ((hk.get N (by omega)).trans g0) (by have:=hk.le;omega) ((hm.keep kB).keep hk) m1 m2) (fun hz h' n' hk=>Yn2 ((hk.get (N+1) (by omega)).trans g1) (by have:=hk.le;omega) ((hk.get N (by omega)).trans g0) (by have:=hk.le;omega) ((hm.keep kB).keep hk) m1 m2 ((hl.keep kB).keep hk) l1 l2 (Yen hz sm).pos))
 change Fn A.C 44 _ H _ (fun u _ _=>u=.int .i64 (Yqn m l))at key
 refine Zab key ?_
 rintro _ H2 n2 k2 rfl
 have le2:=k2.le
 by_cases hE:Yqn m l=0
 ·have z1:=Za9 hE (Zku m 64 64) (by simp)
  have z2:=Za9 hE (Zdh l (hdL m)) (by simp)
  have hM:=Yen z1 sm
  obtain⟨z3,hL⟩:=Zw6 z2 sl
  have g3:=(k2.get N (by omega)).trans g0
  have kC:=kB.trans k2
  have d1:N<n2:=by omega
  have d2:N+1<n2:=by omega
  simp[hE,Zae,g3]
  refine Zab (Ygf (k0:=100) ((hm.keep kC).rat fun r hr=>(hM.row r hr).2) (by simp[Zeb];omega) (fun r hr=>by obtain⟨a1,a2⟩:=hM.rat r hr;exact⟨by have:=hM.n6;omega,a2⟩) (by decide)) ?_
  rintro y H3 n3 k3 hy
  have le3:=k3.le
  have g4:=(k3.get (N+1) (by omega)).trans ((k2.get (N+1) (by omega)).trans g1)
  have d3:N+1<n3:=by omega
  simp[g4]
  refine Zab (Zpm (l:=Zk1 l) (k0:=100) (OkL.sl ((hl.keep kC).keep k3) hL) (by simp[Zk1];omega) hL.qb (by decide)) ?_
  rintro z H4 n4 k4 hz
  have le4:=k4.le
  simp[]
  have n6:=hM.n6
  refine Zab (Ybu (n:=hdL m) (j:=100) (k:=100) (hy.keep k4) hz.1 hM.rat (by simp[Zk1,z3]) hL.qb (by decide) (by decide) (by omega) (by simp[Zeb];have:=hM.le;omega)) ?_
  rintro x H5 n5 k5 hx
  have le5:=k5.le
  simp[]
  have kD:=((kC.trans k3).trans k4).trans k5
  have hq:∀q∈Yoo m l,Qb 1207 q:=fun q hq=>by
   obtain⟨r,hr,rfl⟩:=Yvb.1 hq
   obtain⟨a1,a2⟩:=hM.rat r hr
   exact Zu6 (n:=6) a2 hL.qb (by decide) (by decide) (by omega)
  refine Zab (Yas (l:=Yoo m l) (k:=1207) hx.1 (hP.keep kD) (by simp[Yoo,Zeb];have:=hM.le;omega) hq (by decide)) ?_
  rintro a H6 n6' k6 ha
  have kE:=kD.trans k6
  rcases ha with⟨t1,rfl⟩|⟨t1,v2,rfl,t2⟩
  ·simp[Ret]
   refine(Zij (by simp[-oldIds,d1,d3,Zid,Zfx]<;>omega)).2 ?_
   simp[Ret]
   exact⟨kE,.inr ⟨rfl,.inl ⟨t1,rfl⟩⟩⟩
  ·simp[Ret]
   refine(Zij (by simp[-oldIds,d1,d3,Zid,Zfx]<;>omega)).2 ?_
   simp[Ret]
   exact⟨kE,.inr ⟨rfl,.inr ⟨t1,v2,rfl,t2⟩⟩⟩
 ·simp[hE,Zae,Ret]
  exact⟨kB.trans k2,.inl ⟨hE,rfl⟩⟩
set_option maxHeartbeats 2000000
set_option maxHeartbeats 2000000
def TP(e:Int)(l:List Rat)(v:V)(c:Int)(h:T O)(n:Nat):Prop:=(e≠0∧v=.nilslice∧c=e)∨(e=0∧((Zdw l=true∧v=.nilslice∧c=4)∨(Zdw l=false∧c=0∧Tx h n v l)))
noncomputable def A.b145:=A.q Tryz.f145
def A.k145:=@A.kk 145 9 [.cell 2 (some 4)] A.b145 (by kernel_rfl) rfl
noncomputable def A.b61:=A.q Tryz.f61
def A.k61:=@A.kk 61 9 [.cell 4 (some 4)] A.b61 (by kernel_rfl) rfl
def Ymz{x:V}{q:Rat}{h:T O}{N:Nat}(hx:Fc h N x q)(l1:wl q.num<1000000000):Fn A.C 145 [x] h N (fun v h' n'=>Fc h' n' v (-q)):=by
 intro w
 rw[Zaa,A.k145 (by simp)]
 obtain⟨n1,u1,n2,u2,rfl,s1,s2⟩:=hx
 have o1:=Za0 s1
 have o2:=Za0 s2
 unfold V.one at o1 o2
 have kB:Keeps h N ((h.set N (.cells [.int .i64 n1,u1,.int .i64 n2,u2] 95 true)).set (N+1) (.cells [.int .i64 0,.nilslice,.int .i64 0,.nilslice] 95 true)) (N+2):=kset (kset Keeps.refl _) _
 simp[A.b145,Zaj,slc,splice,o1,o2]
 generalize hhB:(h.set N (.cells [.int .i64 n1,u1,.int .i64 n2,u2] 95 true)).set (N+1) (.cells [.int .i64 0,.nilslice,.int .i64 0,.nilslice] 95 true)=hB at*
 have b1:hB.get N=some (.cells [.int .i64 n1,u1,.int .i64 n2,u2] 95 true):=by rw[←hhB];simp
 have b3:hB.get (N+1)=some (.cells [.int .i64 0,.nilslice,.int .i64 0,.nilslice] 95 true):=by rw[←hhB];simp
 refine Zab (Zpd (s1.keep kB) (by omega)) ?_
 rintro v5 h1 m1 k1 q1
 obtain⟨n3,u3,rfl⟩:∃n3 u3,v5=.agg [.int .i64 n3,u3]:=by
  rcases q1 with⟨rfl,_⟩|⟨_,_,_,_,rfl,_⟩<;>exact⟨_,_,rfl⟩
 have o3:=Za0 q1
 unfold V.one at o3
 have kle1:=k1.le
 have f1:=(k1.get N (by omega)).trans b1
 have f3:=(k1.get (N+1) (by omega)).trans b3
 have e1:N<m1:=by omega
 have e2:N+1<m1:=by omega
 simp[f1,f3,e1,e2,Zaj,slc,splice,Zak,o2,o3,Zam.chk,Ret]
 have kk:=kB.trans k1
 exact⟨kk.set (by omega),n3,u3,n2,u2,rfl,by rw[Rat.neg_num];exact q1.setNU (i:=N+1) f3 nu0 rfl,by rw[Rat.neg_den];exact((s2.keep kB).keep k1).setNU (i:=N+1) f3 nu0 rfl⟩
def Ymy{x y:V}{p q:Rat}{h:T O}{N:Nat}(hx:Fc h N x p)(hy:Fc h N y q)(l1:wl p.num<1000000000)(l2:wl (p.den:Nat)<1000000000)(l3:wl q.num<1000000000)(l4:wl (q.den:Nat)<1000000000):Fn A.C 61 [x,y] h N (fun v h' n'=>Fc h' n' v (p-q)):=by
 intro w
 rw[Zaa,A.k61 (by simp)]
 have hx0:=hx
 have hy0:=hy
 obtain⟨n1,u1,n2,u2,rfl,s1,s2⟩:=hx
 obtain⟨n3,u3,n4,u4,rfl,s3,s4⟩:=hy
 have o1:=Za0 s1
 have o2:=Za0 s2
 have o3:=Za0 s3
 have o4:=Za0 s4
 unfold V.one at o1 o2 o3 o4
 have kB:Keeps h N (((h.set N (.cells [.int .i64 n1,u1,.int .i64 n2,u2] 95 true)).set (N+1) (.cells [.int .i64 n3,u3,.int .i64 n4,u4] 95 true)).set (N+2) (.cells [.int .i64 0,.nilslice,.int .i64 0,.nilslice] 95 true)) (N+3):=kset (kset (kset Keeps.refl _) _) _
 simp[A.b61,Zaj,slc,splice,o1,o2,o3,o4]
 generalize hhB:((h.set N (.cells [.int .i64 n1,u1,.int .i64 n2,u2] 95 true)).set (N+1) (.cells [.int .i64 n3,u3,.int .i64 n4,u4] 95 true)).set (N+2) (.cells [.int .i64 0,.nilslice,.int .i64 0,.nilslice] 95 true)=hB at*
 have b1:hB.get N=some (.cells [.int .i64 n1,u1,.int .i64 n2,u2] 95 true):=by rw[←hhB];simp
 have b2:hB.get (N+1)=some (.cells [.int .i64 n3,u3,.int .i64 n4,u4] 95 true):=by rw[←hhB];simp
 have b3:hB.get (N+2)=some (.cells [.int .i64 0,.nilslice,.int .i64 0,.nilslice] 95 true):=by rw[←hhB];simp
 refine Zab (Ymz (hy0.keep kB) l3) ?_
 rintro v5 h1 m1 k1 q1
 have kle1:=k1.le
 have f1:=(k1.get N (by omega)).trans b1
 have f2:=(k1.get (N+1) (by omega)).trans b2
 have f3:=(k1.get (N+2) (by omega)).trans b3
 have e1:N<m1:=by omega
 have e2:N+1<m1:=by omega
 simp[f1,f2,e1,e2,Zaj,slc,splice]
 refine Zab (Zqo ((hx0.keep kB).keep k1) q1 l1 l2 (by rw[Rat.neg_num,Zq4];exact l3) (by rw[Rat.neg_den];exact l4)) ?_
 rintro v7 h3 m3 k3 hv
 rw[←Rat.sub_eq_add_neg]at hv
 obtain⟨n5,u5,n6,u6,rfl,t1,t2⟩:=hv
 have o5:=Za0 t1
 have o6:=Za0 t2
 unfold V.one at o5 o6
 have kle3:=k3.le
 have f5:=(k3.get (N+2) (by omega)).trans f3
 have e3:N+2<m3:=by omega
 simp[f5,e3,Zaj,slc,splice,Zak,o5,o6,Zam.chk,Ret]
 have kk:=(kB.trans k1).trans k3
 exact⟨kk.set (by omega),n5,u5,n6,u6,rfl,t1.setNU (i:=N+2) f5 nu0 rfl,t2.setNU (i:=N+2) f5 nu0 rfl⟩
def Qb.wls{q:Rat}{k:Nat}(h:Qb k q):wl q.num≤k∧wl (q.den:Nat)≤k:=⟨Zlr h.1,Zlr (z:=(q.den:Int)) (k:=k) (by rw[Yuw];exact h.2)⟩
set_option maxHeartbeats 4000000
set_option maxHeartbeats 2000000
noncomputable def A.b20:=A.q Tryz.f20
def A.k20:=@A.kk 20 5 [.tmp 2] A.b20 (by kernel_rfl) rfl
def Ygg{h:T O}{N:Nat}{v:V}{l:List (List Str)}(hs:MtS h N v l)(hl:l.length<100000)(hx:∀x∈l,x.length<100000∧∀s∈x,s.length≤100000):Fn A.C 20 [v] h N (fun u _ _=>u=.int .i64 (Zku l 64 16)):=by
 intro w
 rw[Zaa,A.k20 (by simp)]
 simp[A.b20]
 refine Zab (Yno (a:=64) (b:=16) hs hl hx) ?_
 rintro _ H2 n2 k2 rfl
 simp[Ret]
 exact k2
noncomputable def A.b194:=A.q Tryz.f194
def A.k194:=@A.kk 194 8 [.cell 2 (some 4)] A.b194 (by kernel_rfl) rfl
noncomputable def A.b140:=A.q Tryz.f140
def A.k140:=@A.kk 140 9 [.cell 4 (some 4)] A.b140 (by kernel_rfl) rfl
noncomputable def A.b162:=A.q Tryz.f162
def A.k162:=@A.kk 162 7 [.cell 3 (some 4)] A.b162 (by kernel_rfl) rfl
def Ym1{x:V}{q:Rat}{h:T O}{N:Nat}(hx:Fc h N x q)(h0:q≠0)(l1:wl q.num<1000000000)(l2:wl (q.den:Nat)<1000000000):Fn A.C 194 [x] h N (fun v h' n'=>Fc h' n' v q⁻¹):=by
 intro w
 rw[Zaa,A.k194 (by simp)]
 obtain⟨n1,u1,n2,u2,rfl,s1,s2⟩:=hx
 have o1:=Za0 s1
 have o2:=Za0 s2
 unfold V.one at o1 o2
 have kB:Keeps h N ((h.set N (.cells [.int .i64 n1,u1,.int .i64 n2,u2] 95 true)).set (N+1) (.cells [.int .i64 0,.nilslice,.int .i64 0,.nilslice] 95 true)) (N+2):=kset (kset Keeps.refl _) _
 simp[A.b194,Zaj,slc,splice,o1,o2]
 generalize hhB:(h.set N (.cells [.int .i64 n1,u1,.int .i64 n2,u2] 95 true)).set (N+1) (.cells [.int .i64 0,.nilslice,.int .i64 0,.nilslice] 95 true)=hB at*
 have b3:hB.get (N+1)=some (.cells [.int .i64 0,.nilslice,.int .i64 0,.nilslice] 95 true):=by rw[←hhB];simp
 have hn:q.num≠0:=fun hc=>h0 (Yoj.1 hc)
 refine Zab (Zuv (s2.keep kB) (s1.keep kB) hn (by omega) (by omega)) ?_
 rintro v7 h3 m3 k3 hv
 rw[←Zpk]at hv
 obtain⟨n5,u5,n6,u6,rfl,t1,t2⟩:=hv
 have o5:=Za0 t1
 have o6:=Za0 t2
 unfold V.one at o5 o6
 have kle3:=k3.le
 have f5:=(k3.get (N+1) (by omega)).trans b3
 have e3:N+1<m3:=by omega
 simp[f5,e3,Zaj,slc,splice,Zak,o5,o6,Ret]
 have kk:=kB.trans k3
 exact⟨kk.set (by omega),n5,u5,n6,u6,rfl,t1.setNU (i:=N+1) f5 nu0 rfl,t2.setNU (i:=N+1) f5 nu0 rfl⟩
def Ydt{x y:V}{p q:Rat}{h:T O}{N:Nat}(hx:Fc h N x p)(hy:Fc h N y q)(h0:q≠0)(l1:wl p.num<1000000000)(l2:wl (p.den:Nat)<1000000000)(l3:wl q.num<1000000000)(l4:wl (q.den:Nat)<1000000000)(l5:wl q⁻¹.num<1000000000)(l6:wl (q⁻¹.den:Nat)<1000000000):Fn A.C 140 [x,y] h N (fun v h' n'=>Fc h' n' v (p/q)):=by
 intro w
 rw[Zaa,A.k140 (by simp)]
 have hx0:=hx
 have hy0:=hy
 obtain⟨n1,u1,n2,u2,rfl,s1,s2⟩:=hx
 obtain⟨n3,u3,n4,u4,rfl,s3,s4⟩:=hy
 have o1:=Za0 s1
 have o2:=Za0 s2
 have o3:=Za0 s3
 have o4:=Za0 s4
 unfold V.one at o1 o2 o3 o4
 have kB:Keeps h N (((h.set N (.cells [.int .i64 n1,u1,.int .i64 n2,u2] 95 true)).set (N+1) (.cells [.int .i64 n3,u3,.int .i64 n4,u4] 95 true)).set (N+2) (.cells [.int .i64 0,.nilslice,.int .i64 0,.nilslice] 95 true)) (N+3):=kset (kset (kset Keeps.refl _) _) _
 simp[A.b140,Zaj,slc,splice,o1,o2,o3,o4]
 generalize hhB:((h.set N (.cells [.int .i64 n1,u1,.int .i64 n2,u2] 95 true)).set (N+1) (.cells [.int .i64 n3,u3,.int .i64 n4,u4] 95 true)).set (N+2) (.cells [.int .i64 0,.nilslice,.int .i64 0,.nilslice] 95 true)=hB at*
 have b1:hB.get N=some (.cells [.int .i64 n1,u1,.int .i64 n2,u2] 95 true):=by rw[←hhB];simp
 have b2:hB.get (N+1)=some (.cells [.int .i64 n3,u3,.int .i64 n4,u4] 95 true):=by rw[←hhB];simp
 have b3:hB.get (N+2)=some (.cells [.int .i64 0,.nilslice,.int .i64 0,.nilslice] 95 true):=by rw[←hhB];simp
 refine Zab (Ym1 (hy0.keep kB) h0 l3 l4) ?_
 rintro v5 h1 m1 k1 q1
 have kle1:=k1.le
 have f1:=(k1.get N (by omega)).trans b1
 have f2:=(k1.get (N+1) (by omega)).trans b2
 have f3:=(k1.get (N+2) (by omega)).trans b3
 have e1:N<m1:=by omega
 have e2:N+1<m1:=by omega
 simp[f1,f2,e1,e2,Zaj,slc,splice]
 refine Zab (Ydp ((hx0.keep kB).keep k1) q1 l1 l2 l5 l6) ?_
 rintro v7 h3 m3 k3 hv
 rw[←Rat.div_def]at hv
 obtain⟨n5,u5,n6,u6,rfl,t1,t2⟩:=hv
 have o5:=Za0 t1
 have o6:=Za0 t2
 unfold V.one at o5 o6
 have kle3:=k3.le
 have f5:=(k3.get (N+2) (by omega)).trans f3
 have e3:N+2<m3:=by omega
 simp[f5,e3,Zaj,slc,splice,Zak,o5,o6,Zam.chk,Ret]
 have kk:=(kB.trans k1).trans k3
 exact⟨kk.set (by omega),n5,u5,n6,u6,rfl,t1.setNU (i:=N+2) f5 nu0 rfl,t2.setNU (i:=N+2) f5 nu0 rfl⟩
def Yq1{k:Nat}{q:Rat}(h:Qb k q)(h0:q≠0):Qb k q⁻¹:=by
 have e:=Zpk q
 have h1:q.num≠0:=fun hc=>h0 (Yoj.1 hc)
 refine⟨?_,?_⟩
 ·rw[Rat.num_inv,Yv6,Yuw]
  have:q.num.sign.natAbs=1:=by
   rcases Int.lt_trichotomy q.num 0 with h2|h2|h2
   ·rw[Int.sign_eq_neg_one_of_neg h2];rfl
   ·exact absurd h2 h1
   ·rw[Int.sign_eq_one_of_pos h2];rfl
  rw[this,Nat.one_mul]
  exact h.2
 ·rw[Rat.den_inv,Yur h1]
  exact h.1
def Yp6{h:T O}{N p:Nat}{c d:List V}{x q:Rat}{e:TypeId}{rw:Bool}{j k:Nat}(hp:h.get p=some (.cells d e rw))(hpl:p<N)(hc:FcC h N c x)(hd:FcC h N d q)(h0:q≠0)(hx:Qb j x)(hq:Qb k q)(hj:j≤500000000)(hk:k≤500000000):FnV A.C (.func 162 [] [.ptr p 0]) [.agg c] h N (fun z h' n'=>Fc h' n' z (x/q)):=by
 intro w
 obtain⟨c1,c2⟩:=hc.len
 obtain⟨d1,d2⟩:=hd.len
 have w1:=hx.wls
 have w2:=hq.wls
 have w3:=(Yq1 hq h0).wls
 have hcc:∀c:List V,(V.agg c).cells=c:=fun _=>rfl
 have s0:slc c 0 4=some c:=by unfold slc;rw[c1];simp;exact Yuy (by omega)
 have s1:slc d 0 4=some d:=by unfold slc;rw[d1];simp;exact Yuy (by omega)
 have kB:Keeps h N ((h.set N (.cells c 95 true)).set (N+1) (.cells zF 95 true)) (N+1+1):=(Keeps.refl.new _).new _
 unfold zF at kB
 have n1:¬p=N:=by omega
 have n2:¬p=N+1:=by omega
 have n3:¬N=N+1:=by omega
 rw[Zaa,A.k162 (by simp)]
 simp[-V.cells, -V.one,A.b162,hp,n1,n2,hcc,c1,c2,d1,d2,s0,s1,n3]
 generalize hG:(h.set N (.cells c 95 true)).set (N+1) (.cells [.int .i64 0,.nilslice,.int .i64 0,.nilslice] 95 true)=G at*
 have g1:G.get (N+1)=some (.cells [.int .i64 0,.nilslice,.int .i64 0,.nilslice] 95 true):=by rw[←hG];simp
 clear hG
 refine Zab (Ydt (hc.keep kB).fc (hd.keep kB).fc h0 (by omega) (by omega) (by omega) (by omega) (by omega) (by omega)) ?_
 rintro _ H2 m2 k2 hz
 obtain⟨z,rfl,hzc⟩:=hz.c
 obtain⟨z1,z2⟩:=hzc.len
 have le2:=k2.le
 have g2:=(k2.get (N+1) (by omega)).trans g1
 have e4:splice [V.int .i64 0,.nilslice,.int .i64 0,.nilslice] 0 z=z:=by unfold splice;rw[z1];simp[z1]
 have s2:slc z 0 4=some z:=by unfold slc;rw[z1];simp;exact Yuy (by omega)
 have lt:N+1<m2:=by omega
 simp[-V.cells, -V.one,Zak,hcc,z1,z2,e4,s2,g2,Ret]
 exact⟨(kB.trans k2).set (by omega),(hzc.setNU (e1:=95) (w1:=true) (c1:=z) g2 nu0 (by rw[z1];rfl)).fc⟩
noncomputable def A.w141:=A.q Tryz.f141
noncomputable def A.lb141_0:=A.ql A.w141 0 []
noncomputable def A.b141:=(fun x0=>A.qb A.w141 [x0]) A.lb141_0
def A.k141:=@A.kk 141 22 [.tmp 4] A.b141 (by kernel_rfl) rfl
def Yhi{h:T O}{N:Nat}{v f:V}{l:List (List V)}{Q:Nat→T O→Nat→List V→Prop}(Y:V→Prop)(hQ:∀j h n h' n' c u,Q j h n c→Upd (fun i=>i∈Zci u) h n h' n'→Zos 95 Y h u→Q j h' n' c)(hs:Sn 4 h N v l)(hl:l.length<1000000000)(h1:∀(j:Nat) (x:List V),l[j]?=some x→x.length=4∧x.all V.one=true)(hf:∀(j:Nat) (x:List V),l[j]?=some x→∀h' n',Keeps h N h' n'→FnV A.C f [(.agg x)] h' n' (fun u h2 n2=>∃c,u=(.agg c)∧c.length=4∧c.all V.one=true∧(∀q∈c,Y q)∧Q j h2 n2 c)):Fn A.C 141 [v,f] h N (fun u h' n'=>∃out,Own 4 95 N h' n' u out∧out.length=l.length∧∀(j:Nat),j<l.length→∃c,out[j]?=some c∧Q j h' n' c):=by
 intro w
 have hlen:=hs.len
 rw[Zaa,A.k141 (by simp)]
 simp[A.b141,hlen]
 refine Zag [(5,5),(7,7),(10,20)] (fun e r st=>e=.exit 0∧oldIds N st.w=[]∧Keeps h N st.h st.n∧∃u out,r.get 5=some u∧Own 4 95 N st.h st.n u out∧out.length=l.length∧∀(j:Nat),j<l.length→∃c,out[j]?=some c∧Q j st.h st.n c) (fun m r st=>oldIds N st.w=[]∧Keeps h N st.h st.n∧∃k u out,k+m=l.length∧r.get 10=some (.int .i64 k)∧r.get 5=some u∧Own 4 95 N st.h st.n u out∧out.length=k∧(out=[]→u=.nilslice)∧(∀c∈out,∀y∈c,Y y)∧∀(j:Nat),j<k→∃c,out[j]?=some c∧Q j st.h st.n c) l.length ?_ ?_ ?_
 ·exact⟨by simp,Keeps.refl,0,.nilslice,[],by omega,by simp,by simp,Own.nil,rfl,fun _=>rfl,by simp,fun j hj=>by omega⟩
 ·rintro m r ⟨H,n1,W⟩ hr hf2 ⟨hW,hK,k,u,out,hk,h10,h5,ho,hol,hnil,hY,hout⟩
  simp only at hW hK ho hout
  rw[Zah]
  cases m with
  |zero=>
   have hkk:k=l.length:=by omega
   subst hkk
   simp[A.lb141_0,hr,hf2,h10,hW,hK]
   exact⟨u,h5,out,ho,hol,hout⟩
  |succ m=>
   have hlt:k<l.length:=by omega
   obtain⟨x,hx⟩:=Zaf hlt
   obtain⟨i,o,cc,e,rw,q1,q2,q3,q4⟩:=(hs.keep hK).at hx
   have hk1:(k:Int)<(l.length:Int):=by omega
   obtain⟨e1,e2⟩:=h1 k x hx
   have d1:¬i=n1:=by omega
   have d4:n1<n1+1:=by omega
   have kA:=(hK.new (.cells [(.int .i64 0),.nilslice,(.int .i64 0),.nilslice] 95 true)).set (i:=n1) (o:=.cells x 95 true) hK.le
   have e3:∀v:List V,(V.agg v).cells=v:=fun _=>rfl
   have e4:splice [(.int .i64 0),.nilslice,(.int .i64 0),.nilslice] 0 x=x:=by unfold splice;rw[e1];simp[e1]
   have e5:slc x 0 4=some x:=by unfold slc;rw[Yuu (by omega)];simp;exact Yuy (by omega)
   simp[-V.cells, -V.one,A.lb141_0,hr,hf2,h10,h5,hk1,hlt,hlen,q1,q3,q4,Zaj,d1,Zak,e3,e1,e2,e4,e5]
   refine Zgh (hf k x hx _ _ kA) ?_
   rintro _ h3 n3 k3 ⟨c,rfl,c1,c2,cY,c3⟩
   have kle3:=k3.le
   have kn:=hK.le
   have kB:=kA.trans k3
   have b1:∀v:List V,(V.agg v).cells=v:=fun _=>rfl
   have b2:splice [(.int .i64 0),.nilslice,(.int .i64 0),.nilslice] 0 c=c:=by unfold splice;rw[c1];simp[c1]
   simp[-V.cells, -V.one,hr,hf2,h10,h5,b1,b2,c1,c2]
   have ho3:Own 4 95 N (h3.set n3 (.cells c 95 true)) (n3+1) u out:=(ho.keep (((Keeps.refl.new _).set (Yus n1)).trans k3)).keep (Keeps.refl.new _)
   obtain⟨v',h',w',f1,f2,f3,f4,fD,f5⟩:=Zco (Y:=Y) (x:=c) (u:=.slice n3 0 1 (some 1) 4) (bytes:=64) (w:=n1::W) ho3 hnil hY (by omega) (by decide) c1 (by simp only[Zat,St.row,T.get_set,if_true];unfold slc;simp[c1];exact Yuy (by omega)) (by omega)
   rw[f1]
   have wok:¬n1<N:=by omega
   have f6:oldIds N w'=[]:=by rw[f2];simp[oldIds,hW,wok]
   have kz:=(kB.new (.cells c 95 true)).then f3
   have k4:Keeps h3 n3 (h3.set n3 (.cells c 95 true)) (n3+1):=Keeps.refl.new _
   have hq4:Q k (h3.set n3 (.cells c 95 true)) (n3+1) c:=hQ _ _ _ _ _ _ .nilslice c3 k4.upd Zos.nil
   simp(disch:=first|(simp;done)|omega|rfl) [hr,hf2,h10,f6]
   refine⟨m,by omega,kz,k+1,by omega,by simp,out++[c],f5,by simp[hol],by simp,fun c' hc z hz=>?_,fun j hj=>?_⟩
   ·rcases Yv1.1 hc with hc|hc
    ·exact hY c' hc z hz
    ·simp only[Ywj]at hc;subst hc;exact cY z hz
   by_cases hjk:j<k
   ·obtain⟨c,g1,g2⟩:=hout j hjk
    exact⟨c,by rw[Yu7 (by omega)];exact g1,hQ _ _ _ _ _ _ _ (hQ _ _ _ _ _ _ .nilslice g2 ((((Keeps.refl.new _).set (Yus n1)).trans k3).trans k4).upd Zos.nil) f4 fD⟩
   ·obtain rfl:j=k:=by omega
    exact⟨c,by rw[Yvj (by omega),hol];simp,hQ _ _ _ _ _ _ _ hq4 f4 fD⟩
 ·rintro _ r ⟨H,n1,W⟩ hr ⟨rfl,hW,hK,u,out,h5,ho,hol,hout⟩
  simp only at hW hK ho hout
  simp[hr,h5,Ret,hW,hK]
  exact⟨out,ho,hol,hout⟩
def Yme{h:T O}{N:Nat}{v f:V}{l:List Rat}(F:Rat→Rat)(hs:FrS h N v l)(hl:l.length<1000000000)(hf:∀q∈l,∀c h' n',Keeps h N h' n'→FcC h' n' c q→FnV A.C f [.agg c] h' n' (fun x h2 n2=>Fc h2 n2 x (F q))):Fn A.C 141 [v,f] h N (fun u h' n'=>FrT h' n' u (l.map F)):=by
 obtain⟨cs,h1,h2,h3⟩:=hs
 have key:=Yhi (f:=f) (Q:=fun j h n c=>∀q,(l.map F)[j]?=some q→FcC h n c q) NW (fun j h n h' n' c u hq k hd q hq'=>(hq q hq').moved k hd) h1 (by omega) (fun j x hx=>?_) ?_
 ·intro w
  refine(key w).mono fun u st=>?_
  rintro⟨q1,q2,out,o1,o2,o3⟩
  exact⟨q1,q2,Ybx o1 (by simpa[h2]using o2) fun j hj=>o3 j (by simp at hj;omega)⟩
 ·obtain⟨q,hq⟩:=Zaf (l:=l) (k:=j) (by have:=Zaz hx;omega)
  obtain⟨c,g1,g2⟩:=h3 j q hq
  rw[hx]at g1
  obtain rfl:x=c:=by simpa using g1
  exact g2.len
 ·intro j x hx h' n' hk
  obtain⟨q,hq⟩:=Zaf (l:=l) (k:=j) (by have:=Zaz hx;omega)
  obtain⟨c,g1,g2⟩:=h3 j q hq
  rw[hx]at g1
  obtain rfl:x=c:=by simpa using g1
  refine fun w=>(hf q (Yux hq) x h' n' hk (g2.keep hk) w).mono fun y st=>?_
  rintro⟨q1,q2,q3⟩
  obtain⟨c,rfl,hc⟩:=q3.c
  refine⟨q1,q2,c,rfl,hc.len.1,hc.len.2,hc.noU,fun t ht=>?_⟩
  simp[hq]at ht
  rw[←ht]
  exact hc
def RcN(m:List (List Rat))(n:Nat):Prop:=∀r∈m,r.length=n
def RcN.at{m:List (List Rat)}{n i:Nat}(h:RcN m n)(hi:i<m.length):(m[i]?.getD []).length=n:=by
 rw[Yut hi]
 exact h _ (List.getElem_mem hi)
def QbM(m:List (List Rat))(K:Nat):Prop:=∀r∈m,∀q∈r,Qb K q
def TxO(N0:Nat)(h:T O)(N:Nat)(u:V)(l:List Rat):Prop:=Tx h N u l∧∀i∈Zci u,i<N0∨∃z w,h.get i=some (.cells z 24 w)
structure RwT (N0:Nat) (h:T O) (N R:Nat) (m:List (List Rat)):Prop where
 ge:N0≤R
 lt:R<N
 ex:∃us:List V,h.get R=some (.cells us 28 true)∧us.length=m.length∧∀(j:Nat) (l:List Rat),m[j]?=some l→∃u,us[j]?=some u∧TxO N0 h N u l
def Zxx{l:List V}{i:Nat}{u:V}(h:i<l.length):splice l i [u]=l.set i u:=by
 unfold splice
 rw[List.set_eq_take_append_cons_drop,Yuu h]
 simp
noncomputable def A.w13:=A.q Tryz.f13
noncomputable def A.lb13_0:=A.ql A.w13 0 []
noncomputable def A.b13:=(fun x0=>A.qb A.w13 [x0]) A.lb13_0
def A.k13:=@A.kk 13 27 [.tmp 4] A.b13 (by kernel_rfl) rfl
def Ybf{h:T O}{N:Nat}{u v:V}{m:List (List Rat)}{w:List Nat}(hu:TxM h N u m)(hv:TxM h N v m)(hl:m.length<100000)(hr:∀r∈m,r.length<100000):A.C.call (.func 13 [] []) [u,v] ⟨h,N,w⟩=some (.bool true,⟨h,N,w⟩):=by
 apply Call.eq
 have l1:=hu.len
 have l2:=hv.len
 rw[Zaa,A.k13 (by simp)]
 simp[A.b13,l1,l2,Zae]
 refine Zag [(4,5),(11,26)] (fun e r st=>st=⟨h,N,[]⟩∧e=.exit 0) (fun i r st=>st=⟨h,N,[]⟩∧∃k,k+i=m.length∧r.get 5=some (.int .i64 k)) m.length ?_ ?_ ?_
 ·exact⟨rfl,0,by omega,by simp⟩
 ·rintro i r _ hr0 hf ⟨rfl,k,hk,h5⟩
  rw[Zah]
  cases i with
  |zero=>
   obtain rfl:k=m.length:=by omega
   simp[A.lb13_0,hr0,hf,h5,l1]
  |succ i=>
   have hlt:k<m.length:=by omega
   have hlt':(k:Int)<(m.length:Int):=by omega
   obtain⟨row,hrow⟩:=Zaf hlt
   obtain⟨i1,o,cc,e,rw,ru,q1,q2,q3,q4,q5⟩:=hu.at hrow
   obtain⟨i2,o2,c2,e2,rw2,rv,p1,p2,p3,p4,p5⟩:=hv.at hrow
   have hs:=fun w=>Yaz (w:=w) (l:=row.map Zas) q5 p5 (by simpa using hr row (Yux hrow))
   simp(disch:=first|(simp;done)|omega|rfl) [A.lb13_0,hr0,hf,h5,l1,l2,hlt,hlt',q1,q2,q3,q4,p1,p2,p3,p4,hs,Zam.chk]
   exact⟨i,by omega,k+1,by omega,by simp⟩
 ·rintro _ r _ hr0 ⟨rfl,rfl⟩
  simp[hr0]
def Ztc(m:List (List Rat)):Bool:=m.any Zdw
def TPM(e:Int)(m:List (List Rat))(v:V)(c:Int)(h:T O)(n:Nat):Prop:=(e≠0∧v=.nilslice∧c=e)∨(e=0∧((Ztc m=true∧v=.nilslice∧c=4)∨(Ztc m=false∧c=0∧TxM h n v m)))
def TPN(e:Int)(q:Rat)(s:List UInt8)(c:Int):Prop:=(e≠0∧s=[]∧c=e)∨(e=0∧((Zxf q=true∧s=[]∧c=4)∨(Zxf q=false∧c=0∧s=Zas q)))
structure Wt (e:Int) (l:List Rat) (v:V) (c:Int) (u:V) (h:T O) (n:Nat):Prop where
 p:P10 h n
 tp:TP e l v c h n
 tx:e=0→Tx h n u l
 len:l.length<100000
 txt:e=0→∀q∈l,(Zas q).length<1000000000
structure WtN (e:Int) (q:Rat) (s:Str) (c:Int) (t:Str):Prop where
 tp:TPN e q s c
 tx:e=0→t=Zas q
 txt:e=0→(Zas q).length<1000000000
structure WtM (e:Int) (m:List (List Rat)) (v:V) (c:Int) (u:V) (h:T O) (n:Nat):Prop where
 tp:TPM e m v c h n
 tx:e=0→TxM h n u m
 len:m.length<100000
 txt:e=0→∀r∈m,r.length<100000∧∀q∈r,(Zas q).length<1000000000
def Sl.cells1{h:T O}{N:Nat}{v:V}{l:List V}(s:Sl h N v l):v.cells=[v]:=by
 rcases s with⟨_,rfl|rfl⟩|⟨j,o,cp,c,e,rw,rfl,hj,_⟩<;>rfl
def Sl.one1{h:T O}{N:Nat}{v:V}{l:List V}(s:Sl h N v l):v.one=true:=by
 rcases s with⟨_,rfl|rfl⟩|⟨j,o,cp,c,e,rw,rfl,hj,_⟩<;>rfl
def kB(K:Nat):Nat→Nat
 |0=>K
 |n+1=>4*kB K n+1
def Yek{s:Str}{n:Nat}(h:chkNum s=0)(hn:s.length≤n)(h1:0<n):Qb (4*n) (Zfb s):=by
 obtain⟨e,_,_⟩:=Zhq h
 have hb:=Zoc (Zfb s)
 have l1:(Zap (Zas (Zfb s))).length≤n:=by
  rw[e];unfold Zap;split
  ·simp;omega
  ·exact hn
 rw[hb]at l1
 have g:∀m:Nat,(decN m).length≤n→m<2^(4*n):=fun m hm=>Yu0 ((Zb2 h1).1 hm) (Yjh n)
 split at l1
 ·rename_i h2
  have h3:(decN 1).length=1:=by rw[Zsw];rfl
  exact⟨g _ l1,by rw[h2];exact g 1 (by omega)⟩
 ·simp at l1
  exact⟨g _ (by omega),g _ (by omega)⟩
def atQ(m:List (List Rat))(i j:Nat):Rat:=(m[i]?.getD [])[j]?.getD 0
structure EcI (m:List (List Rat)) (d:Nat) (ps:List Nat) (n:Nat):Prop where
 len:ps.length=d
 le:d≤m.length
 lt:∀i,i<d→ps[i]?.getD 0<n
 asc:∀i j,i<j→j<d→ps[i]?.getD 0<ps[j]?.getD 0
 one:∀i j,i<d→j<m.length→atQ m j (ps[i]?.getD 0)=if j=i then 1 else 0
 lead:∀i k,i<d→k<ps[i]?.getD 0→atQ m i k=0
 rest:∀i k,d≤i→i<m.length→k<n→atQ m i k=0
set_option maxHeartbeats 2000000
set_option maxHeartbeats 4000000
variable {N R:Nat} {h:T O} {l:List Rat}
noncomputable def A.w82:=A.q Tryz.f82
noncomputable def A.lb82_0:=A.ql A.w82 0 []
noncomputable def A.b82:=(fun x0=>A.qb A.w82 [x0]) A.lb82_0
def A.k82:=@A.kk 82 18 [.tmp 2] A.b82 (by kernel_rfl) rfl
structure RwQ (h:T O) (N R:Nat) (l:List Rat) (m:Nat):Prop where
 lt:R<N
 ex:∃cs:List (List V),h.get R=some (.cells (cs.flatten++Zc2 zF m) 95 true)∧cs.length=l.length∧∀(j:Nat) (q:Rat),l[j]?=some q→∃c,cs[j]?=some c∧FcC h N c q
def RwQ.keep{h':T O}{N' m:Nat}(s:RwQ h N R l m)(k:Keeps h N h' N'):RwQ h' N' R l m:=by
 obtain⟨cs,g1,g2,g3⟩:=s.ex
 refine⟨Yu0 s.lt k.le,cs,(k.get R s.lt).trans g1,g2,fun j q hq=>?_⟩
 obtain⟨c,a,b⟩:=g3 j q hq
 exact⟨c,a,b.keep k⟩
def RwQ.fcs{cs:List (List V)}(g2:cs.length=l.length)(g3:∀(j:Nat) (q:Rat),l[j]?=some q→∃c,cs[j]?=some c∧FcC h N c q):(∀c∈cs,c.length=4)∧NoU cs.flatten∧cs.flatten.all V.one=true:=Znu (l:=l) (by omega) fun j q _ hq=>g3 j q hq
def RwQ.next{m:Nat}{c:List V}{q:Rat}(s:RwQ h N R l (m+1))(hc:FcC h N c q):∃X,h.get R=some (.cells X 95 true)∧l.length*4+4≤X.length∧RwQ (h.set R (.cells (splice X (l.length*4) c) 95 true)) N R (l++[q]) m:=by
 obtain⟨cs,g1,g2,g3⟩:=s.ex
 obtain⟨f1,f2,_⟩:=RwQ.fcs g2 g3
 have hfl:=Za8 f1
 obtain⟨e1,_⟩:=hc.len
 have hsp:splice (cs.flatten++Zc2 zF (m+1)) (l.length*4) c=(cs++[c]).flatten++Zc2 zF m:=by
  rw[Zfc,Zhy (n:=4) (by rw[hfl,g2]) rfl e1,Zh7,Yvz]
 have hnu:NoU (cs.flatten++Zc2 zF (m+1)):=f2.app Zl0
 have hln:((cs++[c]).flatten++Zc2 zF m).length=(cs.flatten++Zc2 zF (m+1)).length:=by
  rw[Zfc,Zh7];simp[e1,zF];omega
 refine⟨_,g1,by rw[Yu8,hfl,g2,Yae];omega,s.lt,cs++[c],by rw[T.get_set,Yuu rfl,hsp],by simp[g2],fun j r hr=>?_⟩
 rw[hsp]
 by_cases e:j<l.length
 ·rw[Yu7 e]at hr
  obtain⟨x,a,b⟩:=g3 j r hr
  exact⟨x,by rw[Yu7 (by omega)];exact a,b.setNU g1 hnu hln⟩
 ·have hj:j=l.length:=by have:=Zaz hr;simp at this;omega
  subst hj
  rw[Yvj (Yus _)]at hr
  simp at hr
  subst hr
  exact⟨c,by rw[Yvj (by omega),g2];simp,hc.setNU g1 hnu hln⟩
def RwQ.frt(s:RwQ h N R l 0):FrT h N (.slice R 0 l.length (some l.length) 4) l:=by
 obtain⟨cs,g1,g2,g3⟩:=s.ex
 obtain⟨f1,f2,_⟩:=RwQ.fcs g2 g3
 have hz:Zc2 zF 0=[]:=by simp[Zc2]
 rw[hz,Ywo]at g1
 refine⟨⟨cs,.inr ⟨R,0,some l.length,cs.flatten,_,true,by rw[g2],s.lt,g1,fun j x hj=>by rw[Ywn];exact Zc8 f1 hj,by rw[Za8 f1];omega,fun k hk=>by simp at hk;omega⟩,g2,g3⟩,fun i hi=>?_⟩
 simp[Zci]at hi
 subst hi
 exact⟨_,_,g1⟩
def Yfe{n:Nat}(hn:n<1000):Fn A.C 82 [.int .i64 n] h N (fun x h' n'=>x=.slice N 0 n (some n) 4∧RwQ h' n' N ((List.range n).map fun _=>0) 0):=by
 intro w
 have c1:(64:Int)*(n:Int)≤140737488355328:=by omega
 have c2:(n:Int)<4611686018427387904:=by omega
 have kB:Keeps h N (h.set N (.cells (Zc2 zF n) 95 true)) (N+1):=Keeps.refl.new _
 have gB:(h.set N (.cells (Zc2 zF n) 95 true)).get N=some (.cells (Zc2 zF n) 95 true):=by rw[T.get_set,Yuu rfl]
 rw[Zaa,A.k82 (by simp)]
 simp[A.b82,c1,c2]
 refine Zag [(4,4),(9,16)] (fun e r st=>e=.exit 0∧oldIds N st.w=[]∧Keeps h N st.h st.n∧RwQ st.h st.n N ((List.range n).map fun _=>0) 0) (fun i r st=>oldIds N st.w=[]∧Keeps h N st.h st.n∧∃t,t+i=n∧r.get 9=some (.int .i64 t)∧RwQ st.h st.n N ((List.range t).map fun _=>0) i) n ?_ ?_ ?_
 ·exact⟨by simp,kB,0,by omega,by simp,by show N<N+1;omega,[],by simp;rfl,rfl,fun j q hq=>by simp at hq⟩
 ·rintro i r ⟨H,n1,W⟩ hr hf ⟨hW,hK,t,ht,h9,hQ⟩
  simp only at hW hK hQ
  rw[Zah]
  cases i with
  |zero=>
   obtain rfl:t=n:=by omega
   simp[A.lb82_0,hr,hf,h9,hW,hK]
   exact hQ
  |succ i=>
   have hlt:t<n:=by omega
   have hlt':(t:Int)<(n:Int):=by omega
   simp[A.lb82_0,hr,hf,h9,hlt,hlt']
   refine Zab (Yh2 (by decide) (by decide)) ?_
   rintro _ H2 n2 k2 hz
   obtain⟨c,rfl,hc⟩:=hz.c
   obtain⟨e1,e2⟩:=hc.len
   have le2:=k2.le
   have hcc:(V.agg c).cells=c:=rfl
   obtain⟨X,x1,x2,x3⟩:=(hQ.keep k2).next hc
   have lN:N<n2:=Yu0 hQ.lt le2
   have hl:((List.range t).map fun _=>(0:Rat)).length=t:=by simp
   rw[hl]at x2 x3
   simp(disch:=first|(simp;done)|omega|rfl) [-V.cells, -V.one,hr,hf,h9,hlt,hlt',Zak,hcc,e1,e2,x1,x2,lN]
   exact⟨i,by omega,hW,(hK.trans k2).set (Yus _),t+1,by omega,by simp,by rw[List.range_succ,List.map_append];exact x3⟩
 ·rintro _ r ⟨H,n1,W⟩ hr ⟨rfl,hW,hK,hQ⟩
  simp only at hW hK hQ
  simp[hr,Ret,hW,hK]
  exact hQ
set_option maxHeartbeats 2000000
def Zqa{h:T O}{N:Nat}{v:V}{m:List (List Rat)}(s:MfS h N v m){i:Nat}{row:List Rat}(hr:m[i]?=some row):∃j o c e rw u,Zlb v=some (j,o)∧j<N∧h.get j=some (.cells c e rw)∧c[o+i]?=some u∧FrT h N u row:=by
 obtain⟨us,h1,h2,h3⟩:=s
 obtain⟨u,a,b⟩:=h3 i row hr
 obtain⟨j,o,c,e,rw,q1,q2,q3,q4⟩:=h1.at a
 exact⟨j,o,c,e,rw,u,q1,q2,q3,q4,b⟩
end Go.Mx
