/-
  PipelineRings: the model of a ring: Put.
-/
import Derived.Test.YtppobccilnifoaaGreatDoorKeC
set_option linter.all false
namespace Go.Mx
open Go Go.Proofs
set_option maxRecDepth 1000000
theorem RcB.len{B:Nat}{h:T O}{N:Nat}{v:V}{l:List Rc}(s:RcB B h N v l):lenV v=some l.length:=s.rcs.len
theorem RcB.one{B:Nat}{h:T O}{N:Nat}{v:V}{l:List Rc}(s:RcB B h N v l):V.one v=true∧V.cells v=[v]:=by
 obtain⟨_,⟨_,hv|hv⟩|⟨_,_,_,_,_,_,hv,_⟩,_⟩:=s<;>rw[hv]<;>exact⟨rfl,rfl⟩
theorem mput_bad{B:Nat}{h:T O}{N:Nat}{M:MS}{x:Rc}{u:V}(I:MI B h N M)(hu:Sl h N u (strs x.vs))(hl:x.vs.length<1000)(hs:∀s∈x.vs,s.length≤100000)(hb:chkRc x≠0∨x.f≤M.last):Fn A.C 71 [.ptr M.R 0,.agg [.int .i64 x.f,.int .i64 x.t,u]] h N (fun v h' n'=>v=.int .i64 (if chkRc x≠0 then chkRc x else 11)):=by
 intro w
 have o1:=hu.form.one
 have o2:=hu.form.cells
 unfold V.one at o1
 unfold V.cells at o2
 have hR:=I.lt.1
 have hr:=I.r
 unfold MS.cells at hr
 have k0:=(Keeps.refl (h:=h) (n:=N)).new (.cells [.int .i64 x.f,.int .i64 x.t,u] 68 true)
 rw[call_run,A.k71 (by simp)]
 simp(disch:=first|(simp;done)|omega|rfl) [-getElem?_pos,A.b71,o1,o2,eqPrim,splice,partV,slc]
 refine run_fn (crec_fn (hu.keep k0) hl hs) ?_
 rintro _ h1 n1 k1 rfl
 have kle:=k1.le
 have g0:=(k1.get N (by omega)).trans (by rw[T.get_set,if_pos rfl])
 have gR:=(k1.get M.R (by omega)).trans ((k0.get _ hR).trans hr)
 have e1:N<n1:=by omega
 have e2:M.R<n1:=by omega
 have kk:=k0.trans k1
 by_cases hc:chkRc x=0
 ·have hle:x.f≤M.last:=by rcases hb with hb|hb;exact absurd hc hb;exact hb
  simp(disch:=first|(simp;done)|omega|rfl) [-getElem?_pos,g0,gR,e1,e2,hc,hle,partV,eqPrim,Ret]
  exact kk
 ·simp(disch:=first|(simp;done)|omega|rfl) [-getElem?_pos,g0,gR,e1,e2,hc,partV,eqPrim,Ret]
  exact kk
theorem mput_frozen{B:Nat}{h:T O}{N:Nat}{M:MS}{x:Rc}{u:V}(I:MI B h N M)(hu:Sl h N u (strs x.vs))(hl:x.vs.length<1000)(hs:∀s∈x.vs,s.length≤100000)(hc:chkRc x=0)(hle:¬x.f≤M.last)(hfz:M.fz=true)(h0:0≤M.ref)(h1:M.ref<1000000):FnD A.C M.D 71 [.ptr M.R 0,.agg [.int .i64 x.f,.int .i64 x.t,u]] h N (fun v h' n'=>v=.int .i64 18∧MI B h' n' {M with ref:=M.ref+1}):=by
 intro w
 have o1:=hu.form.one
 have o2:=hu.form.cells
 unfold V.one at o1
 unfold V.cells at o2
 have hR:=I.lt.1
 have hr:=I.r
 unfold MS.cells at hr
 have r1:=I.va.one.1
 have r2:=I.vl.one.1
 unfold V.one at r1 r2
 have k0:=(Keeps.refl (h:=h) (n:=N)).new (.cells [.int .i64 x.f,.int .i64 x.t,u] 68 true)
 rw[call_run,A.k71 (by simp)]
 simp(disch:=first|(simp;done)|omega|rfl) [-getElem?_pos,A.b71,o1,o2,eqPrim,splice,partV,slc]
 refine run_fn (crec_fn (hu.keep k0) hl hs) ?_
 rintro _ h1 n1 k1 rfl
 have kle:=k1.le
 have g0:=(k1.get N (by omega)).trans (by rw[T.get_set,if_pos rfl])
 have gR:=(k1.get M.R (by omega)).trans ((k0.get _ hR).trans hr)
 have e1:N<n1:=by omega
 have e2:M.R<n1:=by omega
 have kk:=k0.trans k1
 have U:Upd M.D h N (h1.set M.R (.cells (MS.cells {M with ref:=M.ref+1}) 99 true)) n1:=kk.upd.set (.inl (.inl rfl))
 have IK:=I.keep kk
 have UK:Upd M.D h1 n1 (h1.set M.R (.cells (MS.cells {M with ref:=M.ref+1}) 99 true)) n1:=Upd.refl.set (.inl (.inl rfl))
 obtain⟨q1,q2,q3⟩:=IK.rest UK
 have hfin:=IK.write (ls:=M.ls) (vl:=M.vl) UK M.last M.fz M.over (M.ref+1) (by rw[T.get_set,if_pos rfl]) q1 q2 (IK.vl.eq fun i hi=>by rw[T.get_set,if_neg];rintro rfl;exact IK.vl.has.ne IK.r (by simp) hi) q3 (fun j hj=>⟨I.ge.2 j hj,IK.lt.2 j hj⟩)
 rw[hfz]at gR
 simp only[MS.cells,hfz]at U
 simp(disch:=first|(simp;done)|omega|rfl) [-getElem?_pos, -oldIds,g0,gR,e1,e2,hc,hle,partV,eqPrim,storeK2,r1,r2,splice]
 refine retD_fin ?_ U ⟨rfl,?_⟩
 ·intro j hj hn
  simp at hj;rw[hj];exact .inl rfl
 ·rw[hfz]at hfin;simpa only[MS.cells,hfz]using hfin
theorem RcB.push{B:Nat}{h':T O}{N':Nat}{v' u:V}{cs:List (List V)}{l:List Rc}{x:Rc}(hcl:cs.length=l.length)(hcs:∀(j:Nat) (x:Rc),l[j]?=some x→∃u,cs[j]?=some (rcC (x,u))∧Sl h' N' u (strs x.vs)∧∀i∈rowV u,i<B)(hz:∀c∈cs,c.length=3)(hs:Sn 3 h' N' v' (cs++[rcC (x,u)]))(hu:Sl h' N' u (strs x.vs))(hub:∀i∈rowV u,i<B):RcB B h' N' v' (l++[x]):=by
 refine⟨cs++[rcC (x,u)],hs,fun c hc=>?_,by simp[hcl],fun j y hj=>?_⟩
 ·rcases List.mem_append.1 hc with hc|hc
  ·exact hz c hc
  ·simp at hc;rw[hc];rfl
 ·by_cases hjl:j<l.length
  ·rw[List.getElem?_append_left hjl]at hj
   rw[List.getElem?_append_left (by omega)]
   exact hcs j y hj
  ·rw[List.getElem?_append_right (by omega)]at hj
   rw[List.getElem?_append_right (by omega),hcl]
   cases hd:j-l.length with
   |zero=>rw[hd]at hj;simp at hj;subst hj;exact⟨u,by simp,hu,hub⟩
   |succ d=>rw[hd]at hj;simp at hj
theorem RcB.drop1{B:Nat}{h:T O}{N i n m:Nat}{l:List Rc}{c:List V}{e:TypeId}{rw:Bool}(s:RcB B h N (.slice i 0 n none 3) l)(hg:h.get i=some (.cells c e rw))(hc:c.length=(n+m)*3)(hl:1≤l.length):∃v',(∀w,sliceK ⟨h,N,w⟩ 3 (some (.slice i 0 n none 3)) (some (some (.int .i64 1))) (some none) (some none)=some (v',⟨h,N,w⟩))∧RcB B h N v' (l.drop 1)∧∀t∈rowV v',t=i:=by
 obtain⟨cs,h1,h2,h3,h4⟩:=s
 have hn:=h1.len
 simp only[lenV_slice,Option.some.injEq]at hn
 have e1:=fun w=>sl_none (w:=w) (N:=N) (z:=3) (n:=n) (m:=m) (by decide) hg hc (lo:=1) (hi:=n) (by omega) (by omega) (some (.int .i64 1)) none (.inl rfl) (.inr ⟨rfl,rfl⟩)
 obtain⟨v',e2,e3⟩:=sliceK_sn (z:=3) (w:=[]) (by decide) h1 (lo:=1) (hi:=cs.length) (by omega) (Nat.le_refl _) (some (.int .i64 1)) none (.inl rfl) (.inr ⟨rfl,rfl⟩)
 rw[e1 []]at e2
 simp only[Option.some.injEq,Prod.mk.injEq,and_true]at e2
 subst e2
 rw[List.take_length]at e3
 refine⟨_,e1,⟨cs.drop 1,e3,fun c hc=>h2 c (List.mem_of_mem_drop hc),by simp[h3],fun j x hx=>?_⟩,fun t ht=>?_⟩
 ·rw[List.getElem?_drop]at hx
  obtain⟨u,q⟩:=h4 _ x hx
  exact⟨u,by rw[List.getElem?_drop];exact q⟩
 ·split at ht
  ·simpa[rowV]using ht
  ·simp[rowV]at ht
set_option maxHeartbeats 4000000 in
theorem mput_ok{B:Nat}{h:T O}{N:Nat}{M:MS}{x:Rc}{u:V}(I:MI B h N M)(hB:B≤N)(hu:Sl h N u (strs x.vs))(hub:∀i∈rowV u,i<B)(hl:x.vs.length<1000)(hs:∀s∈x.vs,s.length≤100000)(hc:chkRc x=0)(hle:¬x.f≤M.last)(hfz:M.fz=false)(h0:0≤M.over)(h1:M.over<1000000)(hal:M.all.length<1000)(hll:M.ls.length<1000)(hlo:∀a∈M.ls,0≤a.1.lost∧a.1.lost<1000000∧a.1.buf.length<1000):FnD A.C M.D 71 [.ptr M.R 0,.agg [.int .i64 x.f,.int .i64 x.t,u]] h N (fun v h' n'=>v=.int .i64 0∧∃va ls,MI B h' n' {M with va:=va,all:=if M.cap<((M.all.length+1:Nat):Int) then (M.all++[x]).drop 1 else M.all++[x],last:=x.f,over:=if M.cap<((M.all.length+1:Nat):Int) then M.over+1 else M.over,ls:=ls}∧ls.map Prod.fst=M.ls.map fun a=>a.1.tell (x.f,x.t)):=by
 intro w
 have o1:=hu.form.one
 have o2:=hu.form.cells
 unfold V.one at o1
 unfold V.cells at o2
 have hR:=I.lt.1
 have hr:=I.r
 unfold MS.cells at hr
 have r1:=I.va.one.1
 have r2:=I.vl.one.1
 unfold V.one at r1 r2
 have k0:=(Keeps.refl (h:=h) (n:=N)).new (.cells [.int .i64 x.f,.int .i64 x.t,u] 68 true)
 rw[call_run,A.k71 (by simp)]
 simp(disch:=first|(simp;done)|omega|rfl) [-getElem?_pos,A.b71,o1,o2,eqPrim,splice,partV,slc]
 refine run_fn (crec_fn (hu.keep k0) hl hs) ?_
 rintro _ h1 n1 k1 rfl
 have kle:=k1.le
 have g0:=(k1.get N (by omega)).trans (by rw[T.get_set,if_pos rfl])
 have gR:=(k1.get M.R (by omega)).trans ((k0.get _ hR).trans hr)
 have e1:N<n1:=by omega
 have e2:M.R<n1:=by omega
 have kk:=k0.trans k1
 have IK:=I.keep kk
 rw[hfz]at gR
 have d1:¬N=M.R:=by omega
 have d2:¬n1=M.R:=by omega
 have d3:¬N=n1:=by omega
 have d4:¬M.R=n1:=by omega
 have U1:Upd M.D h1 n1 ((h1.set M.R (.cells [.int .i64 M.cap,M.va,.int .i64 x.f,.bool false,.int .i64 M.over,.int .i64 M.ref,M.vl] 99 true)).set n1 (.cells [] 68 true)) (n1+1):=(Upd.refl.set (.inl (.inl rfl))).new _
 obtain⟨q1,q2,q3⟩:=IK.rest U1
 generalize hHa:(h1.set M.R (.cells [.int .i64 M.cap,M.va,.int .i64 x.f,.bool false,.int .i64 M.over,.int .i64 M.ref,M.vl] 99 true)).set n1 (.cells [] 68 true)=Ha at*
 have ga:Ha.get n1=some (.cells [] 68 true):=by rw[←hHa];simp
 have gaR:Ha.get M.R=some (.cells [.int .i64 M.cap,M.va,.int .i64 x.f,.bool false,.int .i64 M.over,.int .i64 M.ref,M.vl] 99 true):=by rw[←hHa];simp[d4]
 have gaN:Ha.get N=h1.get N:=by rw[←hHa];simp[d1,d3]
 obtain⟨cs,c1,c2,c3,c4⟩:=q1
 obtain⟨y,h3,n3,x1,k3,cw⟩:=copy_row (w:=[]) (bytes:=40) (i:=n1) (N0:=n1) (e:=68) (by omega) c1 c2 (by omega) (Nat.le_refl _) ga (by omega)
 have kle3:=k3.le
 have k4:Keeps h3 n3 (h3.set n3 (.cells (rcC (x,u)) 68 true)) (n3+1):=Keeps.refl.new _
 obtain⟨h5,w5,x2,hw5,U5,row5⟩:=push_row (w:=[]) (bytes:=40) (u:=.slice n3 0 1 (some 1) 3) (x:=rcC (x,u)) (by omega) (cw.keep k4) rfl (by omega) (by simp[srcCells,St.row,slc,rcC]) (by omega)
 simp only[rcC]at x2
 have g3N:=(k3.get N (by omega)).trans (gaN.trans g0)
 have g3R:=(k3.get M.R (by omega)).trans gaR
 have g5R:=(U5.get M.R (by omega) (by omega)).trans ((k4.get M.R (by omega)).trans g3R)
 have g5N:=(U5.get N (by omega) (by omega)).trans ((k4.get N (by omega)).trans g3N)
 have s1:N<n3:=by omega
 have s2:M.R<n1+1:=by omega
 have s3:M.R<n3+1+1:=by omega
 rw[c3]at x2
 simp(disch:=first|(simp;done)|omega|rfl) [-getElem?_pos, -oldIds,g0,gR,e1,e2,d1,d2,d3,d4,hc,hle,partV,eqPrim,storeK2,r1,r2,splice,hHa,gaR,x1]
 have s4:n3<n3+1:=by omega
 have e3N:slc [.int .i64 x.f,.int .i64 x.t,u] 0 3=some [.int .i64 x.f,.int .i64 x.t,u]:=rfl
 have va1:∀(a b c d e:V),splice [a,M.va,b,c,d,e,M.vl] 1 [.slice (n3+1) 0 (M.all.length+1) none 3]=[a,.slice (n3+1) 0 (M.all.length+1) none 3,b,c,d,e,M.vl]:=fun _ _ _ _ _=>rfl
 simp(disch:=first|(simp;done)|omega|rfl) [-getElem?_pos, -oldIds,g3N,e3N,o1,splice,x2,g5R,storeK2,va1,s2,s3,r2]
 refine(k_regD (by simp[-oldIds,any_none,meets_nil,s1,s2,s3])).2 ?_
 have d5:¬n3+1=M.R:=by omega
 have e4:M.R<n3+1+1:=by omega
 simp(disch:=first|(simp;done)|omega|rfl) [-getElem?_pos, -oldIds,s3,s2]
 generalize hH6:h5.set M.R (.cells [.int .i64 M.cap,.slice (n3+1) 0 (M.all.length+1) none 3,.int .i64 x.f,.bool false,.int .i64 M.over,.int .i64 M.ref,M.vl] 99 true)=H6
 have U6:Upd (fun i=>M.D i∨i=n1) Ha (n1+1) H6 (n3+1+1):=by
  rw[←hH6]
  exact((k3.upd.trans k4.upd).then U5 fun i hi hc=>by have:=hc.1;exact .inr (by omega)).set (.inl (.inl (.inl rfl)))
 have UU:Upd M.D h1 n1 H6 (n3+1+1):=by
  rw[←hH6]
  exact(((U1.trans k3.upd).trans k4.upd).then U5 fun i hi hc=>by have:=hc.1;omega).set (.inl (.inl rfl))
 have g6:H6.get M.R=some (.cells [.int .i64 M.cap,.slice (n3+1) 0 (M.all.length+1) none 3,.int .i64 x.f,.bool false,.int .i64 M.over,.int .i64 M.ref,M.vl] 99 true):=by rw[←hH6,T.get_set,if_pos rfl]
 have g6N:H6.get N=some (.cells [.int .i64 x.f,.int .i64 x.t,u] 68 true):=by rw[←hH6,T.get_set,if_neg d1,g5N]
 have row6:Row 3 68 H6 (.slice (n3+1) 0 (M.all.length+1) none 3) (cs++[rcC (x,u)]):=by
  rw[←c3]
  exact row5.eq fun t ht=>by simp[rowV]at ht;subst ht;rw[←hH6,T.get_set,if_neg d5]
 obtain⟨_,t2,t3⟩:=IK.rest UU
 have hBD:∀i,M.D i→B≤i:=fun i hi=>by
  rcases hi with rfl|hi
  ·exact I.ge.1
  ·exact I.ge.2 i hi
 have v6:RcB B H6 (n3+1+1) (.slice (n3+1) 0 (M.all.length+1) none 3) (M.all++[x]):=RcB.push c3 (fun j y hy=>by
  obtain⟨u',b1,b2,b3⟩:=c4 j y hy
  exact⟨u',b1,b2.moved U6 (fun i hi hc=>by
   have:=b3 i hi
   rcases hc with hc|hc
   ·have:=hBD i hc;omega
   ·omega),b3⟩) c2 (row6.sn fun t ht=>by simp[rowV]at ht;omega) (((hu.keep kk).moved UU fun i hi hc=>by have:=hub i hi;have:=hBD i hc;omega)) hub
 have I6:=IK.write (ls:=M.ls) (vl:=M.vl) UU x.f false M.over M.ref g6 v6 row6.has (IK.vl.eq fun i hi=>by
  have a1:¬i=M.R:=by rintro rfl;exact IK.vl.has.ne IK.r (by simp) hi
  have a2:=IK.lt.2 i hi
  rw[←hH6,T.get_set,if_neg a1,U5.get i (by omega) (by omega),k4.get i (by omega),k3.get i (by omega),←hHa,T.get_set,if_neg (by omega),T.get_set,if_neg a1]) t3 (fun j hj=>⟨I.ge.2 j hj,by have:=IK.lt.2 j hj;omega⟩)
 have hND:¬M.D N:=fun hc=>by
  rcases hc with hc|hc
  ·omega
  ·have:=I.lt.2 N hc;omega
 have hU:Upd M.D h N H6 (n3+1+1):=kk.upd.trans UU
 have hlog:∀i∈oldIds (n3+1+1) [M.R]++(oldIds (n3+1) w5++[M.R]),M.D i∨N≤i:=fun i hi=>by
  rcases List.mem_append.1 hi with hi|hi
  ·have:=(mem_old hi).1;simp at this;exact .inl (.inl this)
  ·rcases List.mem_append.1 hi with hi|hi
   ·have:=hw5 i (mem_old hi).1;simp at this;exact .inr (by omega)
   ·simp at hi;exact .inl (.inl hi)
 generalize oldIds (n3+1+1) [M.R]++(oldIds (n3+1) w5++[M.R])=W6 at*
 have hfz':=hfz
 by_cases hcap:M.cap<(M.all.length:Int)+1
 ·obtain⟨_,⟨hv,_⟩|⟨i',p',m',ev,hm',hg'⟩⟩:=row6
  ·simp at hv
  have hcl:(cs++[rcC (x,u)]).length=M.all.length+1:=by simp[c3]
  rw[hcl]at ev
  simp only[V.slice.injEq,and_true]at ev
  have ev:n3+1=i':=ev
  subst ev
  obtain⟨v',b1,b2,b3⟩:=v6.drop1 (m:=m') hg' (by
   rw[List.length_append,flatten_len (z:=3) (fun c hc=>by
    rcases List.mem_append.1 hc with hc|hc
    ·exact c2 c hc
    ·simp at hc;rw[hc];rfl),hcl,hm'];omega) (by simp)
  have b4:V.one v'=true:=b2.one.1
  unfold V.one at b4
  have U7:Upd M.D H6 (n3+1+1) ((H6.set M.R (.cells [.int .i64 M.cap,v',.int .i64 x.f,.bool false,.int .i64 M.over,.int .i64 M.ref,M.vl] 99 true)).set M.R (.cells [.int .i64 M.cap,v',.int .i64 x.f,.bool false,.int .i64 (M.over+1),.int .i64 M.ref,M.vl] 99 true)) (n3+1+1):=(Upd.refl.set (.inl (.inl rfl))).set (.inl (.inl rfl))
  obtain⟨_,_,t7⟩:=I6.rest U7
  have v7:Has ((H6.set M.R (.cells [.int .i64 M.cap,v',.int .i64 x.f,.bool false,.int .i64 M.over,.int .i64 M.ref,M.vl] 99 true)).set M.R (.cells [.int .i64 M.cap,v',.int .i64 x.f,.bool false,.int .i64 (M.over+1),.int .i64 M.ref,M.vl] 99 true)) 68 v':=fun i hi=>by
   rw[b3 i hi,T.get_set,if_neg d5,T.get_set,if_neg d5]
   exact⟨_,_,hg'⟩
  have I7:=I6.write (ls:=M.ls) (vl:=M.vl) U7 x.f false (M.over+1) M.ref (by rw[T.get_set,if_pos rfl];rfl) (b2.moved U7 (fun i hi hc=>by
   rw[b3 i hi]at hc
   rcases hc with hc|hc
   ·exact d5 hc
   ·have:=IK.lt.2 _ hc;omega) hBD) v7 (I6.vl.eq fun i hi=>by
   have a1:¬i=M.R:=by rintro rfl;exact IK.vl.has.ne IK.r (by simp) hi
   rw[T.get_set,if_neg a1,T.get_set,if_neg a1]) t7 (fun j hj=>⟨I.ge.2 j hj,I6.lt.2 j hj⟩)
  have e5:∀(a b c d e:V),splice [a,.slice (n3+1) 0 (M.all.length+1) none 3,b,c,d,e,M.vl] 1 [v']=[a,v',b,c,d,e,M.vl]:=fun _ _ _ _ _=>rfl
  have b5:V.cells v'=[v']:=b2.one.2
  unfold V.cells at b5
  have e6:∀(a b c d:V),splice [a,v',b,c,.int .i64 M.over,d,M.vl] 4 [.int .i64 (M.over+1)]=[a,v',b,c,.int .i64 (M.over+1),d,M.vl]:=fun _ _ _ _=>rfl
  simp(disch:=first|(simp;done)|omega|rfl) [-getElem?_pos, -oldIds,hcap,g6,op_sliceSl_K,evOpt,b1,b4,b5,storeK2,e5,e6,r2,partV]
  refine run_code (mput_tail (p:=(x.f,x.t)) I7 (by omega) ((U7.get N (by omega) hND).trans g6N) (by omega) hND (by simp) (by simp) hll hlo) ?_
  rintro e fr ⟨H8,n8,W8⟩ ⟨rfl,r8,rfl,r4,hw8,U8,ls,I8,hm⟩
  simp only at hw8 U8 I8
  simp(disch:=first|(simp;done)|omega|rfl) [-getElem?_pos, -oldIds,r4]
  have hU8:Upd M.D h N H8 n8:=(hU.trans U7).trans U8
  refine retD_fin ?_ hU8 ⟨rfl,v',ls,?_,hm⟩
  ·intro i hi hn
   rcases hw8 i hi with hi|hi|hi
   ·simp only[List.mem_cons]at hi
    rcases hi with rfl|rfl|hi
    ·exact .inl rfl
    ·exact .inl rfl
    ·exact(hlog i hi).resolve_right (by omega)
   ·exact hi
   ·omega
  ·rw[hfz'];simpa using I8
 ·simp(disch:=first|(simp;done)|omega|rfl) [-getElem?_pos, -oldIds,hcap]
  refine run_code (mput_tail (p:=(x.f,x.t)) I6 (by omega) g6N (by omega) hND (by simp) (by simp) hll hlo) ?_
  rintro e fr ⟨H8,n8,W8⟩ ⟨rfl,r8,rfl,r4,hw8,U8,ls,I8,hm⟩
  simp only at hw8 U8 I8
  simp(disch:=first|(simp;done)|omega|rfl) [-getElem?_pos, -oldIds,r4]
  have hU8:Upd M.D h N H8 n8:=hU.trans U8
  refine retD_fin ?_ hU8 ⟨rfl,.slice (n3+1) 0 (M.all.length+1) none 3,ls,?_,hm⟩
  ·intro i hi hn
   rcases hw8 i hi with hi|hi|hi
   ·exact(hlog i hi).resolve_right (by omega)
   ·exact hi
   ·omega
  ·rw[hfz'];exact I8
end Go.Mx
namespace Go.Mx
open Go Go.Proofs
set_option maxRecDepth 1000000
def A.b36:MCode:=.seq (.reg [mc 4 0])
 (.seq (.reg [mv 8 0,mv 9 1,⟨(some 10),.call (.const (.func 63 [] [])) [(.tmp 8),(.tmp 9)],none⟩,mv 7 10,xt 11 7 0,xt 12 7 1,mv 5 11,mv 6 12])
 (.seq (.seq (.reg [mv 13 6,⟨(some 14),.bin .eql (.prim .int) true (.tmp 13) (.const (.int .i64 0)),none⟩])
 (.cond (.tmp 14)
 (.reg [mv 15 0,mv 16 0,⟨(some 17),.nilck (.tmp 16),none⟩,⟨(some 18),.faddr 6 (.tmp 17),none⟩,ld 19 18,mv 20 5,mv 21 5,bc 22 .add 21 1,⟨(some 23),.call (.const (.func 72 [] [])) [(.tmp 19),(.tmp 20),(.tmp 22)],none⟩,⟨(some 24),.nilck (.tmp 15),none⟩,⟨(some 25),.faddr 6 (.tmp 24),none⟩,so 25 23])
 (.skip)))
 (.seq (.reg [mv 26 6,mv 4 26])
 (.ret))))
theorem A.c36:cFunc Tryz.prog 36=some ⟨27,[.tmp 4],A.b36⟩:=by kernel_rfl
def A.k36{K Q f c args st}:=@A.kk 36 _ _ _ A.c36 rfl K Q f c args st
def A.b72:MCode:=.seq (.reg [⟨(some 6),.mov (.const .nilslice),none⟩])
 (.seq (.reg [mv 8 0,mv 9 1,mv 10 2,mv 11 0,ln 12 11,⟨(some 13),.sliceSl 1 (.tmp 8) (some (.tmp 9)) (some (.tmp 10)) (some (.tmp 12)),none⟩])
 (.seq (.seq (.reg [mv 14 1,mv 15 2,⟨(some 16),.bin .eql (.prim .int) false (.tmp 14) (.tmp 15),none⟩])
 (.cond (.tmp 16)
 (.seq (.reg [mv 17 0,mv 6 17])
 (.ret))
 (.skip)))
 (.seq (.reg [mv 18 0,ln 19 18,mv 7 19])
 (.seq (.regD [mv 20 0,mv 21 1,⟨(some 22),.sliceSl 1 (.tmp 20) none (some (.tmp 21)) none,none⟩,mv 23 0,mv 24 2,⟨(some 25),.sliceSl 1 (.tmp 23) (some (.tmp 24)) none none,none⟩,⟨(some 26),.append 1 8 148 [.nilptr] (.tmp 22) (.tmp 25),none⟩,mv 0 26] [0,0,3,0,0,24,63,127])
 (.seq (.reg [mv 27 0,mv 28 0,ln 29 28,mv 30 7,⟨(some 31),.sliceSl 1 (.tmp 27) (some (.tmp 29)) (some (.tmp 30)) none,none⟩,⟨none,.clear 1 [.nilptr] (.tmp 31),none⟩])
 (.seq (.reg [mv 32 0,mv 6 32])
 (.ret)))))))
theorem A.c72:cFunc Tryz.prog 72=some ⟨33,[.tmp 6],A.b72⟩:=by kernel_rfl
def A.k72{K Q f c args st}:=@A.kk 72 _ _ _ A.c72 rfl K Q f c args st
def A.lb70_0:MCode:=.seq (.reg [bi 9 .lss 8 7])
 (.seq (.cond (.tmp 9)
 (.skip)
 (.exit 0))
 (.seq (.block 1 (.seq (.reg [ia 10 2 6 8,⟨(some 11),.load (some 2) (.tmp 10),none⟩,⟨(some 5),.alloc [(.int .i64 0),(.int .i64 0)] 85,none⟩,⟨none,.store 2 (.tmp 5) (.tmp 11),none⟩])
 (.reg [mv 12 3,⟨(some 13),.load (some 2) (.tmp 5),none⟩,⟨(some 14),.bslice 219 2 1 [(.int .i64 0),(.int .i64 0)] [(0,2,(.tmp 13))],none⟩,⟨(some 15),.append 2 16 219 [(.int .i64 0),(.int .i64 0)] (.tmp 12) (.tmp 14),none⟩,mv 3 15])))
 (.reg [bc 16 .add 8 1,mv 8 16])))
def A.b70:MCode:=.seq (.reg [⟨(some 2),.mov (.const .nilslice),none⟩])
 (.seq (.reg [⟨(some 3),.mov (.const .nilslice),none⟩])
 (.seq (.seq (.reg [mv 6 0,ln 7 6,mc 8 0])
 (.block 0 (.loop A.lb70_0)))
 (.seq (.reg [mv 17 3,mv 2 17])
 (.ret))))
theorem A.c70:cFunc Tryz.prog 70=some ⟨18,[.tmp 2],A.b70⟩:=by kernel_rfl
def A.k70{K Q f c args st}:=@A.kk 70 _ _ _ A.c70 rfl K Q f c args st
def A.lb69_0:MCode:=.seq (.seq (.reg [mv 11 5,mv 12 0,ln 13 12,bi 14 .lss 11 13])
 (.cond (.tmp 14)
 (.skip)
 (.exit 0)))
 (.seq (.block 1 (.seq (.regD [mv 17 0,mv 18 5,ia 19 2 17 18,⟨(some 20),.load (some 2) (.tmp 19),none⟩,mv 21 1,mv 22 5,ia 23 2 21 22,⟨(some 24),.load (some 2) (.tmp 23),none⟩,⟨(some 25),.bin .neq (.node [(0,none,(.prim .int)),(1,none,(.prim .int))]) false (.tmp 20) (.tmp 24),none⟩] [0,0,3,7,0,0,48,112,255])
 (.cond (.tmp 25)
 (.seq (.reg [⟨(some 4),.mov (.const (.bool false)),none⟩])
 (.ret))
 (.skip))))
 (.reg [mv 15 5,bc 16 .add 15 1,mv 5 16]))
def A.b69:MCode:=.seq (.reg [⟨(some 4),.mov (.const (.bool false)),none⟩])
 (.seq (.seq (.reg [mv 6 0,ln 7 6,mv 8 1,ln 9 8,⟨(some 10),.bin .neq (.prim .int) false (.tmp 7) (.tmp 9),none⟩])
 (.cond (.tmp 10)
 (.seq (.reg [⟨(some 4),.mov (.const (.bool false)),none⟩])
 (.ret))
 (.skip)))
 (.seq (.seq (.reg [mc 5 0])
 (.block 0 (.loop A.lb69_0)))
 (.seq (.reg [⟨(some 4),.mov (.const (.bool true)),none⟩])
 (.ret))))
theorem A.c69:cFunc Tryz.prog 69=some ⟨26,[.tmp 4],A.b69⟩:=by kernel_rfl
def A.k69{K Q f c args st}:=@A.kk 69 _ _ _ A.c69 rfl K Q f c args st
theorem delL_fn{h:T O}{N:Nat}{v:V}{l:List (List V)}{k:Nat}(s:Row 1 148 h v l)(hN:∀i∈rowV v,i<N)(hk:k<l.length)(hl:l.length<100000):FnD A.C (·∈rowV v) 72 [v,.int .i64 k,.int .i64 ((k:Int)+1)] h N (fun u h' n'=>n'=N∧rowV u=rowV v∧Row 1 148 h' u (l.take k++l.drop (k+1))):=by
 intro w
 obtain⟨v1,v2,v3,v4,h3,h4,w3,E⟩:=del_row (N:=N) (bytes:=8) (zero:=[.nilptr]) s (by decide) rfl hk (by omega)
 obtain⟨u0,ea⟩:=E.a []
 have eb:=E.b []
 have ec:=E.c []
 have ed:=E.d []
 have ef:=E.f (oldIds N w3)
 obtain⟨i,hi,eg⟩:=E.g (oldIds N w3)
 have hlen:=s.len
 have hlen3:=E.len
 have hne:¬(k:Int)=(k:Int)+1:=by omega
 simp only[List.append_nil]at ed
 rw[call_run,A.k72 (by simp)]
 simp(disch:=first|(simp;done)|omega|rfl) [-getElem?_pos, -oldIds,A.b72,hlen,hne,eqPrim,op_sliceSl_K,evOpt,ea,eb,ec,ed,hlen3,ef,op_clear_K,eg]
 refine retD_fin ?_ E.upd ⟨rfl,E.ids,E.row⟩
 intro j hj hN
 rcases List.mem_cons.1 hj with rfl|hj
 ·exact hi
 ·exact E.w _ (mem_old hj).1
theorem flat_del{ls:List Lr}{k:Nat}{l:Lr}(h:ls[k]?=some l):((ls.take k++ls.drop (k+1)).flatMap Lr.ids).Sublist (ls.flatMap Lr.ids):=by
 have e:ls.flatMap Lr.ids=(ls.take k).flatMap Lr.ids++(l.ids++(ls.drop (k+1)).flatMap Lr.ids):=by
  rw[←List.flatMap_cons,←get_drop_cons h,←List.flatMap_append,List.take_append_drop]
 rw[e,List.flatMap_append]
 exact(List.Sublist.refl _).append (List.sublist_append_right _ _)
theorem RI.delL{h h':T O}{N N':Nat}{S:RS}(I:RI h N S){k:Nat}{l:Lr}{u:V}(hk:S.ls[k]?=some l)(U:Upd (fun i=>i=S.R∨i∈rowV S.vl) h N h' N')(g:h'.get S.R=some (.cells [.int .i64 S.cap,.bool S.fz,S.vr,.int .i64 S.last,.int .i64 S.over,.int .i64 S.ref,u] 147 true))(row:Row 1 148 h' u ((S.ls.take k++S.ls.drop (k+1)).map ptC))(hid:rowV u=rowV S.vl):RI h' N' {S with vl:=u,ls:=S.ls.take k++S.ls.drop (k+1)}:=by
 have nd:=I.nd
 have hsub:(RS.ids {S with vl:=u,ls:=S.ls.take k++S.ls.drop (k+1)}).Sublist S.ids:=by
  simp only[RS.ids,hid]
  exact((List.Sublist.refl _).append ((List.Sublist.refl _).append (flat_del hk))).cons_cons _
 have hm:∀a∈S.ls.take k++S.ls.drop (k+1),a∈S.ls:=fun a ha=>by
  rcases List.mem_append.1 ha with ha|ha
  ·exact List.mem_of_mem_take ha
  ·exact List.mem_of_mem_drop ha
 have hvr:∀i∈rowV S.vr,i≠S.R∧i∉rowV S.vl:=by
  simp only[RS.ids,List.nodup_cons,List.nodup_append,List.mem_append,List.mem_cons,not_or]at nd
  grind
 have hnl:∀l∈S.ls,∀i∈l.ids,i≠S.R∧i∉rowV S.vl:=fun l hl i hi=>by
  have hi2:i∈S.ls.flatMap Lr.ids:=List.mem_flatMap.2 ⟨l,hl,hi⟩
  simp only[RS.ids,List.nodup_cons,List.nodup_append,List.mem_append,List.mem_cons,not_or]at nd
  grind
 refine⟨g,I.vr.eq fun i hi=>U.get i (I.lt i (RI.mr hi)) (by have:=hvr i hi;grind),row,fun a ha=>?_,nd.sublist hsub,fun i hi=>Nat.lt_of_lt_of_le (I.lt i (hsub.subset hi)) U.le,fun p hp=>⟨(I.sl p hp).1.moved U fun i hi hc=>?_,fun i hi hc=>(I.sl p hp).2 i hi (hsub.subset hc)⟩⟩
 ·have ha':=hm a ha
  obtain⟨m1,m2⟩:=RI.mL (S:=S) ha'
  exact⟨(U.get _ (I.lt _ m1) (by have:=hnl a ha' a.L (by simp[Lr.ids]);grind)).trans (I.l a ha').1,(U.get _ (I.lt _ m2) (by have:=hnl a ha' a.C (by simp[Lr.ids]);grind)).trans (I.l a ha').2⟩
 ·rcases hc with rfl|hc
  ·exact(I.sl p hp).2 _ hi RI.mR
  ·exact(I.sl p hp).2 i hi (RI.ml hc)
theorem unsub_ok{h:T O}{N:Nat}{S:RS}{j:Nat}{l:Lr}(I:RI h N S)(hj:S.ls[j]?=some l)(hl:S.ls.length<1000):FnD A.C (fun i=>i=S.R∨i∈rowV S.vl) 36 [.ptr S.R 0,.chan l.C] h N (fun v h' n'=>v=.int .i64 0∧∃u,rowV u=rowV S.vl∧RI h' n' {S with vl:=u,ls:=S.ls.take j++S.ls.drop (j+1)}):=by
 intro w
 have hm:=List.mem_of_getElem? hj
 obtain⟨m1,m2⟩:=RI.mL hm
 rw[call_run,A.k36 (by simp)]
 simp(disch:=first|(simp;done)|omega|rfl) [-getElem?_pos,A.b36]
 refine run_fn (at_fn I (.inr ⟨l.C,_,_,rfl,I.lt _ m2,(I.l l hm).2⟩) hl) ?_
 rintro _ h1 n1 k1 rfl
 have hat:=lsAt_of I hj
 have hz:¬(j:Int)<0:=by omega
 have I1:=I.keep k1.upd (D:=fun _=>False) (by simp) (by simp)
 have hr:=I1.r
 unfold RS.cells at hr
 have hlen:(S.ls.map ptC).length=S.ls.length:=by simp
 have hw:wrapF .i64 ((j:Int)+1)=(j:Int)+1:=by have:=lt_of_get hj;exact wrapF_i64 (by omega) (by omega)
 have hd:=delL_fn (k:=j) I1.vl (fun i hi=>I1.lt i (RI.ml hi)) (by rw[hlen];exact lt_of_get hj) (by rw[hlen];omega)
 simp(disch:=first|(simp;done)|omega|rfl) [-getElem?_pos, -oldIds,hat,hz,eqPrim,hr,partV,hw]
 refine run_fnD hd ?_
 rintro u h2 n2 w2 hw2 U2 ⟨rfl,hid,row⟩
 have nR:=(RI.nR I1).2.1
 have b3:=row.one
 unfold V.one at b3
 unfold V.cells at b3
 have gR:=(U2.get S.R (I1.lt _ RI.mR) nR).trans hr
 have r1:=I1.vr.one
 unfold V.one at r1
 have UU:Upd (fun i=>i=S.R∨i∈rowV S.vl) h1 n2 (h2.set S.R (.cells [.int .i64 S.cap,.bool S.fz,S.vr,.int .i64 S.last,.int .i64 S.over,.int .i64 S.ref,u] 147 true)) n2:=(U2.mono fun i _ hi=>.inr hi).set (.inl (.inl rfl))
 have hnu:S.R∉rowV u:=by rw[hid];exact nR
 have I3:=I1.delL (S:=S) hj UU (by rw[T.get_set,if_pos rfl]) (by
  have:=row.eq (h':=h2.set S.R (.cells [.int .i64 S.cap,.bool S.fz,S.vr,.int .i64 S.last,.int .i64 S.over,.int .i64 S.ref,u] 147 true)) (fun i hi=>by rw[T.get_set,if_neg];rintro rfl;exact hnu hi)
  rw[List.map_append,List.map_take,List.map_drop];exact this) hid
 simp(disch:=first|(simp;done)|omega|rfl) [-getElem?_pos, -oldIds,gR,storeK2,b3,r1,splice]
 refine retD_fin ?_ ?_ ⟨rfl,u,hid,I3⟩
 ·intro i hi hn
  simp only[List.mem_cons]at hi
  rcases hi with rfl|hi
  ·exact .inl rfl
  ·rcases hw2 i hi with hi|hi
   ·simp at hi
   ·exact .inr hi
 ·exact k1.upd.trans UU
theorem unsub_none{h:T O}{N:Nat}{S:RS}{u:V}(I:RI h N S)(hu:ChOk h N u)(ha:lsAt S.ls u<0)(hl:S.ls.length<1000):Fn A.C 36 [.ptr S.R 0,u] h N (fun v h' n'=>v=.int .i64 10):=by
 intro w
 rw[call_run,A.k36 (by simp)]
 simp(disch:=first|(simp;done)|omega|rfl) [-getElem?_pos,A.b36]
 refine run_fn (at_fn I hu hl) ?_
 rintro _ h1 n1 k1 rfl
 simp(disch:=first|(simp;done)|omega|rfl) [-getElem?_pos, -oldIds,ha,eqPrim,Ret]
 exact k1
theorem drain_none{h:T O}{N:Nat}{S:RS}{u:V}(I:RI h N S)(hu:ChOk h N u)(ha:lsAt S.ls u<0)(hl:S.ls.length<1000):Fn A.C 29 [.ptr S.R 0,u] h N (fun v h' n'=>v=.tup [.nilslice,.int .i64 0,.int .i64 10]):=by
 intro w
 rw[call_run,A.k29 (by simp)]
 simp(disch:=first|(simp;done)|omega|rfl) [-getElem?_pos,A.b29]
 refine run_fn (at_fn I hu hl) ?_
 rintro _ h1 n1 k1 rfl
 simp(disch:=first|(simp;done)|omega|rfl) [-getElem?_pos, -oldIds,ha,eqPrim,Ret]
 exact k1
theorem lsAt_nil(ls:List Lr):lsAt ls .nilchan= -1:=by
 unfold lsAt
 have:∀m k,firstP (fun j=>match ls[j]? with|some l=>isC .nilchan l.C|none=>false) k m= -1:=by
  intro m
  induction m with
  |zero=>intro k;rfl
  |succ m ih=>
   intro k
   simp only[firstP]
   rw[if_neg (by split<;>simp[isC]),ih]
 exact this _ _
theorem notices_fn{h:T O}{N:Nat}{v:V}{l:List (Int×Int)}(hs:Sn 2 h N v (l.map ncC))(hl:l.length<1000):Fn A.C 70 [v] h N (fun u h' n'=>Sn 2 h' n' u (l.map ncC)):=by
 intro w
 have hlen:=hs.len
 rw[List.length_map]at hlen
 rw[call_run,A.k70 (by simp)]
 simp(disch:=first|(simp;done)|omega|rfl) [-getElem?_pos,A.b70,hlen]
 refine run_loopD [(3,3),(5,5),(8,16)] (fun e r st=>e=.exit 0∧oldIds N st.w=[]∧Keeps h N st.h st.n∧∃u,r.get 3=some u∧Own 2 219 N st.h st.n u (l.map ncC)) (fun m r st=>oldIds N st.w=[]∧Keeps h N st.h st.n∧∃k u,k+m=l.length∧r.get 8=some (.int .i64 k)∧r.get 3=some u∧Own 2 219 N st.h st.n u ((l.take k).map ncC)) l.length ?_ ?_ ?_
 ·exact⟨by simp,Keeps.refl,0,.nilslice,by omega,by simp,by simp,by simpa using Own.nil⟩
 ·rintro m r ⟨H,n1,W⟩ hr hf ⟨hW,hK,k,u,hk,h8,h3,ho⟩
  simp only at hW hK ho
  rw[code_run]
  cases m with
  |zero=>
   obtain rfl:k=l.length:=by omega
   rw[List.take_length]at ho
   simp(disch:=first|(simp;done)|omega|rfl) [-getElem?_pos,A.lb70_0,hr,hf,h8,hW,hK]
   exact⟨u,h3,ho⟩
  |succ m=>
   have hlt:k<l.length:=by omega
   obtain⟨p,hp⟩:=get_of_lt hlt
   obtain⟨i,o,cc,e,rw,q1,q2,q3,q4⟩:=(hs.keep hK).at (j:=k) (x:=ncC p) (by rw[List.getElem?_map,hp];rfl)
   have p1:=partV_slc q4
   unfold ncC at p1
   have hk1:(k:Int)<(l.length:Int):=by omega
   have kn:=hK.le
   simp(disch:=first|(simp;done)|omega|rfl) [-getElem?_pos, -partV,A.lb70_0,hr,hf,h8,h3,hk1,hlt,hlen,q1,q3,p1,splice,storeK2]
   simp(disch:=first|(simp;done)|omega|rfl) [-getElem?_pos,hr,hf,partV,slc,splice]
   generalize hH:((H.set n1 (.cells [.int .i64 0,.int .i64 0] 85 true)).set n1 (.cells [.int .i64 p.1,.int .i64 p.2] 85 true)).set (n1+1) (.cells [.int .i64 p.1,.int .i64 p.2] 219 true)=H2
   have k2:Keeps H n1 H2 (n1+1+1):=by rw[←hH];exact((Keeps.refl.new _).set (Nat.le_refl _)).new _
   have g2:H2.get (n1+1)=some (.cells [.int .i64 p.1,.int .i64 p.2] 219 true):=by rw[←hH];simp
   obtain⟨v',h',w',f1,f2,f3,f4,f5⟩:=append_own (x:=ncC p) (u:=.slice (n1+1) 0 1 (some 1) 2) (bytes:=16) (w:=n1::W) (ho.keep k2) (by omega) (by decide) rfl (by simp[srcCells,St.row,g2,slc,ncC]) (by simp;omega)
   have wok:¬n1<N:=by omega
   have f6:oldIds N w'=[]:=by rw[f2];simp[oldIds,hW,wok]
   have kz:=(hK.trans k2).then f3
   have f7:(l.take k).map ncC++[ncC p]=(l.take (k+1)).map ncC:=by rw[List.take_add_one,hp];simp
   rw[f7]at f5
   simp(disch:=first|(simp;done)|omega|rfl) [-getElem?_pos,hr,hf,h8,f1,f6]
   exact⟨m,by omega,kz,k+1,by omega,by simp,by rw[←List.map_take];exact f5⟩
 ·rintro _ r ⟨H,n1,W⟩ hr ⟨rfl,hW,hK,u,h3,ho⟩
  simp only at hW hK ho
  simp(disch:=first|(simp;done)|omega|rfl) [-getElem?_pos,hr,h3,Ret,hW,hK]
  exact ho.sn
theorem snotes_eq{h:T O}{N:Nat}{u v:V}{l:List (Int×Int)}{w:List Nat}(hu:Sn 2 h N u (l.map ncC))(hv:Sn 2 h N v (l.map ncC))(hl:l.length<1000):A.C.call (.func 69 [] []) [u,v] ⟨h,N,w⟩=some (.bool true,⟨h,N,w⟩):=by
 apply Call.eq
 have l1:=hu.len
 have l2:=hv.len
 rw[List.length_map]at l1 l2
 rw[call_run,A.k69 (by simp)]
 simp(disch:=first|(simp;done)|omega|rfl) [-getElem?_pos,A.b69,l1,l2,eqPrim]
 refine run_loopD [(4,5),(11,25)] (fun e r st=>st=⟨h,N,[]⟩∧e=.exit 0) (fun m r st=>st=⟨h,N,[]⟩∧∃k,k+m=l.length∧r.get 5=some (.int .i64 k)) l.length ?_ ?_ ?_
 ·exact⟨rfl,0,by omega,by simp⟩
 ·rintro m r _ hr hf ⟨rfl,k,hk,h5⟩
  rw[code_run]
  cases m with
  |zero=>
   obtain rfl:k=l.length:=by omega
   simp(disch:=first|(simp;done)|omega|rfl) [-getElem?_pos,A.lb69_0,hr,hf,h5,l1]
  |succ m=>
   have hlt:k<l.length:=by omega
   obtain⟨p,hp⟩:=get_of_lt hlt
   obtain⟨i,o,c,e,rw,q1,q2,q3,q4⟩:=hu.at (j:=k) (x:=ncC p) (by rw[List.getElem?_map,hp];rfl)
   obtain⟨i',o',c',e',rw',p1,p2,p3,p4⟩:=hv.at (j:=k) (x:=ncC p) (by rw[List.getElem?_map,hp];rfl)
   unfold ncC at q4 p4
   have hk1:(k:Int)<(l.length:Int):=by omega
   simp(disch:=first|(simp;done)|omega|rfl) [-getElem?_pos,A.lb69_0,hr,hf,h5,l1,l2,hk1,hlt,q1,q2,q3,q4,p1,p2,p3,p4,partV,eqV,eqParts,eqPrim]
   exact⟨m,by omega,k+1,by omega,by simp⟩
 ·rintro _ r _ hr ⟨rfl,rfl⟩
  simp(disch:=first|(simp;done)|omega|rfl) [-getElem?_pos,hr]
end Go.Mx
namespace Go.Mx
open Go Go.Proofs
set_option maxRecDepth 1000000
theorem nil_lost{h:T O}{N:Nat}{w:List Nat}:A.C.call (.func 30 [] []) [.nilptr] ⟨h,N,w⟩=some (.tup [.int .i64 0,.int .i64 0],⟨h,N,w⟩):=by
 apply Call.eq
 rw[call_run,A.k30 (by simp)]
 simp(disch:=first|(simp;done)|omega|rfl) [-getElem?_pos,A.b30,eqPrim]
theorem nil_records{h:T O}{N:Nat}{w:List Nat}:A.C.call (.func 33 [] []) [.nilptr] ⟨h,N,w⟩=some (.nilslice,⟨h,N,w⟩):=by
 apply Call.eq
 rw[call_run,A.k33 (by simp)]
 simp(disch:=first|(simp;done)|omega|rfl) [-getElem?_pos,A.b33,eqPrim]
theorem nil_freeze{h:T O}{N:Nat}{w:List Nat}{b:Bool}:A.C.call (.func 27 [] []) [.nilptr,.bool b] ⟨h,N,w⟩=some (.int .i64 19,⟨h,N,w⟩):=by
 apply Call.eq
 rw[call_run,A.k27 (by simp)]
 simp(disch:=first|(simp;done)|omega|rfl) [-getElem?_pos,A.b27,eqPrim]
theorem nil_sub{h:T O}{N:Nat}{w:List Nat}{c:Int}:A.C.call (.func 25 [] []) [.nilptr,.int .i64 c] ⟨h,N,w⟩=some (.tup [.nilchan,.int .i64 19],⟨h,N,w⟩):=by
 apply Call.eq
 rw[call_run,A.k25 (by simp)]
 simp(disch:=first|(simp;done)|omega|rfl) [-getElem?_pos,A.b25,eqPrim]
theorem nil_at{h:T O}{N:Nat}{u:V}(ho:V.one u=true)(hc:V.cells u=[u]):Fn A.C 63 [.nilptr,u] h N (fun v _ _=>v=.tup [.int .i64 0,.int .i64 19]):=by
 intro w
 unfold V.one at ho
 unfold V.cells at hc
 rw[call_run,A.k63 (by simp)]
 simp(disch:=first|(simp;done)|omega|rfl) [-getElem?_pos,A.b63,eqPrim,ho,hc,Ret]
 exact Keeps.refl.new _
theorem nil_drain{h:T O}{N:Nat}:Fn A.C 29 [.nilptr,.nilchan] h N (fun v _ _=>v=.tup [.nilslice,.int .i64 0,.int .i64 19]):=by
 intro w
 rw[call_run,A.k29 (by simp)]
 simp(disch:=first|(simp;done)|omega|rfl) [-getElem?_pos,A.b29]
 refine run_fn (nil_at rfl rfl) ?_
 rintro _ h1 n1 k1 rfl
 simp(disch:=first|(simp;done)|omega|rfl) [-getElem?_pos, -oldIds,eqPrim,Ret]
 exact k1
theorem nil_unsub{h:T O}{N:Nat}:Fn A.C 36 [.nilptr,.nilchan] h N (fun v _ _=>v=.int .i64 19):=by
 intro w
 rw[call_run,A.k36 (by simp)]
 simp(disch:=first|(simp;done)|omega|rfl) [-getElem?_pos,A.b36]
 refine run_fn (nil_at rfl rfl) ?_
 rintro _ h1 n1 k1 rfl
 simp(disch:=first|(simp;done)|omega|rfl) [-getElem?_pos, -oldIds,eqPrim,Ret]
 exact k1
theorem nil_put{h:T O}{N:Nat}{f t:Int}{u:V}(ho:V.one u=true)(hc:V.cells u=[u]):Fn A.C 28 [.nilptr,.agg [.int .i64 f,.int .i64 t,u]] h N (fun v _ _=>v=.int .i64 19):=by
 intro w
 unfold V.one at ho
 unfold V.cells at hc
 rw[call_run,A.k28 (by simp)]
 simp(disch:=first|(simp;done)|omega|rfl) [-getElem?_pos,A.b28,eqPrim,ho,hc,splice,Ret]
 exact Keeps.refl.new _
end Go.Mx
