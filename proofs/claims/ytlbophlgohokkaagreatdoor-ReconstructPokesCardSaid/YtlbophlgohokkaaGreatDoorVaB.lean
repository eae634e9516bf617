/-
  lensletref05: Turned, Weighted.
-/
import Derived.Test.YtlbophlgohokkaaGreatDoorNdC
import Derived.Test.YtlbophlgohokkaaGreatDoorMxRg
set_option linter.all false
namespace Go.Mx
open Go Go.Proofs
variable {N n:Nat} {h h':T O} {l:List Rat} {m:List (List Rat)} {u v:V} {w:List Nat}
set_option maxHeartbeats 1000000
set_option maxRecDepth 1000000
def A.tn:aq:=.seq (sr [mv 20 6,mv 21 0,ln 22 21,bi 23 .lss 20 22]
 (cd 23
 (.skip)
 (.exit 2)))
 (.seq (.block 3 (.aM [mv 26 5,mv 27 0,mv 28 6,ia 29 1 27 28,ld 30 29,mv 31 4,ia 32 1 30 31,ld 33 32,⟨(some 34),.aO 36 1 1 [(.str [])] [(0,1,(.tmp 33))],none⟩,⟨(some 35),.append 1 16 36 [(.str [])] (.tmp 26) (.tmp 34),none⟩,mv 5 35]))
 (.aM [mv 24 6,bc 25 .add 24 1,mv 6 25]))
def A.tq:aq:=.seq (sr [mv 7 0,ln 8 7,bc 9 .gtr 8 0,mv 10 9,mg 11 4 10,mg 12 0 10,⟨(some 13),.aN 1 (.tmp 12) (.const (.int .i64 0)),(some (10,true))⟩,⟨(some 14),.load none (.tmp 13),(some (10,true))⟩,⟨(some 15),.len 1 (.tmp 14),(some (10,true))⟩,⟨(some 16),.bin .lss (.node []) false (.tmp 11) (.tmp 15),(some (10,true))⟩,pf 17 10 16]
 (cd 17
 (.skip)
 (.exit 0)))
 (.seq (.block 1 (sr [mN 5]
 (.seq (sr [mc 6 0]
 (.block 2 (.loop A.tn)))
 (.aM [mv 36 3,mv 37 5,⟨(some 38),.aO 23 1 1 [.aa] [(0,1,(.tmp 37))],none⟩,⟨(some 39),.append 1 24 23 [.aa] (.tmp 36) (.tmp 38),none⟩,mv 3 39]))))
 (.aM [mv 18 4,bc 19 .add 18 1,mv 4 19]))
def A.b19:aq:=sr [mN 2]
 (sr [mN 3]
 (.seq (sr [mc 4 0]
 (.block 0 (.loop A.tq)))
 (sr [mv 40 3,mv 2 40]
 (.ret))))
theorem A.c19:A.F 19=some ⟨41,[.tmp 2],A.b19⟩:=by kernel_rfl
def A.k19:=@A.kk 19 _ _ _ A.c19 rfl
def pW(h:T O)(N:Nat)(u:V)(l:List Rat):Prop:=Tx h N u l/\∀i∈cA u,∃z w,h.get i=some (.cells z 36 w)
theorem Lv{l:List V}(s:Sl h N v l):∀i∈cA v,i<N:=fun i hi=>by
 rcases s with⟨_,rfl|rfl⟩|⟨j,o,cp,c,e,rw,rfl,hj,_⟩
 ·simp[cA]at hi
 ·simp[cA]at hi
 ·simp[cA]at hi;omega
theorem pW.ae{N':Nat}(s:pW h N u l)(k:ab h N h' N'):pW h' N' u l:=⟨s.1.ae k,fun i hi=>by rw[k.get i (Lv s.1 i hi)];exact s.2 i hi⟩
theorem pW.bY{n':Nat}{Y:V->Prop}{e:TypeId}(s:pW h n u l)(k:ff (fun i=>i∈cA v) h n h' n')(hd:nz e Y h v)(he:e≠36):pW h' n' u l:=by
 have hn:∀i∈cA u,i∉cA v:=fun i hi hc=>by
  obtain⟨z,w,hz⟩:=s.2 i hi
  obtain⟨z2,cX,_⟩:=hd i hc
  rw[hz]at cX
  simp at cX
  exact he cX.2.1.symm
 exact⟨Sl.bY s.1 k hn,fun i hi=>by rw[k.get i (Lv s.1 i hi) (hn i hi)];exact s.2 i hi⟩
theorem EX{N0:Nat}(s:Own 1 36 N0 h N v ((tx l).map fun y=>[y])):pW h N v l:=by
 refine⟨Sn.one.1 s.sn,fun i hi=>?_⟩
 obtain⟨_,⟨_,rfl⟩|⟨j,rfl,_,_,hg⟩⟩:=s
 ·simp[cA]at hi
 ·simp[cA]at hi;subst hi;exact⟨_,_,hg⟩
def jA(N0:Nat)(h:T O)(N:Nat)(v:V)(m:List (List Rat)):Prop:=∃us:List V,Own 1 23 N0 h N v (us.map fun y=>[y])/\(us=[]->v=.aa)/\us.length=m.length/\∀(j:Nat) (l:List Rat),m[j]?=some l->∃u,us[j]?=some u/\pW h N u l
theorem jA.nil{N0:Nat}:jA N0 h N .aa []:=⟨[],Own.nil,fun _=>rfl,rfl,fun j l hl=>by simp at hl⟩
theorem jA.ae{N0:Nat}{N':Nat}(s:jA N0 h N v m)(k:ab h N h' N'):jA N0 h' N' v m:=by
 obtain⟨us,h1,h2,h3,h4⟩:=s
 refine⟨us,h1.ae k,h2,h3,fun j l hl=>?_⟩
 obtain⟨u,g1,g2⟩:=h4 j l hl
 exact⟨u,g1,g2.ae k⟩
theorem jA.zv{N0:Nat}(s:jA N0 h N v m):mJ h N v m:=by
 obtain⟨us,h1,h2,h3,h4⟩:=s
 refine⟨us,Sn.one.1 h1.sn,h3,fun j l hl=>?_⟩
 obtain⟨u,g1,g2⟩:=h4 j l hl
 exact⟨u,g1,g2.1⟩
theorem jA.push{N0:Nat}{x:V}(s:jA N0 h N v m)(hu:pW h N u l)(hN:N0<=N)(hx:eC ⟨h,N,w⟩ 1 x=some (1,[u]))(hm:m.length<100000):
  ∃v' h' w',jQ ⟨h,N,w⟩ 1 24 23 v x=some (v',⟨h',N+1,w'⟩)/\ad N0 w'=ad N0 w/\ab h N0 h' (N+1)/\jA N0 h' (N+1) v' (m++[l]):=by
 obtain⟨us,h1,h2,h3,h4⟩:=s
 obtain⟨v',h',w',f1,f2,f3,f4,fD,f5⟩:=zy (Y:=fun _=>True) (x:=[u]) (u:=x) (bytes:=24) (w:=w) h1 (fun h0=>h2 (List.map_eq_nil_iff.1 h0)) (fun _ _ _ _=>trivial) hN (by decide) rfl hx (by rw[oa];omega)
 refine⟨v',h',w',f1,f2,f3,us++[u],by simpa using f5,by simp,by simp[h3],fun j r hr=>?_⟩
 by_cases hj:j<m.length
 ·rw[lX hj]at hr
  obtain⟨u',g1,g2⟩:=h4 j r hr
  exact⟨u',by rw[lX (by omega)];exact g1,g2.bY f4 fD (by simp)⟩
 ·rw[pX (by omega)]at hr
  cases hd:j-m.length with
  |zero=>
   rw[hd]at hr
   simp at hr
   subst hr
   exact⟨u,by rw[pX (by omega),h3,hd];rfl,hu.bY f4 fD (by simp)⟩
  |succ d=>rw[hd]at hr;simp at hr
theorem ON{N i:Nat}:∀{w:List Nat},i∈w->i<N->i∈ad N w
 |[],h,_=>by simp at h
 |j::w,h,hi=>by
  simp only[ad]
  rcases kb.1 h with rfl|h
  ·rw[aF hi]
   unfold uZ
   split
   ·rename_i hc;simpa using hc
   ·exact jk
  ·have:=ON h hi
   split
   ·unfold uZ
    split
    ·exact this
    ·exact iz _ this
   ·exact this
theorem Ww{n1:Nat}{w':List Nat}(h:ad n1 w'=ad n1 w)(hN:N<=n1)(hw:ad N w=[]):ad N w'=[]:=by
 apply List.eq_nil_iff_forall_not_mem.2
 intro i hi
 obtain⟨h1,h2⟩:=B0 hi
 have h3:=ON h1 (show i<n1 by omega)
 rw[h]at h3
 have h4:=ON (B0 h3).1 h2
 rw[hw]at h4
 simp at h4
theorem ET(h:ad N w=[]):∀i∈w,N<=i:=fun i hi=>by
 apply vN
 intro hc
 have:=ON hi hc
 rw[h]at this
 simp at this
theorem Yki{a b:List Nat}(ha:ad N a=[])(hb:ad N b=[]):ad N (ad n a++b)=[]:=B1 fun i hi=>by
 rcases oF.1 hi with hi|hi
 ·exact ET ha i (B0 hi).1
 ·exact ET hb i hi
def sX(m:List (List Rat))(k:Nat):List Rat:=m.map fun r=>r[k]?.getD 0
def qo(m:List (List Rat))(n:Nat):List (List Rat):=(List.range n).map fun k=>sX m k
theorem Yhb{k t:Nat}{r:List Rat}{q:Rat}(h:m[t]?=some r)(hq:r[k]?=some q):sX (m.take (t+1)) k=sX (m.take t) k++[q]:=by
 unfold sX
 rw[pV,h]
 simp[hq]
theorem Ye7(hu:mJ h N u m)(hm:∀r∈m,r.length=n)(vo:m.length<1000)(hn:n<1000)(h0:0<m.length):Fn A.C 19 [u] h N (fun x h' n'=>jA N h' n' x (qo m n)):=by
 intro w
 have l1:=hu.len
 obtain⟨r0,ef⟩:=bV h0
 have V4:=hm r0 (du ef)
 have qW:(0:Int)<(m.length:Int):=by omega
 rw[aR,A.k19 (by simp)]
 simp[A.b19]
 refine bQ [(3,39)] (fun e r st=>e=.exit 0/\ad N st.w=[]/\ab h N st.h st.n/\∃x,r.get 3=some x/\jA N st.h st.n x (qo m n)) (fun i r st=>ad N st.w=[]/\ab h N st.h st.n/\∃k x,k+i=n/\r.get 4=some (.int .i64 k)/\r.get 3=some x/\jA N st.h st.n x (qo m k)) n ?_ ?_ ?_
 ·exact⟨by simp,ab.refl,0,.aa,by omega,by simp,by simp,jA.nil⟩
 ·rintro i r ⟨H,n1,W⟩ hr hf ⟨hW,hK,k,x,hk,h4,h3,ho⟩
  simp only at hW hK ho
  obtain⟨i0,o0,c0,e0,Nd,u0,z1,z2,z3,z4,z5⟩:=(hu.ae hK).at ef
  have z6:=z5.len
  rw[V4]at z6
  rw[re]at z4
  rw[bA]
  cases i with
  |zero=>
   obtain rfl:k=n:=by omega
   simp[A.tq,hr,hf,h4,h3,l1,h0,z1,z3,z4,z6,hW,hK]
   exact ho
  |succ i=>
   have aD:k<n:=by omega
   have bm:(k:Int)<(n:Int):=by omega
   simp[A.tq,hr,h4,l1,h0,z1,z3,z4,z6,bm]
   refine bQ [(5,6),(20,35)] (fun e r1 st=>e=.exit 2/\ad N st.w=[]/\ab H n1 st.h st.n/\∃y,r1.get 5=some y/\pW st.h st.n y (sX m k)) (fun j r1 st=>ad N st.w=[]/\ab H n1 st.h st.n/\∃t y,t+j=m.length/\r1.get 6=some (.int .i64 t)/\r1.get 5=some y/\Own 1 36 n1 st.h st.n y ((tx (sX (m.take t) k)).map fun y=>[y])) m.length ?_ ?_ ?_
   ·exact⟨hW,ab.refl,0,.aa,by omega,by simp,by simp,by simpa[sX,tx,strs]using Own.nil⟩
   ·rintro j r1 ⟨H2,n2,W2⟩ jj nK ⟨eE,fu,t,y,ht,h6,h5,hy⟩
    simp only at eE fu hy
    rw[bA]
    cases j with
    |zero=>
     obtain rfl:t=m.length:=by omega
     rw[vK]at hy
     simp[A.tn,hr,jj,nK,h6,h5,l1,eE,fu]
     exact EX hy
    |succ j=>
     have dr:t<m.length:=by omega
     have Lf:(t:Int)<(m.length:Int):=by omega
     obtain⟨row,ar⟩:=bV dr
     have hrn:=hm row (du ar)
     obtain⟨q,hq⟩:=bV (l:=row) (k:=k) (by omega)
     obtain⟨i1,o1,c1,e1,rw1,u1,q1,q2,q3,q4,q5⟩:=((hu.ae hK).ae fu).at ar
     have q6:=q5.len
     rw[hrn]at q6
     obtain⟨i3,o3,c3,e3,rw3,p1,p2,p3,p4⟩:=Sl.at q5 (CJ hq)
     have eX:=hK.le
     have V5:=fu.le
     obtain⟨v',h',w',f1,f2,f3,_,f5⟩:=pU (x:=[.str (aW q)]) (u:=.slice n2 0 1 (some 1) 1) (bytes:=16) (w:=W2) (hy.ae (ab.refl.new (.cells [.str (aW q)] 36 true))) (by omega) (by decide) rfl (by simp[eC,St.row,aJ]) (by simp[wJ,sX];omega)
     have e7:((tx (sX (m.take t) k)).map fun y=>[y])++[[.str (aW q)]]=(tx (sX (m.take (t+1)) k)).map fun y=>[y]:=by rw[Yhb ar hq];simp[tx,strs]
     rw[e7]at f5
     simp(disch:=first|(simp;done)|omega|rfl) [A.tn,hr,jj,nK,h4,h6,h5,l1,Lf,q1,q3,q4,q6,p1,p3,p4,ag,f1]
     have ow:ad N w'=[]:=Ww f2 (by omega) eE
     exact⟨j,by omega,ow,(fu.trans (ab.refl.new (.cells [.str (aW q)] 36 true))).then f3,t+1,by omega,by simp,f5⟩
   ·rintro _ r1 ⟨H2,n2,W2⟩ jj ⟨rfl,eE,fu,y,h5,hy⟩
    simp only at eE fu hy
    have eX:=hK.le
    have V5:=fu.le
    have q_:=(Sl.form hy.1).one
    have B2:=(Sl.form hy.1).cells
    unfold V.one at q_
    unfold V.cells at B2
    obtain⟨v',h',w',f1,f2,f3,f4⟩:=((ho.ae fu).ae (ab.refl.new (.cells [y] 23 true))).push (w:=W2) (x:=.slice n2 0 1 (some 1) 1) (hy.ae (ab.refl.new (.cells [y] 23 true))) (by omega) (by simp[eC,St.row,aJ]) (by simp[qo];omega)
    have e8:qo m k++[sX m k]=qo m (k+1):=by simp[qo,List.range_succ]
    rw[e8]at f4
    have zq:=hf.inner (D':=[(5,6),(20,35)]) rfl (by simp) jj
    simp(disch:=first|(simp;done)|omega|rfl) [jj,zq,h4,h3,h5,q_,B2,ag,f1]
    exact⟨i,by omega,by rw[f2];exact eE,(((hK.trans fu).trans (ab.refl.new (.cells [y] 23 true)))).then f3,k+1,by omega,by simp,f4⟩
 ·rintro _ r ⟨H,n1,W⟩ hr ⟨rfl,hW,hK,x,h3,ho⟩
  simp only at hW hK ho
  simp[h3,aA,hW,hK]
  exact ho
variable {N:Nat} {h:T O} {m:List (List a_)} {v:V}
def A.mI:aq:=.seq (sr [mv 20 5,mv 21 0,ln 22 21,bi 23 .lss 20 22]
 (cd 23
 (.skip)
 (.exit 0)))
 (.seq (.block 1 (sr [mv 26 0,mv 27 5,ia 28 1 26 27,ld 29 28,⟨(some 30),.len 0 (.tmp 29),none⟩,bc 31 .gtr 30 24]
 (cd 31
 (sr [⟨(some 4),.aY (.const (.bool false)),none⟩]
 (.ret))
 (.skip))))
 (.aM [mv 24 5,bc 25 .add 24 1,mv 5 25]))
def A.b9:aq:=sr [⟨(some 4),.aY (.const (.bool false)),none⟩]
 (.seq (sr [mv 6 0,ln 7 6,mv 8 1,bi 9 .gtr 7 8,mv 10 9,mg 11 0 10,⟨(some 12),.len 1 (.tmp 11),(some (10,true))⟩,⟨(some 13),.bin .leq (.node []) false (.tmp 12) (.const (.int .i64 64)),(some (10,true))⟩,pf 14 10 13,mv 15 14,mh 16 0 15,⟨(some 17),.len 1 (.tmp 16),(some (15,false))⟩,⟨(some 18),.bin .gtr (.node []) false (.tmp 17) (.const (.int .i64 66)),(some (15,false))⟩,pt 19 15 18]
 (cd 19
 (sr [⟨(some 4),.aY (.const (.bool false)),none⟩]
 (.ret))
 (.skip)))
 (.seq (sr [mc 5 0]
 (.block 0 (.loop A.mI)))
 (sr [⟨(some 4),.aY (.const (.bool true)),none⟩]
 (.ret))))
theorem A.c9:A.F 9=some ⟨32,[.tmp 4],A.b9⟩:=by kernel_rfl
def A.k9:=@A.kk 9 _ _ _ A.c9 rfl
def A.Lg:aq:=.seq (sr [mv 22 7,mv 23 0,ln 24 23,bi 25 .lss 22 24]
 (cd 25
 (.skip)
 (.exit 0)))
 (.seq (.block 1 (sr [mv 28 0,mv 29 7,ia 30 1 28 29,ld 31 30,mv 32 2,c2 33 9 31 32,⟨(some 34),.un .not (.tmp 33),none⟩]
 (cd 34
 (sr [⟨(some 6),.aY (.const (.bool false)),none⟩]
 (.ret))
 (.skip))))
 (.aM [mv 26 7,bc 27 .add 26 1,mv 7 27]))
def A.b8:aq:=sr [⟨(some 6),.aY (.const (.bool false)),none⟩]
 (.seq (sr [mv 8 0,ln 9 8,mv 10 1,bi 11 .gtr 9 10,mv 12 11,mg 13 0 12,⟨(some 14),.len 1 (.tmp 13),(some (12,true))⟩,⟨(some 15),.bin .leq (.node []) false (.tmp 14) (.const (.int .i64 64)),(some (12,true))⟩,pf 16 12 15,mv 17 16,mh 18 0 17,⟨(some 19),.len 1 (.tmp 18),(some (17,false))⟩,⟨(some 20),.bin .gtr (.node []) false (.tmp 19) (.const (.int .i64 66)),(some (17,false))⟩,pt 21 17 20]
 (cd 21
 (sr [⟨(some 6),.aY (.const (.bool false)),none⟩]
 (.ret))
 (.skip)))
 (.seq (sr [mc 7 0]
 (.block 0 (.loop A.Lg)))
 (sr [⟨(some 6),.aY (.const (.bool true)),none⟩]
 (.ret))))
theorem A.c8:A.F 8=some ⟨35,[.tmp 6],A.b8⟩:=by kernel_rfl
def A.k8:=@A.kk 8 _ _ _ A.c8 rfl
def A.tr:aq:=.seq (sr [mv 11 5,mv 12 0,ln 13 12,bi 14 .lss 11 13]
 (cd 14
 (.skip)
 (.exit 0)))
 (.seq (.block 1 (.seq (.aV [mv 17 0,mv 18 5,ia 19 1 17 18,ld 20 19,mv 21 1,mv 22 5,ia 23 1 21 22,ld 24 23,⟨(some 25),.bin .neq (.aI .str) false (.tmp 20) (.tmp 24),none⟩] [0,0,3,7,0,0,48,112,255])
 (cd 25
 (sr [⟨(some 4),.aY (.const (.bool false)),none⟩]
 (.ret))
 (.skip))))
 (.aM [mv 15 5,bc 16 .add 15 1,mv 5 16]))
def A.b60:aq:=sr [⟨(some 4),.aY (.const (.bool false)),none⟩]
 (.seq (sr [mv 6 0,ln 7 6,mv 8 1,ln 9 8,⟨(some 10),.bin .neq (.aI .int) false (.tmp 7) (.tmp 9),none⟩]
 (cd 10
 (sr [⟨(some 4),.aY (.const (.bool false)),none⟩]
 (.ret))
 (.skip)))
 (.seq (sr [mc 5 0]
 (.block 0 (.loop A.tr)))
 (sr [⟨(some 4),.aY (.const (.bool true)),none⟩]
 (.ret))))
theorem A.c60:A.F 60=some ⟨26,[.tmp 4],A.b60⟩:=by kernel_rfl
def A.k60:=@A.kk 60 _ _ _ A.c60 rfl
theorem Wx{u:V}{l:List a_}{w:List Nat}(hu:Sl h N u (strs l))(hv:Sl h N v (strs l))(hl:l.length<100000):A.C.call (.func 60 [] []) [u,v] ⟨h,N,w⟩=some (.bool true,⟨h,N,w⟩):=by
 apply Call.eq
 have l1:=hu.len
 have l2:=hv.len
 rw[yY]at l1 l2
 rw[aR,A.k60 (by simp)]
 simp[A.b60,l1,l2]
 refine bQ [(4,5),(11,25)] (fun e r st=>st=⟨h,N,[]⟩/\e=.exit 0) (fun m r st=>st=⟨h,N,[]⟩/\∃k,k+m=l.length/\r.get 5=some (.int .i64 k)) l.length ?_ ?_ ?_
 ·exact⟨rfl,0,by omega,by simp⟩
 ·rintro m r _ hr hf ⟨rfl,k,hk,h5⟩
  rw[bA]
  cases m with
  |zero=>
   obtain rfl:k=l.length:=by omega
   simp[A.tr,hr,hf,h5,l1]
  |succ m=>
   have aD:k<l.length:=by omega
   obtain⟨s,hs⟩:=bV aD
   obtain⟨i,o,c,e,rw,q1,q2,q3,q4⟩:=hu.at (Du hs)
   obtain⟨i',o',c',e',vf,p1,p2,p3,p4⟩:=hv.at (Du hs)
   have cK:(k:Int)<(l.length:Int):=by omega
   simp(disch:=first|(simp;done)|omega|rfl) [A.tr,hr,hf,h5,l1,l2,cK,q1,q2,q3,q4,p1,p2,p3,p4,gj]
   exact⟨m,by omega,k+1,by omega,by simp⟩
 ·rintro _ r _ hr ⟨rfl,rfl⟩
  simp
def nX(s:a_):Bool:=decide (s.length<=24)
def zo(k n:Nat):Bool:=decide (k<=n\/64<k/\k<=66)
def nk(n:Nat)(l:List a_):Bool:=zo l.length n&&l.all nX
theorem Yga{k n:Nat}(h:zo k n=true)(hn:n<64):k<=66:=by
 simp[zo]at h
 omega
theorem Zq0{l:List a_}{w:List Nat}{n:Nat}(hs:Sl h N v (strs l))(hl:l.length<9223372036854775808)(hn:n<64):A.C.call (.func 9 [] []) [v,.int .i64 n] ⟨h,N,w⟩=some (.bool (nk n l),⟨h,N,w⟩):=by
 apply Call.eq
 have lg:=hs.len
 rw[yY]at lg
 rw[aR,A.k9 (by simp)]
 have fin:zo l.length n=true->nk n l=l.all nX:=fun h=>by simp[nk,h]
 by_cases c1:l.length<=n
 ·rw[fin (by simp[zo,c1])]
  have a1:¬(n:Int)<(l.length:Int):=by omega
  have a2:¬66<(l.length:Int):=by omega
  simp[A.b9,lg,a1,a2]
  refine bQ [(4,5),(20,31)] (fun e r st=>st=⟨h,N,[]⟩/\((e=.exit 0/\l.all nX=true)\/(e=.ret/\l.all nX=false/\r.get 4=some (.bool false)))) (fun m r st=>st=⟨h,N,[]⟩/\∃k,k+m=l.length/\r.get 5=some (.int .i64 k)/\l.all nX=(l.drop k).all nX) l.length ?_ ?_ ?_
  ·exact⟨rfl,0,by omega,by simp,by simp⟩
  ·rintro m r _ hr hf ⟨rfl,k,hk,hx,hz⟩
   rw[bA]
   cases m with
   |zero=>
    obtain rfl:k=l.length:=by omega
    rw[og,List.all_nil]at hz
    simp[A.mI,hr,hf,hx,lg,hz]
   |succ m=>
    have aD:k<l.length:=by omega
    have cK:(k:Int)<(l.length:Int):=by omega
    obtain⟨s,hc⟩:=bV aD
    obtain⟨i,o,cc,e,rw,q1,q2,q3,q4⟩:=hs.at (Du hc)
    rw[ke hc,List.all_cons]at hz
    by_cases c4:nX s=true
    ·rw[c4,Bool.true_and]at hz
     have c6:¬24<(s.length:Int):=by simp[nX]at c4;omega
     simp(disch:=first|(simp;done)|omega|rfl) [A.mI,hr,hf,hx,lg,cK,q1,q3,q4,c6]
     exact⟨m,by omega,k+1,by omega,by simp,hz⟩
    ·have c5:nX s=false:=by simpa using c4
     rw[c5,C1]at hz
     have c6:24<(s.length:Int):=by simp[nX]at c5;omega
     simp[A.mI,hr,hf,hx,lg,cK,q1,q3,q4,c6,hz]
  ·rintro e r _ hr ⟨rfl,⟨rfl,hq⟩|⟨rfl,hq,h2⟩⟩
   ·simp[hq]
   ·simp[hq,h2]
 ·have a1:(n:Int)<(l.length:Int):=by omega
  have J1:n<l.length:=by omega
  by_cases c2:l.length<=64
  ·have a3:(l.length:Int)<=64:=by omega
   have e1:nk n l=false:=by simp[nk,zo,c1];omega
   simp[A.b9,lg,a1,a3,e1]
  ·have a3:¬(l.length:Int)<=64:=by omega
   by_cases c3:66<l.length
   ·have a4:66<(l.length:Int):=by omega
    have e1:nk n l=false:=by simp[nk,zo,c1];omega
    simp[A.b9,lg,a1,a3,a4,e1]
   ·have a4:¬66<(l.length:Int):=by omega
    rw[fin (by simp[zo];omega)]
    simp[A.b9,lg,a1,a3,a4]
    refine bQ [(4,5),(20,31)] (fun e r st=>st=⟨h,N,[]⟩/\((e=.exit 0/\l.all nX=true)\/(e=.ret/\l.all nX=false/\r.get 4=some (.bool false)))) (fun m r st=>st=⟨h,N,[]⟩/\∃k,k+m=l.length/\r.get 5=some (.int .i64 k)/\l.all nX=(l.drop k).all nX) l.length ?_ ?_ ?_
    ·exact⟨rfl,0,by omega,by simp,by simp⟩
    ·rintro m r _ hr hf ⟨rfl,k,hk,hx,hz⟩
     rw[bA]
     cases m with
     |zero=>
      obtain rfl:k=l.length:=by omega
      rw[og,List.all_nil]at hz
      simp[A.mI,hr,hf,hx,lg,hz]
     |succ m=>
      have aD:k<l.length:=by omega
      have cK:(k:Int)<(l.length:Int):=by omega
      obtain⟨s,hc⟩:=bV aD
      obtain⟨i,o,cc,e,rw,q1,q2,q3,q4⟩:=hs.at (Du hc)
      rw[ke hc,List.all_cons]at hz
      by_cases c4:nX s=true
      ·rw[c4,Bool.true_and]at hz
       have c6:¬24<(s.length:Int):=by simp[nX]at c4;omega
       simp(disch:=first|(simp;done)|omega|rfl) [A.mI,hr,hf,hx,lg,cK,q1,q3,q4,c6]
       exact⟨m,by omega,k+1,by omega,by simp,hz⟩
      ·have c5:nX s=false:=by simpa using c4
       rw[c5,C1]at hz
       have c6:24<(s.length:Int):=by simp[nX]at c5;omega
       simp[A.mI,hr,hf,hx,lg,cK,q1,q3,q4,c6,hz]
    ·rintro e r _ hr ⟨rfl,⟨rfl,hq⟩|⟨rfl,hq,h2⟩⟩
     ·simp[hq]
     ·simp[hq,h2]
def tH(h:T O)(N:Nat)(v:V)(m:List (List a_)):Prop:=∃us:List V,Sl h N v us/\us.length=m.length/\∀(j:Nat) (l:List a_),m[j]?=some l->∃u,us[j]?=some u/\Sl h N u (strs l)
theorem tH.ae{h':T O}{N':Nat}(s:tH h N v m)(k:ab h N h' N'):tH h' N' v m:=by
 obtain⟨us,h1,h2,h3⟩:=s
 refine⟨us,h1.ae k,h2,fun j l hl=>?_⟩
 obtain⟨u,g1,g2⟩:=h3 j l hl
 exact⟨u,g1,g2.ae k⟩
theorem tH.len(s:tH h N v m):ki v=some m.length:=by
 obtain⟨us,h1,h2,_⟩:=s
 rw[h1.len,h2]
theorem tH.at(s:tH h N v m){j:Nat}{l:List a_}(hj:m[j]?=some l):∃i o c e rw u,vc v=some (i,o)/\i<N/\h.get i=some (.cells c e rw)/\c[o+j]?=some u/\Sl h N u (strs l):=by
 obtain⟨us,h1,h2,h3⟩:=s
 obtain⟨u,g1,g2⟩:=h3 j l hj
 obtain⟨i,o,c,e,rw,q1,q2,q3,q4⟩:=h1.at g1
 exact⟨i,o,c,e,rw,u,q1,q2,q3,q4,g2⟩
theorem tH.zv{m:List (List Rat)}(s:tH h N v (m.map fun l=>l.map aW)):mJ h N v m:=by
 obtain⟨us,h1,h2,h3⟩:=s
 refine⟨us,h1,by simpa using h2,fun j l hl=>?_⟩
 exact h3 j (l.map aW) (by simp[hl])
def A.tu:aq:=.seq (sr [mv 5 3,mv 6 0,ln 7 6,bi 8 .lss 5 7]
 (cd 8
 (.skip)
 (.exit 0)))
 (.seq (.block 1 (sr [mv 11 0,mv 12 3,ia 13 1 11 12,ld 14 13,c1 15 93 14,mv 4 15]
 (sr [mv 16 4,ni 17 16 0]
 (cd 17
 (sr [mv 18 4,mv 2 18]
 (.ret))
 (.skip)))))
 (.aM [mv 9 3,bc 10 .add 9 1,mv 3 10]))
def A.b92:aq:=sr [mc 2 0]
 (.seq (sr [mc 3 0]
 (.block 0 (.loop A.tu)))
 (sr [mc 2 0]
 (.ret)))
theorem A.c92:A.F 92=some ⟨19,[.tmp 2],A.b92⟩:=by kernel_rfl
def A.k92:=@A.kk 92 _ _ _ A.c92 rfl
def A.b16:aq:=sr [mc 4 0]
 (.seq (sr [mv 5 0,ln 6 5,mv 7 1,⟨(some 8),.bin .neq (.aI .int) false (.tmp 6) (.tmp 7),none⟩]
 (cd 8
 (sr [mc 4 2]
 (.ret))
 (.skip)))
 (sr [mv 9 0,c1 10 92 9,mv 4 10]
 (.ret)))
theorem A.c16:A.F 16=some ⟨11,[.tmp 4],A.b16⟩:=by kernel_rfl
def A.k16:=@A.kk 16 _ _ _ A.c16 rfl
def A.Fy:aq:=.seq (sr [mv 31 7,mv 32 0,ln 33 32,bi 34 .lss 31 33]
 (cd 34
 (.skip)
 (.exit 0)))
 (.seq (.block 1 (.seq (.aV [mv 37 0,mv 38 7,ia 39 1 37 38,ld 40 39,mv 41 0,⟨(some 42),.aN 1 (.tmp 41) (.const (.int .i64 0)),none⟩,ld 43 42,ln 44 43,c2 45 16 40 44,mv 8 45] [0,0,3,7,0,16,48,112,255,511])
 (sr [mv 46 8,ni 47 46 0]
 (cd 47
 (sr [mv 48 8,mv 6 48]
 (.ret))
 (.skip)))))
 (.aM [mv 35 7,bc 36 .add 35 1,mv 7 36]))
def A.b14:aq:=sr [mc 6 0]
 (.seq (sr [mv 9 0,ln 10 9,ei 11 10 0,mv 12 11,mh 13 0 12,⟨(some 14),.aN 1 (.tmp 13) (.const (.int .i64 0)),(some (12,false))⟩,⟨(some 15),.load none (.tmp 14),(some (12,false))⟩,⟨(some 16),.len 1 (.tmp 15),(some (12,false))⟩,⟨(some 17),.bin .eql (.aI .int) true (.tmp 16) (.const (.int .i64 0)),(some (12,false))⟩,pt 18 12 17]
 (cd 18
 (sr [mc 6 12]
 (.ret))
 (.skip)))
 (.seq (sr [mv 19 0,ln 20 19,mv 21 1,bi 22 .gtr 20 21,mv 23 22,mh 24 0 23,⟨(some 25),.aN 1 (.tmp 24) (.const (.int .i64 0)),(some (23,false))⟩,⟨(some 26),.load none (.tmp 25),(some (23,false))⟩,⟨(some 27),.len 1 (.tmp 26),(some (23,false))⟩,mh 28 2 23,⟨(some 29),.bin .gtr (.node []) false (.tmp 27) (.tmp 28),(some (23,false))⟩,pt 30 23 29]
 (cd 30
 (sr [mc 6 5]
 (.ret))
 (.skip)))
 (.seq (sr [mc 7 0]
 (.block 0 (.loop A.Fy)))
 (sr [mc 6 0]
 (.ret)))))
theorem A.c14:A.F 14=some ⟨49,[.tmp 6],A.b14⟩:=by kernel_rfl
def A.k14:=@A.kk 14 _ _ _ A.c14 rfl
def A.b15:aq:=sr [mc 2 0]
 (.seq (sr [mv 3 0,ln 4 3,ei 5 4 0]
 (cd 5
 (sr [mc 2 12]
 (.ret))
 (.skip)))
 (.seq (sr [mv 6 0,ln 7 6,bc 8 .gtr 7 16]
 (cd 8
 (sr [mc 2 5]
 (.ret))
 (.skip)))
 (.seq (sr [mv 9 0,⟨(some 10),.aN 1 (.tmp 9) (.const (.int .i64 0)),none⟩,ld 11 10,ln 12 11,ei 13 12 0]
 (cd 13
 (sr [mc 2 12]
 (.ret))
 (.skip)))
 (.seq (sr [mv 14 0,⟨(some 15),.aN 1 (.tmp 14) (.const (.int .i64 0)),none⟩,ld 16 15,ln 17 16,bc 18 .gtr 17 16]
 (cd 18
 (sr [mc 2 5]
 (.ret))
 (.skip)))
 (sr [mv 19 0,mv 20 0,⟨(some 21),.aN 1 (.tmp 20) (.const (.int .i64 0)),none⟩,ld 22 21,ln 23 22,c2 24 91 19 23,mv 2 24]
 (.ret))))))
theorem A.c15:A.F 15=some ⟨25,[.tmp 2],A.b15⟩:=by kernel_rfl
def A.k15:=@A.kk 15 _ _ _ A.c15 rfl
theorem Yl8{h:T O}{N:Nat}{v:V}{l:List a_}(hs:Sl h N v (strs l))(hl:l.length<100000)(qZ:∀s∈l,s.length<=100000):Fn A.C 92 [v] h N (fun u _ _=>u=.int .i64 (cn (l.map fun s=>((bk s:Nat):Int)))):=by
 intro w
 have hlen:=hs.len
 rw[yY]at hlen
 rw[aR,A.k92 (by simp)]
 simp[A.b92]
 refine bQ [(2,18)] (fun e r st=>ad N st.w=[]/\ab h N st.h st.n/\((e=.exit 0/\cn (l.map fun s=>((bk s:Nat):Int))=0)\/(e=.ret/\r.get 2=some (.int .i64 (cn (l.map fun s=>((bk s:Nat):Int))))))) (fun m r st=>ad N st.w=[]/\ab h N st.h st.n/\∃k,k+m=l.length/\r.get 3=some (.int .i64 k)/\cn (l.map fun s=>((bk s:Nat):Int))=cn ((l.drop k).map fun s=>((bk s:Nat):Int))) l.length ?_ ?_ ?_
 ·exact⟨by simp,ab.refl,0,by omega,by simp,by simp⟩
 ·rintro m r ⟨H,n1,W⟩ hr hf ⟨hW,hK,k,hk,h7,hz⟩
  simp only at hW hK
  rw[bA]
  cases m with
  |zero=>
   obtain rfl:k=l.length:=by omega
   rw[og,vP,cn]at hz
   simp[A.tu,hr,hf,h7,hlen,hz,hW,hK]
  |succ m=>
   have aD:k<l.length:=by omega
   obtain⟨s,hc⟩:=bV aD
   obtain⟨i,o,cc,e,rw,q1,q2,q3,q4⟩:=(hs.ae hK).at (Du hc)
   rw[ke hc,kg,cn]at hz
   have cK:(k:Int)<(l.length:Int):=by omega
   simp[A.tu,hr,h7,cK,hlen,q1,q3,q4]
   refine ax (Zrb (qZ s (du hc))) ?_
   rintro _ h3 n3 k3 rfl
   have kk:=hK.trans k3
   by_cases h0:bk s=0
   ·rw[aF (by omega)]at hz
    simp(disch:=first|(simp;done)|omega|rfl) [hf,h7,h0,hW]
    exact⟨m,by omega,kk,k+1,by omega,by simp,by simpa using hz⟩
   ·rw[au (by omega)]at hz
    have qW:¬((bk s:Nat):Int)=0:=by omega
    simp[hf,h0,hW,hz]
    exact kk
 ·rintro _ r ⟨H,n1,W⟩ hr ⟨hW,hK,⟨rfl,hz⟩|⟨rfl,h2⟩⟩
  ·simp only at hW hK
   simp[hz,aA,hW,hK]
  ·simp only at hW hK
   simp[h2,aA,hW,hK]
def vu(l:List a_)(n:Nat):Int:=if l.length=n then cn (l.map fun s=>((bk s:Nat):Int)) else 2
theorem Yhd{h:T O}{N:Nat}{v:V}{l:List a_}{n:Nat}(hs:Sl h N v (strs l))(hl:l.length<100000)(qZ:∀s∈l,s.length<=100000):Fn A.C 16 [v,.int .i64 n] h N (fun u _ _=>u=.int .i64 (vu l n)):=by
 intro w
 have hlen:=hs.len
 rw[yY]at hlen
 rw[aR,A.k16 (by simp)]
 by_cases c:l.length=n
 ·subst c
  simp[A.b16,hlen]
  refine ax (Yl8 hs hl qZ) ?_
  rintro _ H2 n2 k2 rfl
  simp[aA,vu]
  exact k2
 ·have c':¬(l.length:Int)=(n:Int):=by omega
  simp[A.b16,hlen,c',vu,c,aA]
  exact ab.refl
open Go
variable {N:Nat} {h:T O} {v:V}
def A.tv:aq:=sr [bi 9 .lss 8 7]
 (.seq (cd 9
 (.skip)
 (.exit 0))
 (.seq (.block 1 (sr [ia 10 3 6 8,lN 11 3 10,⟨(some 5),.alloc [(.int .i64 0),(.str []),.aa] 90,none⟩,⟨none,.store 3 (.tmp 5) (.tmp 11),none⟩]
 (.aM [mv 12 3,lN 13 3 5,⟨(some 14),.aO 130 3 1 [(.int .i64 0),(.str []),.aa] [(0,3,(.tmp 13))],none⟩,⟨(some 15),.append 3 48 130 [(.int .i64 0),(.str []),.aa] (.tmp 12) (.tmp 14),none⟩,mv 3 15])))
 (.aM [bc 16 .add 8 1,mv 8 16])))
def A.b35:aq:=sr [mN 2]
 (sr [mN 3]
 (.seq (sr [mv 6 0,ln 7 6,mc 8 0]
 (.block 0 (.loop A.tv)))
 (sr [mv 17 3,mv 2 17]
 (.ret))))
theorem A.c35:A.F 35=some ⟨18,[.tmp 2],A.b35⟩:=by kernel_rfl
def A.k35:=@A.kk 35 _ _ _ A.c35 rfl
def A.fw:aq:=.seq (sr [mv 20 5,mv 21 0,ln 22 21,bi 23 .lss 20 22]
 (cd 23
 (.skip)
 (.exit 0)))
 (.seq (.block 1 (sr [mv 26 0,mv 27 5,ia 28 3 26 27,fa 29 1 28,ld 30 29,⟨(some 31),.len 0 (.tmp 30),none⟩,bc 32 .gtr 31 24,mv 33 32,mh 34 0 33,mh 35 5 33,⟨(some 36),.aN 3 (.tmp 34) (.tmp 35),(some (33,false))⟩,⟨(some 37),.de 2 (.tmp 36),(some (33,false))⟩,⟨(some 38),.load none (.tmp 37),(some (33,false))⟩,⟨(some 39),.call (.const (.func 9 [] [])) [(.tmp 38),(.const (.int .i64 6))],(some (33,false))⟩,⟨(some 40),.un .not (.tmp 39),(some (33,false))⟩,pt 41 33 40]
 (cd 41
 (sr [⟨(some 4),.aY (.const (.bool false)),none⟩]
 (.ret))
 (.skip))))
 (.aM [mv 24 5,bc 25 .add 24 1,mv 5 25]))
def A.b36:aq:=sr [⟨(some 4),.aY (.const (.bool false)),none⟩]
 (.seq (sr [mv 6 0,ln 7 6,mv 8 1,bi 9 .gtr 7 8,mv 10 9,mg 11 0 10,⟨(some 12),.len 1 (.tmp 11),(some (10,true))⟩,⟨(some 13),.bin .leq (.node []) false (.tmp 12) (.const (.int .i64 256)),(some (10,true))⟩,pf 14 10 13,mv 15 14,mh 16 0 15,⟨(some 17),.len 1 (.tmp 16),(some (15,false))⟩,⟨(some 18),.bin .gtr (.node []) false (.tmp 17) (.const (.int .i64 258)),(some (15,false))⟩,pt 19 15 18]
 (cd 19
 (sr [⟨(some 4),.aY (.const (.bool false)),none⟩]
 (.ret))
 (.skip)))
 (.seq (sr [mc 5 0]
 (.block 0 (.loop A.fw)))
 (sr [⟨(some 4),.aY (.const (.bool true)),none⟩]
 (.ret))))
theorem A.c36:A.F 36=some ⟨42,[.tmp 4],A.b36⟩:=by kernel_rfl
def A.k36:=@A.kk 36 _ _ _ A.c36 rfl
structure Pk where
 act:Int
 am:a_
 sl:List a_
def ed(p:Pk)(u:V):List V:=[.int .i64 p.act,.str p.am,u]
def nY(h:T O)(N:Nat)(v:V)(l:List Pk):Prop:=∃cs:List (List V),Sn 3 h N v cs/\cs.length=l.length/\∀(j:Nat) (p:Pk),l[j]?=some p->∃u,cs[j]?=some (ed p u)/\Sl h N u (strs p.sl)
theorem nY.ae{h':T O}{N':Nat}{l:List Pk}(s:nY h N v l)(k:ab h N h' N'):nY h' N' v l:=by
 obtain⟨cs,h1,h2,h3⟩:=s
 refine⟨cs,h1.ae k,h2,fun j p hp=>?_⟩
 obtain⟨u,g1,g2⟩:=h3 j p hp
 exact⟨u,g1,g2.ae k⟩
theorem nY.len{l:List Pk}(s:nY h N v l):ki v=some l.length:=by
 obtain⟨cs,h1,h2,_⟩:=s
 rw[h1.len,h2]
theorem V6{x c:List V}{k n j:Nat}(h:aJ x k n=some c)(hj:j<n):x[k+j]?=c[j]?:=by
 obtain⟨h1,rfl⟩:=MD h
 rw[gV,aF hj,fG]
theorem nY.at{l:List Pk}(s:nY h N v l){j:Nat}{p:Pk}(hj:l[j]?=some p):∃i o x e rw u,vc v=some (i,o)/\i<N/\h.get i=some (.cells x e rw)/\aJ x (o+j*3) 3=some (ed p u)/\x[o+j*3]?=some (.int .i64 p.act)/\x[o+j*3+1]?=some (.str p.am)/\x[o+j*3+2]?=some u/\Sl h N u (strs p.sl):=by
 obtain⟨cs,h1,h2,h3⟩:=s
 obtain⟨u,g1,g2⟩:=h3 j p hj
 obtain⟨i,o,x,e,rw,q1,q2,q3,q4⟩:=h1.at g1
 exact⟨i,o,x,e,rw,u,q1,q2,q3,q4,by have:=V6 q4 (j:=0) (by decide);simpa[ed]using this,by have:=V6 q4 (j:=1) (by decide);simpa[ed]using this,by have:=V6 q4 (j:=2) (by decide);simpa[ed]using this,g2⟩
theorem Ykf{l:List Pk}(hs:nY h N v l)(hl:2*l.length*48<=281474976710656):Fn A.C 35 [v] h N (fun x h' n'=>nY h' n' x l):=by
 intro w
 have lv:=hs.len
 obtain⟨cs,h1,h2,h3⟩:=hs
 have ec:∀(j:Nat) (p:Pk) (u:V),Sl h N u (strs p.sl)->V.one u=true:=fun j p u s=>s.form.one
 rw[aR,A.k35 (by simp)]
 simp[A.b35,lv]
 refine bQ [(3,3),(5,5),(8,16)] (fun e r st=>e=.exit 0/\ad N st.w=[]/\ab h N st.h st.n/\∃x,r.get 3=some x/\Own 3 130 N st.h st.n x cs) (fun m r st=>ad N st.w=[]/\ab h N st.h st.n/\∃t x,t+m=l.length/\r.get 8=some (.int .i64 t)/\r.get 3=some x/\Own 3 130 N st.h st.n x (cs.take t)) l.length ?_ ?_ ?_
 ·exact⟨by simp,ab.refl,0,_,by omega,by simp,by simp,Own.nil⟩
 ·rintro m r ⟨H,n,W⟩ hr hf ⟨hW,hK,t,x,ht,h8,Ho,hO⟩
  simp only at hW hK hO
  rw[bA]
  have le:=hK.le
  cases m with
  |zero=>
   obtain rfl:t=l.length:=by omega
   rw[eF (by omega)]at hO
   simp[A.tv,hr,hf,h8,Ho,hW,hK]
   exact hO
  |succ m=>
   have aD:t<l.length:=by omega
   have bm:(t:Int)<(l.length:Int):=by omega
   obtain⟨p,hp⟩:=bV aD
   obtain⟨u,g1,g2⟩:=h3 t p hp
   obtain⟨i,o,y,e,rw,q1,q2,q3,q4⟩:=(h1.ae hK).at g1
   have ou:=ec t p u g2
   have jP:(V.agg (ed p u)).cells=ed p u:=rfl
   have c2:(ed p u).all V.one=true:=by simp[ed, -V.one,ou];exact⟨rfl,rfl⟩
   have cl:(ed p u).length=3:=rfl
   have s3:aJ (ed p u) 0 3=some (ed p u):=rfl
   have e3:∀z:List V,z.length=3->ag [V.int .i64 0,.str [],.aa] 0 z=z:=fun z hz=>by unfold ag;rw[hz];simp
   have hi:¬i=n:=by omega
   have kB:ab H n (((H.set n (.cells [.int .i64 0,.str [],.aa] 90 true)).set n (.cells (ed p u) 90 true)).set (n+1) (.cells (ed p u) 130 true)) (n+1+1):=((ab.refl.new _).set (aS _)).new _
   simp[-V.cells, -V.one,A.tv,hr,h8,Ho,bm,lv,jP,c2,q1,q3,q4,bW,e3,cl,s3]
   have hb:2*((cs.take t).length+1)*48<=281474976710656:=by rw[fR];omega
   obtain⟨x',h',w',j1,j2,j3,_,j5⟩:=pU (x:=ed p u) (u:=.slice (n+1) 0 1 (some 1) 3) (bytes:=48) (w:=n::W) (hO.ae kB) (by omega) (by decide) rfl (by simp[eC,St.row,cl,aJ,eF]) hb
   have kF:ab h N h' (n+1+1+1):=(hK.trans kB).then j3
   simp(disch:=first|(simp;done)|omega|(simp only[bl,bG,bh];omega)|rfl) [j1,hf,h8,kF]
   have Ke:¬n<N:=by omega
   exact⟨m,by omega,by rw[j2];simp[hW,Ke],t+1,by omega,by simp,by rw[pV,g1];exact j5⟩
 ·rintro _ r ⟨H,n,W⟩ hr ⟨rfl,hW,hK,x,Ho,hO⟩
  simp only at hW hK hO
  simp[Ho,aA,hW,hK]
  refine⟨cs,hO.sn,h2,fun j p hp=>?_⟩
  obtain⟨u,a,b⟩:=h3 j p hp
  exact⟨u,a,b.ae hK⟩
def np(p:Pk):Bool:=decide (p.am.length<=24)&&nk 6 p.sl
def wB(l:List Pk):Bool:=decide (l.length<=12\/256<l.length/\l.length<=258)&&l.all np
theorem Yjk{l:List Pk}{w:List Nat}(hs:nY h N v l)(hl:l.length<9223372036854775808)(mW:∀x∈l,x.sl.length<9223372036854775808):A.C.call (.func 36 [] []) [v,.int .i64 12] ⟨h,N,w⟩=some (.bool (wB l),⟨h,N,w⟩):=by
 apply Call.eq
 have lg:=hs.len
 rw[aR,A.k36 (by simp)]
 have fin:(l.length<=12\/256<l.length/\l.length<=258)->wB l=l.all np:=fun h=>by simp[wB,h]
 have Lh:¬(l.length<=12\/256<l.length/\l.length<=258)->wB l=false:=fun h=>by simp[wB,h]
 by_cases c1:l.length<=12
 ·rw[fin (.inl c1)]
  have a1:¬12<(l.length:Int):=by omega
  have J1:¬12<l.length:=by omega
  have a2:¬258<(l.length:Int):=by omega
  simp[A.b36,lg,a1,a2]
  refine bQ [(4,5),(20,41)] (fun e r st=>st=⟨h,N,[]⟩/\((e=.exit 0/\l.all np=true)\/(e=.ret/\l.all np=false/\r.get 4=some (.bool false)))) (fun m r st=>st=⟨h,N,[]⟩/\∃k,k+m=l.length/\r.get 5=some (.int .i64 k)/\l.all np=(l.drop k).all np) l.length ?_ ?_ ?_
  ·exact⟨rfl,0,by omega,by simp,by simp⟩
  ·rintro m r _ hr hf ⟨rfl,k,hk,hx,hz⟩
   rw[bA]
   cases m with
   |zero=>
    obtain rfl:k=l.length:=by omega
    rw[og,List.all_nil]at hz
    simp[A.fw,hr,hf,hx,lg,hz]
   |succ m=>
    have aD:k<l.length:=by omega
    have cK:(k:Int)<(l.length:Int):=by omega
    obtain⟨s,hc⟩:=bV aD
    obtain⟨i,o,cc,e,rw,u,q1,q2,q3,q4,q5,q6,q7,q8⟩:=hs.at hc
    have x2:=mW s (du hc)
    have cg:∀w,A.C.call (.func 9 [] []) [u,.int .i64 6] ⟨h,N,w⟩=some (.bool (nk 6 s.sl),⟨h,N,w⟩):=fun w=>Zq0 (w:=w) (n:=6) q8 x2 (by decide)
    rw[ke hc,List.all_cons]at hz
    by_cases c4:np s=true
    ·rw[c4,Bool.true_and]at hz
     have c6:¬24<(s.am.length:Int):=by simp[np]at c4;omega
     have c7:nk 6 s.sl=true:=by simp[np]at c4;exact c4.2
     simp(disch:=first|(simp;done)|omega|(simp only[bl,bG,bh];omega)|rfl) [A.fw,hr,hf,hx,lg,cK,q1,q3,q6,q7,cg,c6,c7]
     exact⟨m,by omega,k+1,by omega,by simp,hz⟩
    ·have c5:np s=false:=by simpa using c4
     rw[c5,C1]at hz
     by_cases c6:24<(s.am.length:Int)
     ·simp[A.fw,hr,hf,hx,lg,cK,q1,q3,q6,c6,hz]
     ·have c7:nk 6 s.sl=false:=by simp[np]at c5;exact c5 (by omega)
      simp[A.fw,hr,hf,hx,lg,cK,q1,q3,q6,q7,cg,c6,c7,hz]
  ·rintro e r _ hr ⟨rfl,⟨rfl,hq⟩|⟨rfl,hq,h2⟩⟩
   ·simp[hq]
   ·simp[hq,h2]
 ·have a1:12<(l.length:Int):=by omega
  have J1:12<l.length:=by omega
  by_cases c2:l.length<=256
  ·have a3:(l.length:Int)<=256:=by omega
   have e1:=Lh (by omega)
   simp[A.b36,lg,a1,a3,e1]
  ·have a3:¬(l.length:Int)<=256:=by omega
   by_cases c3:258<l.length
   ·have a4:258<(l.length:Int):=by omega
    have e1:=Lh (by omega)
    simp[A.b36,lg,a1,a3,a4,e1]
   ·have a4:¬258<(l.length:Int):=by omega
    rw[fin (by omega)]
    simp[A.b36,lg,a1,a3,a4]
    refine bQ [(4,5),(20,41)] (fun e r st=>st=⟨h,N,[]⟩/\((e=.exit 0/\l.all np=true)\/(e=.ret/\l.all np=false/\r.get 4=some (.bool false)))) (fun m r st=>st=⟨h,N,[]⟩/\∃k,k+m=l.length/\r.get 5=some (.int .i64 k)/\l.all np=(l.drop k).all np) l.length ?_ ?_ ?_
    ·exact⟨rfl,0,by omega,by simp,by simp⟩
    ·rintro m r _ hr hf ⟨rfl,k,hk,hx,hz⟩
     rw[bA]
     cases m with
     |zero=>
      obtain rfl:k=l.length:=by omega
      rw[og,List.all_nil]at hz
      simp[A.fw,hr,hf,hx,lg,hz]
     |succ m=>
      have aD:k<l.length:=by omega
      have cK:(k:Int)<(l.length:Int):=by omega
      obtain⟨s,hc⟩:=bV aD
      obtain⟨i,o,cc,e,rw,u,q1,q2,q3,q4,q5,q6,q7,q8⟩:=hs.at hc
      have x2:=mW s (du hc)
      have cg:∀w,A.C.call (.func 9 [] []) [u,.int .i64 6] ⟨h,N,w⟩=some (.bool (nk 6 s.sl),⟨h,N,w⟩):=fun w=>Zq0 (w:=w) (n:=6) q8 x2 (by decide)
      rw[ke hc,List.all_cons]at hz
      by_cases c4:np s=true
      ·rw[c4,Bool.true_and]at hz
       have c6:¬24<(s.am.length:Int):=by simp[np]at c4;omega
       have c7:nk 6 s.sl=true:=by simp[np]at c4;exact c4.2
       simp(disch:=first|(simp;done)|omega|(simp only[bl,bG,bh];omega)|rfl) [A.fw,hr,hf,hx,lg,cK,q1,q3,q6,q7,cg,c6,c7]
       exact⟨m,by omega,k+1,by omega,by simp,hz⟩
      ·have c5:np s=false:=by simpa using c4
       rw[c5,C1]at hz
       by_cases c6:24<(s.am.length:Int)
       ·simp[A.fw,hr,hf,hx,lg,cK,q1,q3,q6,c6,hz]
       ·have c7:nk 6 s.sl=false:=by simp[np]at c5;exact c5 (by omega)
        simp[A.fw,hr,hf,hx,lg,cK,q1,q3,q6,q7,cg,c6,c7,hz]
    ·rintro e r _ hr ⟨rfl,⟨rfl,hq⟩|⟨rfl,hq,h2⟩⟩
     ·simp[hq]
     ·simp[hq,h2]
def A.pO:aq:=.seq (sr [mv 4 3,mv 5 0,ln 6 5,bi 7 .lss 4 6]
 (cd 7
 (.skip)
 (.exit 0)))
 (.seq (.block 1 (sr [mv 10 0,mv 11 3,ia 12 1 10 11,ld 13 12,c1 14 110 13,ni 15 14 0]
 (cd 15
 (sr [mc 2 4]
 (.ret))
 (.skip))))
 (.aM [mv 8 3,bc 9 .add 8 1,mv 3 9]))
def A.b97:aq:=sr [mc 2 0]
 (.seq (sr [mc 3 0]
 (.block 0 (.loop A.pO)))
 (sr [mc 2 0]
 (.ret)))
theorem A.c97:A.F 97=some ⟨16,[.tmp 2],A.b97⟩:=by kernel_rfl
def A.k97:=@A.kk 97 _ _ _ A.c97 rfl
def jS(l:List Rat):Bool:=l.any vJ
theorem QU{h:T O}{N:Nat}{v:V}{l:List Rat}{w:List Nat}(hs:Tx h N v l)(hl:l.length<100000)(qZ:∀q∈l,(aW q).length<1000000000):A.C.call (.func 97 [] []) [v] ⟨h,N,w⟩=some (.int .i64 (if jS l=true then 4 else 0),⟨h,N,w⟩):=by
 apply Call.eq
 have hlen:=hs.len
 rw[aR,A.k97 (by simp)]
 simp[A.b97]
 refine bQ [(2,15)] (fun e r st=>st=⟨h,N,[]⟩/\((e=.exit 0/\jS l=false)\/(e=.ret/\jS l=true/\r.get 2=some (.int .i64 4)))) (fun m r st=>st=⟨h,N,[]⟩/\∃k,k+m=l.length/\r.get 3=some (.int .i64 k)/\jS l=jS (l.drop k)) l.length ?_ ?_ ?_
 ·exact⟨rfl,0,by omega,by simp,by simp⟩
 ·rintro m r _ hr hf ⟨rfl,k,hk,h7,hz⟩
  rw[bA]
  cases m with
  |zero=>
   obtain rfl:k=l.length:=by omega
   rw[og]at hz
   simp[jS]at hz
   simp[A.pO,hr,hf,h7,hlen]
   simpa[jS]using hz
  |succ m=>
   have aD:k<l.length:=by omega
   obtain⟨q,hc⟩:=bV aD
   obtain⟨i,o,cc,e,rw,q1,q2,q3,q4⟩:=Sl.at hs (CJ hc)
   rw[ke hc]at hz
   have cK:(k:Int)<(l.length:Int):=by omega
   have OO:=fun st=>Yb8 (st:=st) (qZ q (du hc))
   by_cases h0:vJ q=true
   ·have e1:jS l=true:=by rw[hz];simp[jS,h0]
    rw[aF h0]at OO
    simp[A.pO,hr,hf,h7,cK,hlen,q1,q3,q4,OO,e1]
   ·have e1:jS l=jS (l.drop (k+1)):=by rw[hz];simp[jS,h0]
    rw[au h0]at OO
    simp(disch:=first|(simp;done)|omega|rfl) [A.pO,hr,hf,h7,cK,hlen,q1,q3,q4,OO]
    exact⟨m,by omega,k+1,by omega,by simp,e1⟩
 ·rintro _ r _ hr ⟨rfl,⟨rfl,hz⟩|⟨rfl,hz,h2⟩⟩
  ·simp[hz]
  ·simp[h2,hz]
end Go.Mx
