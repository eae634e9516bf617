/-
  Results of valid pokes; reconstruct.Interaction.
-/
import Derived.Test.YtlbophlgohokkaaGreatDoorSpA
import Derived.Test.YtlbophlgohokkaaGreatDoorVcA
import Derived.Test.YtlbophlgohokkaaGreatDoorEcD
set_option linter.all false
namespace Go.Mx
open Go Go.Proofs
variable {S Z:Nat}
set_option maxHeartbeats 1000000
set_option maxRecDepth 1000000
def A.sW:aq:=sr [bi 23 .lss 22 21]
 (.seq (cd 23
 (.skip)
 (.exit 0))
 (.seq (.block 1 (sr [mv 24 22,mv 11 24]
 (.aM [mv 25 10,mv 26 9,mv 27 11,⟨(some 28),.lookup (.int .i64) .aa (.tmp 26) (.tmp 27) false,none⟩,c1 29 116 28,⟨(some 30),.aO 97 1 1 [.aa] [(0,1,(.tmp 29))],none⟩,⟨(some 31),.append 1 24 97 [.aa] (.tmp 25) (.tmp 30),none⟩,mv 10 31])))
 (.aM [bc 32 .add 22 1,mv 22 32])))
def A.b37:aq:=sr [mN 6,mc 7 0]
 (.seq (sr [mv 12 0,mv 13 1,mv 14 2,⟨(some 15),.call (.const (.func 114 [] [])) [(.tmp 12),(.tmp 13),(.tmp 14)],none⟩,mv 8 15]
 (sr [mv 16 8,ni 17 16 0]
 (cd 17
 (sr [mv 18 8,mN 6,mv 7 18]
 (.ret))
 (.skip))))
 (sr [mv 19 0,c1 20 115 19,mv 9 20]
 (sr [mN 10]
 (.seq (sr [mv 21 2,mc 22 0]
 (.block 0 (.loop A.sW)))
 (sr [mv 33 10,mv 34 1,c2 35 80 33 34,c1 36 117 35,xt 37 36 0,xt 38 36 1,mv 6 37,mv 7 38]
 (.ret))))))
theorem A.c37:A.F 37=some ⟨39,[.tmp 6,.tmp 7],A.b37⟩:=by kernel_rfl
def A.k37:=@A.kk 37 _ _ _ A.c37 rfl
theorem Kh{P:Prop}[Decidable P]{a:Int}(ha:a≠0)(h:(if P then a else 0)=0):¬P:=fun hp=>by
 rw[aF hp]at h
 exact ha h
theorem NS{l:List Pk}(h:wB l=true):l.length<1000/\∀p∈l,p.am.length<=24/\nk 6 p.sl=true:=by
 unfold wB at h
 rw[gW,decide_eq_true_eq,m8]at h
 refine⟨by omega,fun p hp=>?_⟩
 have:=h.2 p hp
 simp[np]at this
 exact this
structure Hb (l:List Pk) (s z:Nat):Prop where
 s1:0<s
 s6:s<=6
 z1:0<z
 CG:z<=16
 Hc:l.length<=12
 ok:∀p∈l,EP p s z
 ne:∀k:Nat,k<z->0<(cO l k).length
theorem U0{l:List Pk}{S Z:Int}(pc:wB l=true)(h:sV l S Z=0):S=(S.toNat:Int)/\Z=(Z.toNat:Int)/\Hb l S.toNat Z.toNat:=by
 obtain⟨b1,b2⟩:=NS pc
 unfold wB at pc
 rw[gW,decide_eq_true_eq]at pc
 unfold sV at h
 split at h
 ·rename_i h0
  split at h
  ·rename_i h1
   split at h
   ·rename_i h2
    unfold G9 at h0
    have z0:=EL h0
    have a1:=Kh (by decide) (z0 _ jk)
    have a2:=Kh (by decide) (z0 _ (iz _ jk))
    have a3:=Kh (by decide) (z0 _ (iz _ (iz _ jk)))
    have s1:S=(S.toNat:Int):=by omega
    have s2:Z=(Z.toNat:Int):=by omega
    have s3:S.toNat<=64:=by omega
    have jt:∀p∈l,EP p S.toNat Z.toNat:=fun p hp=>by
     have c0:=EL h1 _ (List.mem_map_of_mem hp)
     unfold lF at c0
     have z0:=EL c0
     have a1:=Kh (by decide) (z0 _ jk)
     have a2:=z0 _ (iz _ jk)
     have a3:=Kh (by decide) (z0 _ (iz _ (iz _ jk)))
     have a4:=z0 _ (iz _ (iz _ (iz _ jk)))
     have U1:bk p.am=0:=by simpa using a2
     split at a4
     ·rename_i a5
      have e1:=EL a4
      have e2:=(b2 p hp).2
      unfold nk at e2
      rw[gW,m8]at e2
      refine⟨by omega,by omega,U1,(b2 p hp).1,fun hc=>a3 ?_,by omega,fun s hs=>⟨?_,?_⟩⟩
      ·rw[<-(FF U1).1,hc]
       rfl
      ·have:=e1 _ (List.mem_map_of_mem hs)
       simpa using this
      ·have:=e2.2 s hs
       simpa[nX]using this
     ·exact absurd a4 (by decide)
    have bJ:∀k:Nat,k<Z.toNat->0<(cO l k).length:=fun k hk=>by
     rw[m8]at h2
     have:=h2 k (zB.2 hk)
     unfold py at this
     rw[List.any_eq_true]at this
     obtain⟨p,hp,hq⟩:=this
     unfold cO
     rw[oa]
     exact List.length_pos_of_mem (List.mem_filter.2 ⟨hp,hq⟩)
    refine⟨s1,s2,by omega,?_,by omega,by omega,by omega,jt,bJ⟩
    have qi:=bJ 0 (by omega)
    have mi:0<l.length:=by have:=AR (l:=l) (k:=((0:Nat):Int));omega
    obtain⟨p,hp⟩:=bV mi
    have hm:=du hp
    have e2:=(b2 p hm).2
    unfold nk at e2
    rw[gW]at e2
    have e3:=e2.1
    have e4:=(jt p hm).sl
    simp[zo]at e3
    omega
   ·exact absurd h (by decide)
  ·rename_i hc
   exact absurd h hc
 ·rename_i hc
  exact absurd h hc
def wC(l:List Pk)(S Z:Nat):List (List Rat):=(List.range Z).map fun k:Nat=>j9 (cO l (k:Int)) S
def AS(l:List Pk)(S Z:Nat):List (List Rat):=qo (wC l S Z) S
theorem Zsj{l:List Pk}{k:Nat}:wC l S (k+1)=wC l S k++[j9 (cO l (k:Int)) S]:=by simp[wC,List.range_succ]
theorem Hd{l:List Pk}:(wC l S Z).length=Z:=by simp[wC]
theorem Ydm{l:List Pk}:∀r∈wC l S Z,r.length=S:=fun r hr=>by
 obtain⟨k,_,rfl⟩:=iy.1 hr
 exact NT
theorem NU{l:List Pk}{s z k:Nat}(h:Hb l s z)(hk:k<z):∀q∈j9 (cO l (k:Int)) s,Qb 2400 q:=fun q hq=>by
 have hl:=AR (l:=l) (k:=(k:Int))
 have:=h.Hc
 exact(Yf1 (He h.ok).2 (by decide) (h.ne k hk) (by omega) q hq).mono (by omega)
theorem Ycg{l:List Pk}{s z:Nat}(h:Hb l s z):jF (AS l s z) 2400:=fun r hr q hq=>by
 have hc:jF (wC l s z) 2400:=fun r hr=>by
  obtain⟨k,hk,rfl⟩:=iy.1 hr
  exact NU h (zB.1 hk)
 unfold AS qo at hr
 obtain⟨k,hk,rfl⟩:=iy.1 hr
 obtain⟨r,hr,rfl⟩:=iy.1 hq
 exact EK (hc r hr) (by decide) k
theorem Zv7{l:List Pk}:(AS l S Z).length=S:=by simp[AS,qo]
theorem Ycf{l:List Pk}:∀r∈AS l S Z,r.length<=Z:=fun r hr=>by
 unfold AS qo at hr
 obtain⟨k,hk,rfl⟩:=iy.1 hr
 rw[sX,oa,Hd]
 exact aS _
theorem Ygc{h:T O}{N:Nat}{v:V}{l:List Pk}{S Z:Int}(hs:nY h N v l)(hP:jm h N)(pc:wB l=true):Fn A.C 37 [v,.int .i64 S,.int .i64 Z] h N (fun x h' n'=>∃v c,x=.aZ [v,.int .i64 c]/\Bc (sV l S Z) (AS l S.toNat Z.toNat) v c h' n'):=by
 intro w
 obtain⟨b1,b2⟩:=NS pc
 rw[aR,A.k37 (by simp)]
 simp[A.b37]
 refine ax (Zka hs (by omega) fun p hp=>⟨by have:=(b2 p hp).1;omega,(G8 (b2 p hp).2).1,(G8 (b2 p hp).2).2⟩) ?_
 rintro _ H1 n1 k1 rfl
 by_cases hE:sV l S Z=0
 ·obtain⟨e1,e2,hO⟩:=U0 pc hE
  rw[hE]
  generalize S.toNat=s at*
  generalize Z.toNat=z at*
  subst e1 e2
  have yc:=hO.CG
  simp
  refine ax (Zk5 (hs.ae k1) b1 hO.ok (by have:=hO.s6;omega)) ?_
  rintro _ H2 n2 k2 ⟨ks,rfl,hM⟩
  simp[]
  refine bQ [(10,11),(22,32)] (fun e r st=>e=.exit 0/\ad n2 st.w=[]/\ab H2 n2 st.h st.n/\∃v,r.get 10=some v/\ik n2 st.h st.n v (wC l s z)) (fun i r st=>ad n2 st.w=[]/\ab H2 n2 st.h st.n/\∃k v,k+i=z/\r.get 22=some (.int .i64 (k:Nat))/\r.get 10=some v/\ik n2 st.h st.n v (wC l s k)) z ?_ ?_ ?_
  ·exact⟨by simp,ab.refl,0,_,by omega,by simp,by simp,ik.nil⟩
  ·rintro i r ⟨H,n,W⟩ hr hf ⟨hW,hK,k,v,hk,jy,eM,hQ⟩
   simp only at hW hK hQ
   rw[bA]
   have ln:=hK.le
   cases i with
   |zero=>
    obtain rfl:k=z:=by omega
    simp[A.sW,hr,hf,jy,eM,hW,hK]
    exact hQ
   |succ i=>
    have aD:k<z:=by omega
    have bm:(k:Int)<(z:Int):=by omega
    have AT:=hM.ae hK
    have jG:=fun w=>NV (n:=n) (w:=w) (a:=(k:Int)) AT.map
    have xO:=AR (l:=l) (k:=(k:Int))
    have ER:=hO.Hc
    obtain⟨rc,rq⟩:=He (l:=l) (S:=s) (Z:=z) (k:=(k:Int)) hO.ok
    simp[A.sW,hr,jy,eM,bm,jG]
    refine ax (Ybv (AT.yb (k:Int)).ES (hO.ne k aD) (by omega) rc (by have:=hO.s6;omega) (by decide) rq (by omega)) ?_
    rintro y H3 n3 k3 hy
    have zp:=k3.le
    obtain⟨f1,f2,f3⟩:=hy.1.form
    have kD:ab H3 n3 (H3.set n3 (.cells [y] 97 true)) (n3+1):=ab.refl.new _
    have vw:ag [V.aa] 0 [y]=[y]:=rfl
    obtain⟨v',h',w',j1,j2,j3,j4⟩:=ik.push (N0:=n2) (x:=.slice n3 0 1 (some 1) 1) (w:=W) ((hQ.ae k3).ae kD) (hy.ae kD) (by omega) (by simp[eC,St.row,aJ]) (by rw[Hd];omega)
    simp(disch:=first|(simp;done)|omega|(simp only[bl,bG,bh];omega)|rfl) [-V.cells, -V.one,hf,jy,vw,f1,f2,Cc,j1]
    refine⟨i,by omega,by rw[j2];exact hW,((hK.trans k3).trans kD).then j3,k+1,by omega,by simp,by rw[Zsj];exact j4⟩
  ·rintro _ r ⟨H,n,W⟩ hr ⟨rfl,hW,hK,v,eM,hQ⟩
   simp only at hW hK hQ
   have Ki:=(k1.trans k2).trans hK
   simp[hr,eM]
   refine ax (Yfb hQ.ES (by rw[Hd];omega) Ydm (by have:=hO.s6;omega)) ?_
   rintro y H4 n4 k4 hy
   simp
   refine ax (Yfc hy.ES ((hP.ae Ki).ae k4) (by show (AS l s z).length<_;rw[Zv7];have:=hO.s6;omega) (fun r hr=>by have:=Ycf r hr;omega) (Ycg hO) (by decide)) ?_
   rintro x H5 n5 k5 hx
   have ic:=(Ki.trans k4).trans k5
   have nw:=(k1.trans k2).le
   have hw:ad N W=[]:=B1 fun j hj=>by have:=ET hW j hj;omega
   rcases hx with⟨a,rfl⟩|⟨a,v',rfl,t⟩
   ·simp[aA,ic]
    exact⟨hw,.aa,4,⟨rfl,rfl⟩,.inr ⟨rfl,.inl ⟨a,rfl,rfl⟩⟩⟩
   ·simp[aA,ic]
    exact⟨hw,v',0,⟨rfl,rfl⟩,.inr ⟨rfl,.inr ⟨a,rfl,t⟩⟩⟩
 ·simp[hE,aA,k1]
  exact⟨.aa,_,⟨rfl,rfl⟩,.inl ⟨hE,rfl,rfl⟩⟩
variable {N:Nat} {d l r:List Rat} {h:T O} {v:V}
set_option maxHeartbeats 4000000
def A.sY:aq:=sr [bi 40 .lss 39 38]
 (.seq (cd 40
 (.skip)
 (.exit 2))
 (.seq (.block 3 (sr [ia 41 1 37 39,ld 42 41,mv 15 42]
 (sr [mv 43 15,mv 44 12,⟨(some 45),.call (.const (.func 89 [] [])) [(.tmp 43),(.tmp 44),(.const (.func 119 [] []))],none⟩,mv 16 45]
 (.aV [lN 46 4 13,mv 47 16,mv 48 16,c2 49 88 47 48,c2 50 120 46 49,⟨none,.store 4 (.tmp 13) (.tmp 50),none⟩] [0,0,0,6,15,31]))))
 (.aM [bc 51 .add 39 1,mv 39 51])))
def A.sZ:aq:=sr [bi 28 .lss 27 26]
 (.seq (cd 28
 (.skip)
 (.exit 0))
 (.seq (.block 1 (sr [mv 29 27,mv 11 29]
 (sr [mv 30 9,mv 31 11,⟨(some 32),.lookup (.int .i64) .aa (.tmp 30) (.tmp 31) false,none⟩,c1 33 116 32,⟨(some 34),.call (.const (.func 118 [] [])) [(.const (.int .i64 0))],none⟩,⟨(some 13),.alloc [(.int .i64 0),.aa,(.int .i64 0),.aa] 114,none⟩,mv 12 33,⟨none,.store 4 (.tmp 13) (.tmp 34),none⟩]
 (.seq (sr [mv 35 9,mv 36 11,⟨(some 37),.lookup (.int .i64) .aa (.tmp 35) (.tmp 36) false,none⟩,ln 38 37,mc 39 0]
 (.block 2 (.loop A.sY)))
 (.aM [mv 52 10,lN 53 4 13,⟨(some 54),.aO 114 4 1 [(.int .i64 0),.aa,(.int .i64 0),.aa] [(0,4,(.tmp 53))],none⟩,⟨(some 55),.append 4 64 114 [(.int .i64 0),.aa,(.int .i64 0),.aa] (.tmp 52) (.tmp 54),none⟩,mv 10 55])))))
 (.aM [bc 56 .add 27 1,mv 27 56])))
def A.b38:aq:=sr [mN 6,mc 7 0]
 (.seq (sr [mv 17 0,mv 18 1,mv 19 2,⟨(some 20),.call (.const (.func 114 [] [])) [(.tmp 17),(.tmp 18),(.tmp 19)],none⟩,mv 8 20]
 (sr [mv 21 8,ni 22 21 0]
 (cd 22
 (sr [mv 23 8,mN 6,mv 7 23]
 (.ret))
 (.skip))))
 (sr [mv 24 0,c1 25 115 24,mv 9 25]
 (sr [mN 10]
 (.seq (sr [mv 26 2,mc 27 0]
 (.block 0 (.loop A.sZ)))
 (sr [mv 57 10,c1 58 69 57,xt 59 58 0,xt 60 58 1,mv 6 59,mv 7 60]
 (.ret))))))
theorem A.c38:A.F 38=some ⟨61,[.tmp 6,.tmp 7],A.b38⟩:=by kernel_rfl
def A.k38:=@A.kk 38 _ _ _ A.c38 rfl
def uI(N0:Nat)(h:T O)(N:Nat)(v:V)(l:List Rat):Prop:=∃cs:List (List V),Own 4 114 N0 h N v cs/\(cs=[]->v=.aa)/\cs.length=l.length/\∀(j:Nat) (q:Rat),l[j]?=some q->∃c,cs[j]?=some c/\eG h N c q
theorem uI.nil{N0:Nat}:uI N0 h N .aa []:=⟨[],Own.nil,fun _=>rfl,rfl,fun j l hl=>by simp at hl⟩
theorem uI.ae{N0:Nat}{h':T O}{N':Nat}(s:uI N0 h N v l)(k:ab h N h' N'):uI N0 h' N' v l:=by
 obtain⟨cs,h1,h2,h3,h4⟩:=s
 refine⟨cs,h1.ae k,h2,h3,fun j q hq=>?_⟩
 obtain⟨c,g1,g2⟩:=h4 j q hq
 exact⟨c,g1,g2.ae k⟩
theorem uI.frs{N0:Nat}(s:uI N0 h N v l):nW h N v l:=by
 obtain⟨cs,h1,h2,h3,h4⟩:=s
 exact⟨cs,h1.sn,h3,h4⟩
theorem uI.push{N0:Nat}{x:V}{c:List V}{q:Rat}{w:List Nat}(s:uI N0 h N v l)(hc:eG h N c q)(hN:N0<=N)(hx:eC ⟨h,N,w⟩ 4 x=some (1,c))(hl:l.length<100000):
  ∃v' h' w',jQ ⟨h,N,w⟩ 4 64 114 v x=some (v',⟨h',N+1,w'⟩)/\ad N0 w'=ad N0 w/\ab h N0 h' (N+1)/\uI N0 h' (N+1) v' (l++[q]):=by
 obtain⟨cs,h1,h2,h3,h4⟩:=s
 obtain⟨v',h',w',f1,f2,f3,f4,fD,f5⟩:=zy (Y:=NW) (x:=c) (u:=x) (bytes:=64) (w:=w) h1 h2 (fun c hc y hy=>by
  obtain⟨j,hj⟩:=zC hc
  obtain⟨r,hr⟩:=bV (l:=l) (k:=j) (by have:=mM hj;omega)
  obtain⟨c',g1,g2⟩:=h4 j r hr
  rw[hj]at g1
  obtain rfl:c=c':=by simpa using g1
  exact g2.EI y hy) hN (by decide) hc.len.1 hx (by omega)
 refine⟨v',h',w',f1,f2,f3,cs++[c],f5,by simp,by simp[h3],fun j r hr=>?_⟩
 by_cases hj:j<l.length
 ·rw[lX hj]at hr
  obtain⟨c',g1,g2⟩:=h4 j r hr
  exact⟨c',by rw[lX (by omega)];exact g1,g2.bY f4 fD⟩
 ·rw[pX (by omega)]at hr
  cases hd:j-l.length with
  |zero=>
   rw[hd]at hr
   simp at hr
   subst hr
   exact⟨c,by rw[pX (by omega),h3,hd];rfl,hc.bY f4 fD⟩
  |succ d=>rw[hd]at hr;simp at hr
def s_(r d:List Rat):List Rat:=jl (fun x y=>x-y) r d r.length
def q9(m:List (List Rat))(d:List Rat):Rat:=m.foldl (fun a r=>a+AO (s_ r d) (s_ r d)) 0
def rF(l:List Pk)(S Z:Nat):List Rat:=(List.range Z).map fun k:Nat=>q9 (cO l (k:Int)) (j9 (cO l (k:Int)) S)
theorem Zq4{l:List Pk}{S k:Nat}:rF l S (k+1)=rF l S k++[q9 (cO l (k:Int)) (j9 (cO l (k:Int)) S)]:=by simp[rF,List.range_succ]
theorem NX{l:List Pk}{S Z:Nat}:(rF l S Z).length=Z:=by simp[rF]
theorem Zvh{m:List (List Rat)}:q9 (m++[r]) d=q9 m d+AO (s_ r d) (s_ r d):=by simp[q9]
theorem Kj:(s_ r d).length=r.length:=A7
theorem NY{j k:Nat}(hr:∀q∈r,Qb j q)(hd:∀q∈d,Qb k q)(hj:1<=j)(hk:1<=k):∀q∈s_ r d,Qb (j+k+1) q:=fun q hq=>by
 unfold s_ jl at hq
 obtain⟨i,_,rfl⟩:=iy.1 hq
 exact(EK hr hj i).sub (EK hd hk i)
theorem Zwd{d:List Rat}:∀{m:List (List Rat)} {a:Rat} {j K:Nat},Qb j a->(∀r∈m,Qb K (AO (s_ r d) (s_ r d)))->1<=j->1<=K->Qb (j+m.length*(K+1)) (m.foldl (fun a r=>a+AO (s_ r d) (s_ r d)) a)
 |[],a,j,K,ha,_,_,_=>by simpa using ha
 |r::t,a,j,K,ha,hm,hj,hK=>by
  rw[List.foldl_cons]
  have:=Zwd (ha.add (hm r jk)) (fun x hx=>hm x (iz _ hx)) (by omega) hK
  have e:j+K+1+t.length*(K+1)=j+(r::t).length*(K+1):=by rw[bh,iE,Nat.one_mul];omega
  rw[<-e]
  exact this
theorem U4{m:List (List Rat)}{s:Nat}(hc:pT m s)(hs:s<=6)(hm:jF m 192)(hd:∀q∈d,Qb 2400 q):Qb (1+m.length*31124) (q9 m d):=Zwd (j:=1) (K:=31123) Qb.zero (fun r hr=>(UW (j:=2593) (k:=2593) (n:=6) (NY (hm r hr) hd (by decide) (by decide)) (NY (hm r hr) hd (by decide) (by decide)) (by decide) (by decide) (by rw[Kj,hc r hr];exact hs)).mono (by decide)) (by decide) (by decide)
theorem Yaf{l:List Pk}{s z:Nat}(h:Hb l s z):∀q∈rF l s z,Qb 400000000 q:=fun q hq=>by
 unfold rF at hq
 obtain⟨k,hk,rfl⟩:=iy.1 hq
 obtain⟨rc,rq⟩:=He (l:=l) (S:=s) (Z:=z) (k:=(k:Int)) h.ok
 have hl:=AR (l:=l) (k:=(k:Int))
 have:=h.Hc
 exact(U4 rc h.s6 rq (NU h (zB.1 hk))).mono (by omega)
theorem Yrk{H:T O}{n:Nat}{c:List V}{e:TypeId}{rw:Bool}{w:List Nat}(h:c.length=4):eC ⟨H.set n (.cells c e rw),n+1,w⟩ 4 (.slice n 0 1 (some 1) 4)=some (1,c):=by
 simp only[eC,St.row,T.ai,if_true]
 unfold aJ
 simp[h]
 exact eF (by omega)
theorem Yjn{l:List Pk}{S Z:Int}(hs:nY h N v l)(hP:jm h N)(pc:wB l=true):Fn A.C 38 [v,.int .i64 S,.int .i64 Z] h N (fun x h' n'=>∃v c,x=.aZ [v,.int .i64 c]/\TP (sV l S Z) (rF l S.toNat Z.toNat) v c h' n'):=by
 intro w
 obtain⟨b1,b2⟩:=NS pc
 rw[aR,A.k38 (by simp)]
 simp[A.b38]
 refine ax (Zka hs (by omega) fun p hp=>⟨by have:=(b2 p hp).1;omega,(G8 (b2 p hp).2).1,(G8 (b2 p hp).2).2⟩) ?_
 rintro _ H1 n1 k1 rfl
 by_cases hE:sV l S Z=0
 ·obtain⟨e1,e2,hO⟩:=U0 pc hE
  rw[hE]
  generalize S.toNat=s at*
  generalize Z.toNat=z at*
  subst e1 e2
  have yc:=hO.CG
  have EU:=hO.s6
  simp
  refine ax (Zk5 (hs.ae k1) b1 hO.ok (by omega)) ?_
  rintro _ H2 n2 k2 ⟨ks,rfl,hM⟩
  simp[]
  refine bQ [(10,13),(15,16),(27,56)] (fun e r st=>e=.exit 0/\ad n2 st.w=[]/\ab H2 n2 st.h st.n/\∃v,r.get 10=some v/\uI n2 st.h st.n v (rF l s z)) (fun i r st=>ad n2 st.w=[]/\ab H2 n2 st.h st.n/\∃k v,k+i=z/\r.get 27=some (.int .i64 (k:Nat))/\r.get 10=some v/\uI n2 st.h st.n v (rF l s k)) z ?_ ?_ ?_
  ·exact⟨by simp,ab.refl,0,_,by omega,by simp,by simp,uI.nil⟩
  ·rintro i r ⟨H,n,W⟩ hr hf ⟨hW,hK,k,v,hk,EM,eM,hQ⟩
   simp only at hW hK hQ
   rw[bA]
   have ln:=hK.le
   cases i with
   |zero=>
    obtain rfl:k=z:=by omega
    simp[A.sZ,hr,hf,EM,eM,hW,hK]
    exact hQ
   |succ i=>
    have aD:k<z:=by omega
    have bm:(k:Int)<(z:Int):=by omega
    have AT:=hM.ae hK
    have jG:=fun w=>NV (n:=n) (w:=w) (a:=(k:Int)) AT.map
    have xO:=AR (l:=l) (k:=(k:Int))
    have ER:=hO.Hc
    obtain⟨rc,rq⟩:=He (l:=l) (S:=s) (Z:=z) (k:=(k:Int)) hO.ok
    simp[A.sZ,hr,EM,bm,jG]
    refine ax (Ybv (AT.yb (k:Int)).ES (hO.ne k aD) (by omega) rc (by omega) (by decide) rq (by omega)) ?_
    rintro y H3 n3 k3 hy
    have zp:=k3.le
    simp[]
    refine ax (NH (by decide) (by decide)) ?_
    rintro _ H4 n4 k4 hz
    have Kk:=k4.le
    obtain⟨c,rfl,hc⟩:=hz.c
    obtain⟨c1,c2⟩:=hc.len
    have jP:∀c:List V,(V.agg c).cells=c:=fun _=>rfl
    have e4:=Kl c1
    simp[-V.cells, -V.one,hr,jP,c1,c2,e4,bW]
    generalize hG:(H4.set n4 (.cells [.int .i64 0,.aa,.int .i64 0,.aa] 114 true)).set n4 (.cells c 114 true)=G
    have kA:ab H4 n4 G (n4+1):=by rw[<-hG];exact(ab.refl.new _).set (aS _)
    have gA:G.get n4=some (.cells c 114 true):=by rw[<-hG,T.ai,aF rfl]
    clear hG
    have hM4:=(AT.ae k3).ae k4
    have hM5:=hM4.ae kA
    have EV:=fun w=>NV (n:=n4+1) (w:=w) (a:=(k:Int)) hM5.map
    have vo:=(hM5.yb (k:Int)).ES.len
    have Ui:=hy.ae k4
    simp[-V.cells, -V.one,EV,vo]
    refine bQ [(15,16),(39,51)] (fun e r1 st=>e=.exit 2/\ad n2 st.w=[]/\ab H4 n4 st.h st.n/\n4<st.n/\∃c,st.h.get n4=some (.cells c 114 true)/\eG st.h st.n c (q9 (cO l (k:Int)) (j9 (cO l (k:Int)) s))) (fun i r1 st=>ad n2 st.w=[]/\ab H4 n4 st.h st.n/\n4<st.n/\∃t c,t+i=(cO l (k:Int)).length/\r1.get 39=some (.int .i64 (t:Nat))/\st.h.get n4=some (.cells c 114 true)/\eG st.h st.n c (q9 ((cO l (k:Int)).take t) (j9 (cO l (k:Int)) s))) (cO l (k:Int)).length ?_ ?_ ?_
    ·refine⟨?_,kA,by show n4<n4+1;omega,0,c,by omega,by simp,gA,hc.ae kA⟩
     have d4:¬n4<n2:=by omega
     show ad n2 (n4::W)=[]
     simp[ad,hW,d4]
    ·rintro i1 r1 ⟨H5,n5,W5⟩ jj nK ⟨vC,nt,Km,t,c5,ht,U5,g5,wD⟩
     simp only at vC nt Km g5 wD
     rw[bA]
     cases i1 with
     |zero=>
      obtain rfl:t=(cO l (k:Int)).length:=by omega
      rw[eF (aS _)]at wD
      simp[A.sY,jj,nK,U5,vC,nt,Km]
      exact⟨c5,g5,wD⟩
     |succ i1=>
      have EW:t<(cO l (k:Int)).length:=by omega
      have yd:(t:Int)<((cO l (k:Int)).length:Int):=by omega
      obtain⟨row,ar⟩:=bV EW
      have ye:=du ar
      obtain⟨i3,o3,cc,e3,w3,x,p1,p2,p3,p4,p5⟩:=NZ ((hM4.yb (k:Int)).ES.ae nt) ar
      have md:=NU hO aD
      have ta:=rc row ye
      have Kn:=rq row ye
      simp[A.sY,jj,U5,yd,vo,p1,p3,p4]
      refine ax (Ycd (fun x y=>x-y) p5.1 (Ui.ae nt).1 (by rw[NT,ta];exact aS _) (fun x hx y hy h' n' ca cb k' ha hb=>?_) (by omega)) ?_
      ·have w1:=(Kn x hx).wE
       have w2:=(md y hy).wE
       exact Ylm ha.fc hb.fc (by omega) (by omega) (by omega) (by omega)
      rintro u H6 n6 k6 hu
      have hu:fK H6 n6 u (s_ row (j9 (cO l (k:Int)) s)):=hu
      have le6:=k6.le
      have g6:=(k6.get n4 Km).trans g5
      have s0:=N6 wD.len.1
      have fq:=NY Kn md (by decide) (by decide)
      simp[-V.cells, -V.one,jj,g6,s0]
      refine ax (Yop hu.1 hu.1 (aS _) fq fq (by decide) (by decide) (by rw[Kj,ta];omega)) ?_
      rintro dv H7 n7 k7 zm
      have le7:=k7.le
      have U6:=U4 (m:=(cO l (k:Int)).take t) (fun r hr=>rc r (rQ hr)) EU (fun r hr=>rq r (rQ hr)) md
      have mE:=UW (n:=6) fq fq (by decide) (by decide) (by rw[Kj,ta];exact EU)
      have w1:=U6.wE
      have w2:=mE.wE
      have T8:((cO l (k:Int)).take t).length<=12:=by rw[fR];omega
      simp[]
      refine ax (NK (((wD.ae k6).ae k7).fc) zm (by omega) (by omega) (by omega) (by omega)) ?_
      rintro _ H8 n8 k8 hs8
      obtain⟨c8,rfl,hc8⟩:=hs8.c
      obtain⟨f1,f2⟩:=hc8.len
      have le8:=k8.le
      have g8:=(k8.get n4 (by omega)).trans ((k7.get n4 (by omega)).trans g6)
      have f3:=wD.len.1
      have e5:ag c5 0 c8=c8:=by unfold ag;rw[f1];simp[f3]
      have d2:n4<n8:=by omega
      have d3:n4<n6:=by omega
      simp[-V.cells, -V.one,jj,jP,f1,f2,f3,e5,g8,bW]
      refine(DM (by simp[-ad,d3,d2])).2 ?_
      simp(disch:=first|(simp;done)|omega|(simp only[bl,bG,bh];omega)|rfl) [nK,U5,d2]
      have d4:¬n4<n2:=by omega
      refine⟨i1,by omega,by simp[vC,d4],(((nt.trans k6).trans k7).trans k8).set (aS _),t+1,by omega,by simp,?_⟩
      rw[pV,ar]
      show eG _ _ _ (q9 ((cO l (k:Int)).take t++[row]) _)
      rw[Zvh]
      exact hc8.aE g8 wD.EI (by rw[f1,f3])
    ·rintro _ r1 ⟨H5,n5,W5⟩ jj ⟨rfl,vC,nt,Km,c5,g5,wD⟩
     simp only at vC nt Km g5 wD
     have s0:=N6 wD.len.1
     obtain⟨f1,f2⟩:=wD.len
     have e5:=Kl f1
     have kD:ab H5 n5 (H5.set n5 (.cells c5 114 true)) (n5+1):=ab.refl.new _
     have kF:=(hK.trans k3).trans (k4.trans nt)
     have U7:=nt.le
     obtain⟨v',h',w',j1,j2,j3,j4⟩:=uI.push (N0:=n2) (x:=.slice n5 0 1 (some 1) 4) (w:=W5) ((hQ.ae (k3.trans (k4.trans nt))).ae kD) (wD.ae kD) (by omega) (Yrk f1) (by rw[NX];omega)
     have zq:=hf.inner (D':=[(15,16),(39,51)]) rfl (by simp) jj
     simp(disch:=first|(simp;done)|omega|(simp only[bl,bG,bh];omega)|rfl) [-V.cells, -V.one,jj,zq,EM,eM,jP,g5,s0,f1,f2,e5,Cc,j1]
     refine⟨i,by omega,by rw[j2];exact vC,(kF.trans kD).then j3,k+1,by omega,by simp,by rw[Zq4];exact j4⟩
  ·rintro _ r ⟨H,n,W⟩ hr ⟨rfl,hW,hK,v,eM,hQ⟩
   simp only at hW hK hQ
   have Ki:=(k1.trans k2).trans hK
   simp[eM]
   refine ax (Yjd hQ.frs (hP.ae Ki) (by rw[NX];omega) (Yaf hO) (aS _)) ?_
   rintro x H5 n5 k5 hx
   have ic:=Ki.trans k5
   have nw:=(k1.trans k2).le
   have hw:ad N W=[]:=B1 fun j hj=>by have:=ET hW j hj;omega
   rcases hx with⟨a,rfl⟩|⟨a,v',rfl,t⟩
   ·simp[aA,ic]
    exact⟨hw,.aa,4,⟨rfl,rfl⟩,.inr ⟨rfl,.inl ⟨a,rfl,rfl⟩⟩⟩
   ·simp[aA,ic]
    exact⟨hw,v',0,⟨rfl,rfl⟩,.inr ⟨rfl,.inr ⟨a,rfl,t⟩⟩⟩
 ·simp[hE,aA,k1]
  exact⟨.aa,_,⟨rfl,rfl⟩,.inl ⟨hE,rfl,rfl⟩⟩
set_option maxHeartbeats 4000000
def A.tc:aq:=.seq (sr [mv 9 8,mv 10 2,bi 11 .lss 9 10]
 (cd 11
 (.skip)
 (.exit 0)))
 (.seq (.block 1 (.aM [mv 14 7,mv 15 0,mv 16 8,c2 17 123 15 16,c1 18 122 17,⟨(some 19),.aO 23 1 1 [.aa] [(0,1,(.tmp 18))],none⟩,⟨(some 20),.append 1 24 23 [.aa] (.tmp 14) (.tmp 19),none⟩,mv 7 20]))
 (.aM [mv 12 8,bc 13 .add 12 1,mv 8 13]))
def A.b41:aq:=sr [mN 6]
 (sr [mN 7]
 (.seq (sr [mc 8 0]
 (.block 0 (.loop A.tc)))
 (sr [mv 21 7,c1 22 19 21,mv 6 22]
 (.ret))))
theorem A.c41:A.F 41=some ⟨23,[.tmp 6],A.b41⟩:=by kernel_rfl
def A.k41:=@A.kk 41 _ _ _ A.c41 rfl
def A.td:aq:=.seq (sr [mv 19 9,mv 20 7,ln 21 20,bi 22 .lss 19 21]
 (cd 22
 (.skip)
 (.exit 2)))
 (.seq (.block 3 (.seq (.aV [mv 25 7,mv 26 9,ia 27 1 25 26,ld 28 27,mv 29 7,c1 30 122 29,⟨(some 31),.call (.const (.func 113 [] [])) [(.tmp 30),(.const (.str [45,49]))],none⟩,c2 32 112 28 31,mv 10 32] [0,0,3,7,0,16,48,127,255])
 (.aM [mv 33 8,mv 34 10,mv 35 10,c2 36 20 34 35,c2 37 95 33 36,mv 8 37])))
 (.aM [mv 23 9,bc 24 .add 23 1,mv 9 24]))
def A.tf:aq:=.seq (sr [mv 11 6,mv 12 1,bi 13 .lss 11 12]
 (cd 13
 (.skip)
 (.exit 0)))
 (.seq (.block 1 (sr [mv 16 0,mv 17 6,c2 18 123 16 17,mv 7 18]
 (sr [⟨(some 8),.aY (.const (.str [48])),none⟩]
 (.seq (sr [mc 9 0]
 (.block 2 (.loop A.td)))
 (.aM [mv 38 5,mv 39 8,⟨(some 40),.aO 36 1 1 [(.str [])] [(0,1,(.tmp 39))],none⟩,⟨(some 41),.append 1 16 36 [(.str [])] (.tmp 38) (.tmp 40),none⟩,mv 5 41])))))
 (.aM [mv 14 6,bc 15 .add 14 1,mv 6 15]))
def A.b42:aq:=sr [mN 4]
 (sr [mN 5]
 (.seq (sr [mc 6 0]
 (.block 0 (.loop A.tf)))
 (sr [mv 42 5,mv 4 42]
 (.ret))))
theorem A.c42:A.F 42=some ⟨43,[.tmp 4],A.b42⟩:=by kernel_rfl
def A.k42:=@A.kk 42 _ _ _ A.c42 rfl
theorem Yjx{h:T O}{N:Nat}{v:V}{l:List Pk}{s z:Nat}(hs:nY h N v l)(hO:Hb l s z):Fn A.C 41 [v,.int .i64 s,.int .i64 z] h N (fun x h' n'=>mJ h' n' x (AS l s z)):=by
 intro w
 have yc:=hO.CG
 have EU:=hO.s6
 have ER:=hO.Hc
 rw[aR,A.k41 (by simp)]
 simp[A.b41]
 refine bQ [(7,20)] (fun e r st=>e=.exit 0/\ad N st.w=[]/\ab h N st.h st.n/\∃v,r.get 7=some v/\jA N st.h st.n v (wC l s z)) (fun i r st=>ad N st.w=[]/\ab h N st.h st.n/\∃k v,k+i=z/\r.get 8=some (.int .i64 (k:Nat))/\r.get 7=some v/\jA N st.h st.n v (wC l s k)) z ?_ ?_ ?_
 ·exact⟨by simp,ab.refl,0,_,by omega,by simp,by simp,jA.nil⟩
 ·rintro i r ⟨H,n,W⟩ hr hf ⟨hW,hK,k,v,hk,h8,h7,hQ⟩
  simp only at hW hK hQ
  rw[bA]
  have ln:=hK.le
  cases i with
  |zero=>
   obtain rfl:k=z:=by omega
   simp[A.tc,hr,hf,h8,h7,hW,hK]
   exact hQ
  |succ i=>
   have aD:k<z:=by omega
   have bm:(k:Int)<(z:Int):=by omega
   have xO:=AR (l:=l) (k:=(k:Int))
   obtain⟨rc,rq⟩:=He (l:=l) (S:=s) (Z:=z) (k:=(k:Int)) hO.ok
   simp[A.tc,hr,h8,h7,bm]
   refine ax (Zvj (hs.ae hK) (by omega) hO.ok (by omega)) ?_
   rintro x H3 n3 k3 hx
   simp[]
   refine ax (Zvk hx.zv (hO.ne k aD) (by omega) rc hO.s1 (by omega) (by decide) rq (by omega)) ?_
   rintro y H4 n4 k4 hy
   have zp:=k3.le
   have Kk:=k4.le
   have oz:V.one y=true/\V.cells y=[y]:=⟨Sl.CM hy.1,Sl.rL hy.1⟩
   have kD:ab H4 n4 (H4.set n4 (.cells [y] 23 true)) (n4+1):=ab.refl.new _
   have vw:ag [V.aa] 0 [y]=[y]:=rfl
   obtain⟨v',h',w',j1,j2,j3,j4⟩:=jA.push (N0:=N) (x:=.slice n4 0 1 (some 1) 1) (w:=W) (((hQ.ae k3).ae k4).ae kD) (pW.ae hy kD) (by omega) (by simp[eC,St.row,aJ]) (by rw[Hd];omega)
   simp(disch:=first|(simp;done)|omega|(simp only[bl,bG,bh];omega)|rfl) [-V.cells, -V.one,hf,h8,oz.1,oz.2,vw,Cc,j1]
   exact⟨i,by omega,by rw[j2];exact hW,(((hK.trans k3).trans k4).trans kD).then j3,k+1,by omega,by simp,by rw[Zsj];exact j4⟩
 ·rintro _ r ⟨H,n,W⟩ hr ⟨rfl,hW,hK,v,h7,hQ⟩
  simp only at hW hK hQ
  simp[h7]
  refine ax (Ye7 hQ.zv Ydm (by rw[Hd];omega) (by omega) (by rw[Hd];exact hO.z1)) ?_
  rintro x H5 n5 k5 hx
  simp[aA,hW]
  exact⟨hK.trans k5,hx.zv⟩
theorem Yjv{h:T O}{N:Nat}{v:V}{l:List Pk}{s z:Nat}(hs:nY h N v l)(hO:Hb l s z):Fn A.C 42 [v,.int .i64 z] h N (fun x h' n'=>Tx h' n' x (rF l s z)):=by
 intro w
 have yc:=hO.CG
 have EU:=hO.s6
 have ER:=hO.Hc
 rw[aR,A.k42 (by simp)]
 simp[A.b42]
 refine bQ [(5,41)] (fun e r st=>e=.exit 0/\ad N st.w=[]/\ab h N st.h st.n/\∃v,r.get 5=some v/\Own 1 36 N st.h st.n v ((tx (rF l s z)).map fun y=>[y])) (fun i r st=>ad N st.w=[]/\ab h N st.h st.n/\∃k v,k+i=z/\r.get 6=some (.int .i64 (k:Nat))/\r.get 5=some v/\Own 1 36 N st.h st.n v ((tx (rF l s k)).map fun y=>[y])) z ?_ ?_ ?_
 ·exact⟨by simp,ab.refl,0,.aa,by omega,by simp,by simp,by simpa[rF,tx,strs]using Own.nil⟩
 ·rintro i r ⟨H,n,W⟩ hr hf ⟨hW,hK,k,v,hk,h6,h5,hQ⟩
  simp only at hW hK hQ
  rw[bA]
  have ln:=hK.le
  cases i with
  |zero=>
   obtain rfl:k=z:=by omega
   simp[A.tf,hr,hf,h6,h5,hW,hK]
   exact hQ
  |succ i=>
   have aD:k<z:=by omega
   have bm:(k:Int)<(z:Int):=by omega
   have xO:=AR (l:=l) (k:=(k:Int))
   obtain⟨rc,rq⟩:=He (l:=l) (S:=s) (Z:=z) (k:=(k:Int)) hO.ok
   have md:=NU hO aD
   simp[A.tf,hr,h6,bm]
   refine ax (Zvj (hs.ae hK) (by omega) hO.ok (by omega)) ?_
   rintro x H3 n3 k3 hx
   have hx:=hx.zv
   have lx:=hx.len
   have zp:=k3.le
   simp[]
   refine bQ [(8,10),(19,37)] (fun e r1 st=>e=.exit 2/\ad N st.w=[]/\ab H3 n3 st.h st.n/\r1.get 8=some (.str (aW (q9 (cO l (k:Int)) (j9 (cO l (k:Int)) s))))) (fun i r1 st=>ad N st.w=[]/\ab H3 n3 st.h st.n/\∃t,t+i=(cO l (k:Int)).length/\r1.get 9=some (.int .i64 (t:Nat))/\r1.get 8=some (.str (aW (q9 ((cO l (k:Int)).take t) (j9 (cO l (k:Int)) s))))) (cO l (k:Int)).length ?_ ?_ ?_
   ·exact⟨hW,ab.refl,0,by omega,by simp,by simp[q9,NP]⟩
   ·rintro i1 r1 ⟨H5,n5,W5⟩ jj nK ⟨vC,nt,t,ht,h9,h8⟩
    simp only at vC nt
    rw[bA]
    cases i1 with
    |zero=>
     obtain rfl:t=(cO l (k:Int)).length:=by omega
     rw[eF (aS _)]at h8
     simp[A.td,jj,nK,h9,h8,lx,vC,nt]
    |succ i1=>
     have EW:t<(cO l (k:Int)).length:=by omega
     have yd:(t:Int)<((cO l (k:Int)).length:Int):=by omega
     obtain⟨row,ar⟩:=bV EW
     have ye:=du ar
     obtain⟨i3,o3,cc,e3,w3,y,p1,p2,p3,p4,p5⟩:=(hx.ae nt).at ar
     have ta:=rc row ye
     have Kn:=rq row ye
     simp[A.td,jj,h9,yd,lx,p1,p2,p3,p4]
     refine ax (Zvk (hx.ae nt) (hO.ne k aD) (by omega) rc hO.s1 (by omega) (by decide) rq (by omega)) ?_
     rintro a H6 n6 k6 ha
     simp[<-Ynf]
     refine ax (QR (k:=1) ha.1 md ⟨by decide,by decide⟩ (by decide) (by decide) (by rw[NT];omega)) ?_
     rintro b H7 n7 k7 ob
     have hb:=(EX ob).1
     simp[]
     refine ax (Wu (k:=2400) ((p5.ae k6).ae k7) hb (by rw[oa,NT,ta];exact aS _) Kn (fun q hq=>?_) (by decide) (by decide) (by omega)) ?_
     ·obtain⟨q',wy,rfl⟩:=iy.1 hq
      rw[Rat.mul_neg,Rat.mul_one]
      exact Ynq (md q' wy)
     rintro d H8 n8 k8 od
     have hd:=(EX od).1
     rw[Ykm]at hd
     have hd:Tx H8 n8 d (s_ row (j9 (cO l (k:Int)) s)):=hd
     have fq:=NY Kn md (by decide) (by decide)
     simp[h8]
     refine ax (Yj1 hd hd (aS _) fq fq (by decide) (by decide) (by rw[Kj,ta];omega)) ?_
     rintro _ H9 n9 k9 rfl
     have U6:=U4 (m:=(cO l (k:Int)).take t) (fun r hr=>rc r (rQ hr)) EU (fun r hr=>rq r (rQ hr)) md
     have mE:=UW (n:=6) fq fq (by decide) (by decide) (by rw[Kj,ta];exact EU)
     have T8:((cO l (k:Int)).take t).length<=12:=by rw[fR];omega
     simp[]
     refine ax (QT U6 mE (by omega) (by omega)) ?_
     rintro _ H10 n10 k10 rfl
     have e8:q9 ((cO l (k:Int)).take (t+1)) (j9 (cO l (k:Int)) s)=q9 ((cO l (k:Int)).take t) (j9 (cO l (k:Int)) s)+AO (s_ row (j9 (cO l (k:Int)) s)) (s_ row (j9 (cO l (k:Int)) s)):=by
      rw[pV,ar]
      exact Zvh
     rw[<-e8]
     simp(disch:=first|(simp;done)|omega|(simp only[bl,bG,bh];omega)|rfl) [nK,h9,vC]
     exact⟨i1,by omega,((((nt.trans k6).trans k7).trans k8).trans k9).trans k10,t+1,by omega,by simp,by simp⟩
   ·rintro _ r1 ⟨H5,n5,W5⟩ jj ⟨rfl,vC,nt,h8⟩
    simp only at vC nt
    have U7:=nt.le
    have kD:ab H5 n5 (H5.set n5 (.cells [.str (aW (q9 (cO l (k:Int)) (j9 (cO l (k:Int)) s)))] 36 true)) (n5+1):=ab.refl.new _
    obtain⟨v',h',w',f1,f2,f3,_,f5⟩:=pU (x:=[.str (aW (q9 (cO l (k:Int)) (j9 (cO l (k:Int)) s)))]) (u:=.slice n5 0 1 (some 1) 1) (bytes:=16) (w:=W5) (((hQ.ae k3).ae nt).ae kD) (by omega) (by decide) rfl (by simp[eC,St.row,aJ]) (by rw[oa,wJ,NX];omega)
    have e7:((tx (rF l s k)).map fun y=>[y])++[[.str (aW (q9 (cO l (k:Int)) (j9 (cO l (k:Int)) s)))]]=(tx (rF l s (k+1))).map fun y=>[y]:=by rw[Zq4];simp[tx,strs]
    rw[e7]at f5
    have zq:=hf.inner (D':=[(8,10),(19,37)]) rfl (by simp) jj
    simp(disch:=first|(simp;done)|omega|(simp only[bl,bG,bh];omega)|rfl) [jj,zq,h6,h5,h8,ag,f1]
    exact⟨i,by omega,by rw[f2];exact vC,(((hK.trans k3).trans nt).trans kD).then f3,k+1,by omega,by simp,f5⟩
 ·rintro _ r ⟨H,n,W⟩ hr ⟨rfl,hW,hK,v,h5,hQ⟩
  simp only at hW hK hQ
  simp[h5,aA,hW,hK]
  exact(EX hQ).1
end Go.Mx
