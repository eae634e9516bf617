/-
  The echelon form of a matrix: plain lists.
-/
import Derived.Test.YtlbophlgohokkaaGreatDoorVcA
set_option linter.all false
namespace Go.Mx
open Go Go.Proofs
variable {k:Nat} {m:List (List Rat)}
set_option maxRecDepth 1000000
def vH(m:List (List Rat))(k:Nat):Nat->Nat->Nat
 |d,0=>d
 |d,n+1=>if (m[d]?.getD [])[k]?.getD 0≠0 then d else vH m k (d+1) n
def A6(m:List (List Rat))(d k:Nat):Nat:=vH m k d (m.length-d)
theorem Wm{m:List (List Rat)}{k:Nat}:∀{n d:Nat},d<=vH m k d n/\vH m k d n<=d+n
 |0,d=>by simp[vH]
 |n+1,d=>by
  unfold vH
  split
  ·omega
  ·have:=@Wm m k n (d+1)
   omega
theorem Wo{m:List (List Rat)}{k:Nat}:∀{n d:Nat},vH m k d n<d+n->(m[vH m k d n]?.getD [])[k]?.getD 0≠0
 |0,d,h=>by simp[vH]at h
 |n+1,d,h=>by
  unfold vH at h ⊢
  split
  ·assumption
  ·rename_i hc
   rw[au hc]at h
   exact Wo (by omega)
def Hs(r p:List Rat)(k:Nat):List Rat:=jl (fun x y=>x-r[k]?.getD 0*y) r p r.length
def wI(m:List (List Rat))(d k t:Nat):List (List Rat):=(List.range m.length).map fun i=>if i<t/\i≠d then Hs (m[i]?.getD []) (m[d]?.getD []) k else m[i]?.getD []
def mZ(m:List (List Rat))(d p:Nat):List (List Rat):=(m.set d (m[p]?.getD [])).set p (m[d]?.getD [])
def tG(m:List (List Rat))(d k:Nat):List (List Rat):=m.set d ((m[d]?.getD []).map fun x=>x/(m[d]?.getD [])[k]?.getD 0)
def Lt(s:List (List Rat)×Nat×List Nat)(k:Nat):List (List Rat)×Nat×List Nat:=
 if A6 s.1 s.2.1 k<s.1.length then (wI (tG (mZ s.1 s.2.1 (A6 s.1 s.2.1 k)) s.2.1 k) s.2.1 k s.1.length,s.2.1+1,s.2.2++[k]) else s
theorem Ylw{d t:Nat}:(wI m d k t).length=m.length:=by simp[wI]
theorem Ylx{d t i:Nat}(h:i<m.length):(wI m d k t)[i]?=some (if i<t/\i≠d then Hs (m[i]?.getD []) (m[d]?.getD []) k else m[i]?.getD []):=by simp[wI,h]
theorem Yen{r p:List Rat}:(Hs r p k).length=r.length:=by unfold Hs;rw[A7]
variable {K d i n:Nat} {m:List (List Rat)}
def pT(m:List (List Rat))(n:Nat):Prop:=∀r∈m,r.length=n
theorem pT.at(h:pT m n)(hi:i<m.length):(m[i]?.getD []).length=n:=by
 rw[dk hi]
 exact h _ (List.getElem_mem hi)
theorem pT.set{r:List Rat}(h:pT m n)(hr:r.length=n):pT (m.set i r) n:=fun x hx=>by
 rcases A8 hx with hx|rfl
 ·exact h x hx
 ·exact hr
theorem pT.Wp{p:Nat}(h:pT m n)(hd:d<m.length)(hp:p<m.length):pT (mZ m d p) n:=(h.set (h.at hp)).set (h.at hd)
theorem pT.scl{k:Nat}(h:pT m n)(hd:d<m.length):pT (tG m d k) n:=h.set (by rw[oa];exact h.at hd)
theorem Lu{p:Nat}:(mZ m d p).length=m.length:=by simp[mZ]
theorem Wq{k:Nat}:(tG m d k).length=m.length:=by simp[tG]
def jF(m:List (List Rat))(K:Nat):Prop:=∀r∈m,∀q∈r,Qb K q
theorem jF.mono{L:Nat}(h:jF m K)(hk:K<=L):jF m L:=fun r hr q hq=>(h r hr q hq).mono hk
theorem jF.at{m:List (List Rat)}{K i:Nat}(h:jF m K):∀q∈m[i]?.getD [],Qb K q:=fun q hq=>by
 cases hr:m[i]? with
 |none=>rw[hr]at hq;simp at hq
 |some r=>rw[hr]at hq;exact h r (du hr) q hq
theorem jF.set{r:List Rat}(h:jF m K)(hr:∀q∈r,Qb K q):jF (m.set i r) K:=fun x hx=>by
 rcases A8 hx with hx|rfl
 ·exact h x hx
 ·exact hr
theorem jF.Wp{p:Nat}(h:jF m K):jF (mZ m d p) K:=(h.set h.at).set h.at
theorem tH.one{h:T O}{N:Nat}{u:V}{m:List (List a_)}(hm:tH h N u m):V.one u=true/\V.cells u=[u]:=by
 obtain⟨us,⟨_,rfl|rfl⟩|⟨i,o,cp,c,e,rw,rfl,_⟩,_⟩:=hm<;>exact⟨rfl,rfl⟩
set_option maxHeartbeats 4000000
set_option maxHeartbeats 4000000
def Wr(e:Int)(q:Rat)(x:V):Prop:=(e≠0/\x=.aZ [.str [],.int .i64 e])\/(e=0/\((vJ q=true/\x=.aZ [.str [],.int .i64 4])\/(vJ q=false/\x=.aZ [.str (aW q),.int .i64 0])))
set_option maxHeartbeats 2000000
def A.CH:aq:=sr [bi 61 .lss 60 59]
 (.seq (cd 61
 (.skip)
 (.exit 2))
 (.seq (.block 3 (sr [mv 62 60,ia 63 1 58 60,ld 64 63,mv 11 62,mv 12 64]
 (sr [mv 65 1,mv 66 11,c2 67 108 65 66,⟨(some 68),.un .not (.tmp 67),none⟩]
 (cd 68
 (.aM [mv 69 10,mv 70 12,c1 71 109 70,⟨(some 72),.aO 23 1 1 [.aa] [(0,1,(.tmp 71))],none⟩,⟨(some 73),.append 1 24 23 [.aa] (.tmp 69) (.tmp 72),none⟩,mv 10 73])
 (.skip)))))
 (.aM [bc 74 .add 60 1,mv 60 74])))
def A.CI:aq:=sr [bi 21 .lss 20 19]
 (.seq (cd 21
 (.skip)
 (.exit 0))
 (.seq (.block 1 (sr [mv 22 20,ia 23 1 18 20,ld 24 23,mv 7 22,mv 8 24]
 (sr [mv 25 8,bc 26 .lss 25 0,mv 27 26,mh 28 8 27,mh 29 0 27,⟨(some 30),.len 1 (.tmp 29),(some (27,false))⟩,⟨(some 31),.bin .geq (.node []) false (.tmp 28) (.tmp 30),(some (27,false))⟩,pt 32 27 31,⟨(some 33),.call (.const (.func 75 [] [])) [(.tmp 32),(.const (.int .i64 10))],none⟩,mv 34 7,bc 35 .gtr 34 0,mv 36 35,mg 37 8 36,mg 38 1 36,mg 39 7 36,⟨(some 40),.bin .sub (.node []) false (.tmp 39) (.const (.int .i64 1)),(some (36,true))⟩,⟨(some 41),.mx [(.const (.int .i64 0)),(.tmp 40)],(some (36,true))⟩,⟨(some 42),.aN 1 (.tmp 38) (.tmp 41),(some (36,true))⟩,⟨(some 43),.load none (.tmp 42),(some (36,true))⟩,⟨(some 44),.bin .leq (.node []) false (.tmp 37) (.tmp 43),(some (36,true))⟩,pf 45 36 44,⟨(some 46),.call (.const (.func 75 [] [])) [(.tmp 45),(.const (.int .i64 11))],none⟩,⟨(some 47),.aO 27 1 2 [(.int .i64 0),(.int .i64 0)] [(0,1,(.tmp 33)),(1,1,(.tmp 46))],none⟩,c1 48 74 47,mv 9 48]
 (sr [mv 49 9,ni 50 49 0]
 (cd 50
 (sr [mv 51 9,mN 4,mv 5 51]
 (.ret))
 (.skip))))))
 (.aM [bc 52 .add 20 1,mv 20 52])))
def A.b26:aq:=sr [mN 4,mc 5 0]
 (.seq (sr [mv 13 0,c1 14 47 13,mv 6 14]
 (sr [mv 15 6,ni 16 15 0]
 (cd 16
 (sr [mv 17 6,mN 4,mv 5 17]
 (.ret))
 (.skip))))
 (.seq (sr [mv 18 1,ln 19 18,mc 20 0]
 (.block 0 (.loop A.CI)))
 (.seq (sr [mv 53 1,ln 54 53,mv 55 0,ln 56 55,⟨(some 57),.bin .eql (.aI .int) false (.tmp 54) (.tmp 56),none⟩]
 (cd 57
 (sr [mN 4,mc 5 12]
 (.ret))
 (.skip)))
 (sr [mN 10]
 (.seq (sr [mv 58 0,ln 59 58,mc 60 0]
 (.block 2 (.loop A.CH)))
 (sr [mv 75 10,mv 4 75,mc 5 0]
 (.ret)))))))
theorem A.c26:A.F 26=some ⟨76,[.tmp 4,.tmp 5],A.b26⟩:=by kernel_rfl
def A.k26:=@A.kk 26 _ _ _ A.c26 rfl
variable {a b:List Rat}
def A.oc:aq:=.seq (sr [mv 7 6,mv 8 0,ln 9 8,bi 10 .lss 7 9]
 (cd 10
 (.skip)
 (.exit 0)))
 (.seq (.block 1 (.aV [mv 13 5,mv 14 0,mv 15 6,ia 16 1 14 15,ld 17 16,mv 18 1,mv 19 6,ia 20 1 18 19,ld 21 20,c2 22 95 17 21,⟨(some 23),.aO 36 1 1 [(.str [])] [(0,1,(.tmp 22))],none⟩,⟨(some 24),.append 1 16 36 [(.str [])] (.tmp 13) (.tmp 23),none⟩,mv 5 24] [0,0,0,6,14,0,0,96,224,510,1022,2047,4095]))
 (.aM [mv 11 6,bc 12 .add 11 1,mv 6 12]))
def A.b112:aq:=sr [mN 4]
 (sr [mN 5]
 (.seq (sr [mc 6 0]
 (.block 0 (.loop A.oc)))
 (sr [mv 25 5,mv 4 25]
 (.ret))))
theorem A.c112:A.F 112=some ⟨26,[.tmp 4],A.b112⟩:=by kernel_rfl
def A.k112:=@A.kk 112 _ _ _ A.c112 rfl
def A.oe:aq:=.seq (sr [mv 7 6,mv 8 0,ln 9 8,bi 10 .lss 7 9]
 (cd 10
 (.skip)
 (.exit 0)))
 (.seq (.block 1 (.aM [mv 13 5,mv 14 0,mv 15 6,ia 16 1 14 15,ld 17 16,mv 18 1,c2 19 96 17 18,⟨(some 20),.aO 36 1 1 [(.str [])] [(0,1,(.tmp 19))],none⟩,⟨(some 21),.append 1 16 36 [(.str [])] (.tmp 13) (.tmp 20),none⟩,mv 5 21]))
 (.aM [mv 11 6,bc 12 .add 11 1,mv 6 12]))
def A.b113:aq:=sr [mN 4]
 (sr [mN 5]
 (.seq (sr [mc 6 0]
 (.block 0 (.loop A.oe)))
 (sr [mv 22 5,mv 4 22]
 (.ret))))
theorem A.c113:A.F 113=some ⟨23,[.tmp 4],A.b113⟩:=by kernel_rfl
def A.k113:=@A.kk 113 _ _ _ A.c113 rfl
theorem QR{h:T O}{N:Nat}{u:V}{c:Rat}{j k:Nat}(hu:Tx h N u a)(ha:∀q∈a,Qb j q)(hc:Qb k c)(hj:j<=400000000)(hk:k<=400000000)(hl:a.length<100000):Fn A.C 113 [u,.str (aW c)] h N (fun x h' n'=>Own 1 36 N h' n' x ((tx (a.map fun q=>q*c)).map fun y=>[y])):=by
 intro w
 have l1:=hu.len
 rw[aR,A.k113 (by simp)]
 simp[A.b113]
 refine bQ [(5,21)] (fun e r st=>e=.exit 0/\ad N st.w=[]/\ab h N st.h st.n/\∃x,r.get 5=some x/\Own 1 36 N st.h st.n x ((tx (a.map fun q=>q*c)).map fun y=>[y])) (fun i r st=>ad N st.w=[]/\ab h N st.h st.n/\∃t x,t+i=a.length/\r.get 6=some (.int .i64 t)/\r.get 5=some x/\Own 1 36 N st.h st.n x ((tx ((a.take t).map fun q=>q*c)).map fun y=>[y])) (a.length) ?_ ?_ ?_
 ·exact⟨by simp,ab.refl,0,.aa,by omega,by simp,by simp,by simpa[tx,strs]using Own.nil⟩
 ·rintro i r ⟨H,n1,W⟩ hr hf ⟨hW,hK,t,x,ht,h6,h5,ho⟩
  simp only at hW hK ho
  rw[bA]
  cases i with
  |zero=>
   obtain rfl:t=a.length:=by omega
   rw[vK]at ho
   simp[A.oe,hr,hf,h6,h5,l1,hW,hK]
   exact ho
  |succ i=>
   have aD:t<a.length:=by omega
   have bm:(t:Int)<((a.length:Nat):Int):=by omega
   obtain⟨q,hq⟩:=bV aD
   have rJ:=ha q (du hq)
   obtain⟨i',o,cc,e,rw,q1,q2,q3,q4⟩:=(hu.ae hK).at (CJ hq)
   simp[A.oe,hr,h6,h5,l1,bm,q1,q3,q4]
   refine ax (Ws rJ hc hj hk) ?_
   rintro _ H2 n2 k2 rfl
   have nw:=k2.le
   have eX:=hK.le
   obtain⟨v',h',w',f1,f2,f3,_,f5⟩:=pU (x:=[.str (aW (q*c))]) (u:=.slice n2 0 1 (some 1) 1) (bytes:=16) (w:=W) ((ho.ae k2).ae (ab.refl.new (.cells [.str (aW (q*c))] 36 true))) (by omega) (by decide) rfl (by simp[eC,St.row,aJ]) (by simp[wJ];omega)
   have e7:((tx ((a.take t).map fun q=>q*c)).map fun y=>[y])++[[.str (aW (q*c))]]=(tx ((a.take (t+1)).map fun q=>q*c)).map fun y=>[y]:=by rw[pV,hq];simp[tx,strs]
   rw[e7]at f5
   simp(disch:=first|(simp;done)|omega|rfl) [hf,h6,ag,f1]
   exact⟨i,by omega,by rw[f2];exact hW,((hK.trans k2).trans (ab.refl.new (.cells [.str (aW (q*c))] 36 true))).then f3,t+1,by omega,by simp,by rw[<-List.map_take];exact f5⟩
 ·rintro _ r ⟨H,n1,W⟩ hr ⟨rfl,hW,hK,x,h5,ho⟩
  simp only at hW hK ho
  simp[h5,aA,hW,hK]
  exact ho
theorem Zzn{F:Rat->Rat->Rat}{t:Nat}{p q:Rat}(hp:a[t]?=some p)(hq:b[t]?=some q):jl F a b (t+1)=jl F a b t++[F p q]:=by
 simp[jl,List.range_succ,hp,hq]
theorem Wu{h:T O}{N:Nat}{u v:V}{j k:Nat}(hu:Tx h N u a)(hv:Tx h N v b)(gT:a.length<=b.length)(ha:∀q∈a,Qb j q)(hb:∀q∈b,Qb k q)(hj:j<=400000000)(hk:k<=400000000)(hl:a.length<100000):Fn A.C 112 [u,v] h N (fun x h' n'=>Own 1 36 N h' n' x ((tx (jl (fun x y=>x+y) a b a.length)).map fun y=>[y])):=by
 intro w
 have l1:=hu.len
 have l2:=hv.len
 rw[aR,A.k112 (by simp)]
 simp[A.b112]
 refine bQ [(5,24)] (fun e r st=>e=.exit 0/\ad N st.w=[]/\ab h N st.h st.n/\∃x,r.get 5=some x/\Own 1 36 N st.h st.n x ((tx (jl (fun x y=>x+y) a b a.length)).map fun y=>[y])) (fun i r st=>ad N st.w=[]/\ab h N st.h st.n/\∃t x,t+i=a.length/\r.get 6=some (.int .i64 t)/\r.get 5=some x/\Own 1 36 N st.h st.n x ((tx (jl (fun x y=>x+y) a b t)).map fun y=>[y])) (a.length) ?_ ?_ ?_
 ·exact⟨by simp,ab.refl,0,.aa,by omega,by simp,by simp,by simpa[tx,strs,jl]using Own.nil⟩
 ·rintro i r ⟨H,n1,W⟩ hr hf ⟨hW,hK,t,x,ht,h6,h5,ho⟩
  simp only at hW hK ho
  rw[bA]
  cases i with
  |zero=>
   obtain rfl:t=a.length:=by omega
   simp[A.oc,hr,hf,h6,h5,l1,hW,hK]
   exact ho
  |succ i=>
   have aD:t<a.length:=by omega
   have bm:(t:Int)<((a.length:Nat):Int):=by omega
   obtain⟨p,hp⟩:=bV aD
   have A9:=ha p (du hp)
   have QS:t<b.length:=by omega
   have Ht:(t:Int)<(b.length:Int):=by omega
   obtain⟨q,hq⟩:=bV QS
   have rJ:=hb q (du hq)
   obtain⟨i',o,cc,e,rw,q1,q2,q3,q4⟩:=(hu.ae hK).at (CJ hp)
   obtain⟨i2,o2,cc2,e2,Wv,p1,p2,p3,p4⟩:=(hv.ae hK).at (CJ hq)
   simp[A.oc,hr,h6,h5,l1,bm,l2,Ht,q1,q2,q3,q4,p1,p2,p3,p4]
   refine ax (QT A9 rJ hj hk) ?_
   rintro _ H2 n2 k2 rfl
   have nw:=k2.le
   have eX:=hK.le
   obtain⟨v',h',w',f1,f2,f3,_,f5⟩:=pU (x:=[.str (aW (p+q))]) (u:=.slice n2 0 1 (some 1) 1) (bytes:=16) (w:=[]) ((ho.ae k2).ae (ab.refl.new (.cells [.str (aW (p+q))] 36 true))) (by omega) (by decide) rfl (by simp[eC,St.row,aJ]) (by simp[wJ,A7];omega)
   have e7:((tx (jl (fun x y=>x+y) a b t)).map fun y=>[y])++[[.str (aW (p+q))]]=(tx (jl (fun x y=>x+y) a b (t+1))).map fun y=>[y]:=by rw[Zzn hp hq];simp[tx,strs]
   rw[e7]at f5
   have ow:ad N w'=[]:=Ww f2 (by omega) rfl
   simp(disch:=first|(simp;done)|omega|rfl) [-ad,hf,h6,ag,f1]
   exact⟨i,by omega,Yki ow hW,((hK.trans k2).trans (ab.refl.new (.cells [.str (aW (p+q))] 36 true))).then f3,t+1,by omega,by simp,f5⟩
 ·rintro _ r ⟨H,n1,W⟩ hr ⟨rfl,hW,hK,x,h5,ho⟩
  simp only at hW hK ho
  simp[h5,aA,hW,hK]
  exact ho
theorem Ynf:aW (-1)=[45,49]:=by decide+kernel
theorem Ykm{a b:List Rat}{n:Nat}:jl (fun x y=>x+y) a (b.map fun q=>q* -1) n=jl (fun x y=>x-y) a b n:=by
 unfold jl
 apply Ba
 intro i _
 rw[jf]
 cases hb:b[i]? with
 |none=>simp only[Option.map_none,Option.getD_none];rw[Rat.sub_eq_add_neg,Rat.neg_zero]
 |some q=>simp only[wK,Bb];rw[Rat.sub_eq_add_neg,Rat.mul_neg,Rat.mul_one]
variable {N R:Nat} {h:T O} {l:List Rat} {m:List (List Rat)} {u:V}
def wL(N0:Nat)(h:T O)(N:Nat)(u:V)(l:List Rat):Prop:=Tx h N u l/\∀i∈cA u,i<N0\/∃z w,h.get i=some (.cells z 36 w)
theorem wL.ae{N0:Nat}{h':T O}{N':Nat}(s:wL N0 h N u l)(k:ab h N h' N'):wL N0 h' N' u l:=⟨s.1.ae k,fun i hi=>by
 rcases s.2 i hi with h1|⟨z,w,h1⟩
 ·exact .inl h1
 ·exact .inr ⟨z,w,(k.get i (Lv s.1 i hi)).trans h1⟩⟩
theorem pW.old{N0:Nat}(s:pW h N u l):wL N0 h N u l:=⟨s.1,fun i hi=>.inr (s.2 i hi)⟩
theorem Tx.old{N0:Nat}(s:Tx h N0 u l):wL N0 h N0 u l:=⟨s,fun i hi=>.inl (Lv s i hi)⟩
theorem wL.wM{N0:Nat}{us vs:List V}{b c:Bool}(s:wL N0 h N u l)(g:h.get R=some (.cells us 23 b))(hR:N0<=R):wL N0 (h.set R (.cells vs 23 c)) N u l:=by
 have bJ:∀i∈cA u,i≠R:=fun i hi hc=>by
  rcases s.2 i hi with h1|⟨z,w,hz⟩
  ·omega
  ·rw[hc,g]at hz
   simp at hz
 have k:ff (fun i=>i=R) h N (h.set R (.cells vs 23 c)) N:=⟨aS _,fun i _ hi=>by rw[T.ai,au hi]⟩
 refine⟨Sl.bY s.1 k bJ,fun i hi=>?_⟩
 rcases s.2 i hi with h1|⟨z,w,hz⟩
 ·exact .inl h1
 ·exact .inr ⟨z,w,by rw[T.ai,au (bJ i hi)];exact hz⟩
structure yq (N0:Nat) (h:T O) (N R:Nat) (m:List (List Rat)):Prop where
 ge:N0<=R
 lt:R<N
 ex:∃us:List V,h.get R=some (.cells us 23 true)/\us.length=m.length/\∀(j:Nat) (l:List Rat),m[j]?=some l->∃u,us[j]?=some u/\wL N0 h N u l
theorem yq.ae{N0:Nat}{h':T O}{N':Nat}(s:yq N0 h N R m)(k:ab h N h' N'):yq N0 h' N' R m:=by
 obtain⟨us,g1,g2,g5⟩:=s.ex
 refine⟨s.ge,eY s.lt k.le,us,(k.get R s.lt).trans g1,g2,fun j l hl=>?_⟩
 obtain⟨u,a1,a2⟩:=g5 j l hl
 exact⟨u,a1,a2.ae k⟩
theorem yq.at{N0:Nat}(s:yq N0 h N R m){j:Nat}{l:List Rat}(hj:m[j]?=some l):∃us u,h.get R=some (.cells us 23 true)/\us.length=m.length/\us[j]?=some u/\wL N0 h N u l:=by
 obtain⟨us,g1,g2,g5⟩:=s.ex
 obtain⟨u,a1,a2⟩:=g5 j l hj
 exact⟨us,u,g1,g2,a1,a2⟩
theorem yq.put{N0:Nat}{i:Nat}{us:List V}(s:yq N0 h N R m)(g:h.get R=some (.cells us 23 true))(hu:wL N0 h N u l)(hi:i<m.length):yq N0 (h.set R (.cells (us.set i u) 23 true)) N R (m.set i l):=by
 obtain⟨vs,g1,g2,g5⟩:=s.ex
 rw[g]at g1
 simp only[aj,O.cells.injEq]at g1
 obtain⟨rfl,_⟩:=g1
 refine⟨s.ge,s.lt,us.set i u,by rw[T.ai,aF rfl],by simp[g2],fun j r hr=>?_⟩
 by_cases e:j=i
 ·subst e
  rw[lW hi]at hr
  simp only[aj]at hr
  subst hr
  exact⟨u,by rw[lW (by omega)],hu.wM g s.ge⟩
 ·rw[eI (Ne.symm e)]at hr ⊢
  obtain⟨u',a1,a2⟩:=g5 j r hr
  exact⟨u',a1,a2.wM g s.ge⟩
theorem Zw7{l:List V}{i:Nat}(h:i<l.length):ag l i [u]=l.set i u:=by
 unfold ag
 rw[List.set_eq_take_append_cons_drop,aF h]
 simp
variable {N:Nat} {h:T O} {m:List (List Rat)} {v:V}
set_option maxHeartbeats 1000000
structure DrI (l:List Int) (k a:Nat):Prop where
 lo:∀z∈l.take a,z<(k:Int)
 hi:∀z∈l.drop a,(k:Int)<=z
def yr(N0:Nat)(h:T O)(N:Nat)(v:V)(m:List (List Rat)):Prop:=∃us:List V,Own 1 23 N0 h N v (us.map fun y=>[y])/\us.length=m.length/\∀(j:Nat) (l:List Rat),m[j]?=some l->∃u,us[j]?=some u/\Tx h N0 u l
theorem yr.nil{N0:Nat}:yr N0 h N .aa []:=⟨[],Own.nil,rfl,fun j l hl=>by simp at hl⟩
theorem yr.ae{N0:Nat}{h':T O}{N':Nat}(s:yr N0 h N v m)(k:ab h N h' N')(hN:N0<=N):yr N0 h' N' v m:=by
 obtain⟨us,h1,h3,h4⟩:=s
 refine⟨us,h1.ae k,h3,fun j l hl=>?_⟩
 obtain⟨u,g1,g2⟩:=h4 j l hl
 exact⟨u,g1,g2.ae ⟨aS _,fun i hi=>k.get i (by omega)⟩⟩
theorem yr.zv{N0:Nat}(s:yr N0 h N v m)(hN:N0<=N):mJ h N v m:=by
 obtain⟨us,h1,h3,h4⟩:=s
 refine⟨us,Sn.one.1 h1.sn,h3,fun j l hl=>?_⟩
 obtain⟨u,g1,g2⟩:=h4 j l hl
 exact⟨u,g1,g2.ae ⟨hN,fun _ _=>rfl⟩⟩
theorem yr.push{N0:Nat}{u x:V}{l:List Rat}{w:List Nat}(s:yr N0 h N v m)(hu:Tx h N0 u l)(hN:N0<=N)(hx:eC ⟨h,N,w⟩ 1 x=some (1,[u]))(hm:m.length<100000):
  ∃v' h' w',jQ ⟨h,N,w⟩ 1 24 23 v x=some (v',⟨h',N+1,w'⟩)/\ad N0 w'=ad N0 w/\ab h N0 h' (N+1)/\yr N0 h' (N+1) v' (m++[l]):=by
 obtain⟨us,h1,h3,h4⟩:=s
 obtain⟨v',h',w',f1,f2,f3,_,f5⟩:=pU (x:=[u]) (u:=x) (bytes:=24) (w:=w) h1 hN (by decide) rfl hx (by rw[oa];omega)
 have kk:ab h N0 h' N0:=⟨aS _,f3.get⟩
 refine⟨v',h',w',f1,f2,f3,us++[u],by simpa using f5,by simp[h3],fun j r hr=>?_⟩
 by_cases hj:j<m.length
 ·rw[lX hj]at hr
  obtain⟨u',g1,g2⟩:=h4 j r hr
  exact⟨u',by rw[lX (by omega)];exact g1,g2.ae kk⟩
 ·rw[pX (by omega)]at hr
  cases hd:j-m.length with
  |zero=>
   rw[hd]at hr
   simp at hr
   subst hr
   exact⟨u,by rw[pX (by omega),h3,hd];rfl,hu.ae kk⟩
  |succ d=>rw[hd]at hr;simp at hr
variable {N:Nat} {h:T O} {m:List (List Rat)} {u v:V} {w:List Nat}
def A.rK:aq:=.seq (sr [mv 11 5,mv 12 0,ln 13 12,bi 14 .lss 11 13]
 (cd 14
 (.skip)
 (.exit 0)))
 (.seq (.block 1 (.seq (.aV [mv 17 0,mv 18 5,ia 19 1 17 18,ld 20 19,mv 21 1,mv 22 5,ia 23 1 21 22,ld 24 23,c2 25 60 20 24,⟨(some 26),.un .not (.tmp 25),none⟩] [0,0,3,7,0,0,48,112,255,511])
 (cd 26
 (sr [⟨(some 4),.aY (.const (.bool false)),none⟩]
 (.ret))
 (.skip))))
 (.aM [mv 15 5,bc 16 .add 15 1,mv 5 16]))
def A.b55:aq:=sr [⟨(some 4),.aY (.const (.bool false)),none⟩]
 (.seq (sr [mv 6 0,ln 7 6,mv 8 1,ln 9 8,⟨(some 10),.bin .neq (.aI .int) false (.tmp 7) (.tmp 9),none⟩]
 (cd 10
 (sr [⟨(some 4),.aY (.const (.bool false)),none⟩]
 (.ret))
 (.skip)))
 (.seq (sr [mc 5 0]
 (.block 0 (.loop A.rK)))
 (sr [⟨(some 4),.aY (.const (.bool true)),none⟩]
 (.ret))))
theorem A.c55:A.F 55=some ⟨27,[.tmp 4],A.b55⟩:=by kernel_rfl
def A.k55:=@A.kk 55 _ _ _ A.c55 rfl
def A.kc:aq:=.seq (sr [mv 5 3,mv 6 0,ln 7 6,bi 8 .lss 5 7]
 (cd 8
 (.skip)
 (.exit 0)))
 (.seq (.block 1 (sr [mv 11 0,mv 12 3,ia 13 1 11 12,ld 14 13,c1 15 97 14,mv 4 15]
 (sr [mv 16 4,ni 17 16 0]
 (cd 17
 (sr [mv 18 4,mv 2 18]
 (.ret))
 (.skip)))))
 (.aM [mv 9 3,bc 10 .add 9 1,mv 3 10]))
def A.b111:aq:=sr [mc 2 0]
 (.seq (sr [mc 3 0]
 (.block 0 (.loop A.kc)))
 (sr [mc 2 0]
 (.ret)))
theorem A.c111:A.F 111=some ⟨19,[.tmp 2],A.b111⟩:=by kernel_rfl
def A.k111:=@A.kk 111 _ _ _ A.c111 rfl
def A.b29:aq:=sr [⟨(some 8),.aY (.const (.bool false)),none⟩]
 (.seq (sr [mv 9 3,ei 10 9 0]
 (cd 10
 (.aM [mv 11 2,c1 12 111 11,mv 3 12])
 (.skip)))
 (sr [mv 13 1,mv 14 3,⟨(some 15),.bin .eql (.aI .int) false (.tmp 13) (.tmp 14),none⟩,mv 16 15,mg 17 3 16,⟨(some 18),.bin .eql (.aI .int) true (.tmp 17) (.const (.int .i64 0)),(some (16,true))⟩,mg 19 18 16,mg 20 0 19,mg 21 2 19,⟨(some 22),.call (.const (.func 55 [] [])) [(.tmp 20),(.tmp 21)],(some (19,true))⟩,⟨(some 23),.pick (.tmp 19) (.tmp 22) (.const (.bool false)),(some (16,true))⟩,mg 24 23 16,mh 25 3 24,⟨(some 26),.bin .neq (.aI .int) true (.tmp 25) (.const (.int .i64 0)),(some (24,false))⟩,mh 27 26 24,mg 28 0 27,⟨(some 29),.len 1 (.tmp 28),(some (27,true))⟩,⟨(some 30),.bin .eql (.aI .int) true (.tmp 29) (.const (.int .i64 0)),(some (27,true))⟩,⟨(some 31),.pick (.tmp 27) (.tmp 30) (.const (.bool false)),(some (24,false))⟩,⟨(some 32),.pick (.tmp 24) (.const (.bool true)) (.tmp 31),(some (16,true))⟩,pf 33 16 32,mv 8 33]
 (.ret)))
theorem A.c29:A.F 29=some ⟨34,[.tmp 8],A.b29⟩:=by kernel_rfl
def A.k29:=@A.kk 29 _ _ _ A.c29 rfl
theorem Yjq(hu:mJ h N u m)(hv:mJ h N v m)(hl:m.length<100000)(hr:∀r∈m,r.length<100000):A.C.call (.func 55 [] []) [u,v] ⟨h,N,w⟩=some (.bool true,⟨h,N,w⟩):=by
 apply Call.eq
 have l1:=hu.len
 have l2:=hv.len
 rw[aR,A.k55 (by simp)]
 simp[A.b55,l1,l2]
 refine bQ [(4,5),(11,26)] (fun e r st=>st=⟨h,N,[]⟩/\e=.exit 0) (fun i r st=>st=⟨h,N,[]⟩/\∃k,k+i=m.length/\r.get 5=some (.int .i64 k)) m.length ?_ ?_ ?_
 ·exact⟨rfl,0,by omega,by simp⟩
 ·rintro i r _ ef hf ⟨rfl,k,hk,h5⟩
  rw[bA]
  cases i with
  |zero=>
   obtain rfl:k=m.length:=by omega
   simp[A.rK,ef,hf,h5,l1]
  |succ i=>
   have aD:k<m.length:=by omega
   have bm:(k:Int)<(m.length:Int):=by omega
   obtain⟨row,ar⟩:=bV aD
   obtain⟨i1,o,cc,e,rw,ru,q1,q2,q3,q4,q5⟩:=hu.at ar
   obtain⟨i2,o2,c2,e2,Wv,rv,p1,p2,p3,p4,p5⟩:=hv.at ar
   have hs:=fun w=>Wx (w:=w) (l:=row.map aW) q5 p5 (by simpa using hr row (du ar))
   simp(disch:=first|(simp;done)|omega|rfl) [A.rK,ef,hf,h5,l1,l2,bm,q1,q2,q3,q4,p1,p2,p3,p4,hs]
   exact⟨i,by omega,k+1,by omega,by simp⟩
 ·rintro _ r _ ef ⟨rfl,rfl⟩
  simp
def jR(m:List (List Rat)):Bool:=m.any jS
theorem Wy(hu:mJ h N u m)(hl:m.length<100000)(hr:∀r∈m,r.length<100000/\∀q∈r,(aW q).length<1000000000):A.C.call (.func 111 [] []) [u] ⟨h,N,w⟩=some (.int .i64 (if jR m=true then 4 else 0),⟨h,N,w⟩):=by
 apply Call.eq
 have l1:=hu.len
 rw[aR,A.k111 (by simp)]
 simp[A.b111]
 refine bQ [(2,18)] (fun e r st=>st=⟨h,N,[]⟩/\((e=.exit 0/\jR m=false)\/(e=.ret/\jR m=true/\r.get 2=some (.int .i64 4)))) (fun i r st=>st=⟨h,N,[]⟩/\∃k,k+i=m.length/\r.get 3=some (.int .i64 k)/\jR m=jR (m.drop k)) m.length ?_ ?_ ?_
 ·exact⟨rfl,0,by omega,by simp,by simp⟩
 ·rintro i r _ ef hf ⟨rfl,k,hk,h3,hz⟩
  rw[bA]
  cases i with
  |zero=>
   obtain rfl:k=m.length:=by omega
   rw[og]at hz
   have wN:jR m=false:=by rw[hz];rfl
   simp[A.kc,ef,hf,h3,l1,wN]
  |succ i=>
   have aD:k<m.length:=by omega
   have bm:(k:Int)<(m.length:Int):=by omega
   obtain⟨row,ar⟩:=bV aD
   obtain⟨i1,o,cc,e,rw,ru,q1,q2,q3,q4,q5⟩:=hu.at ar
   obtain⟨a1,a2⟩:=hr row (du ar)
   have hs:=fun w=>QU (w:=w) q5 a1 a2
   rw[ke ar]at hz
   cases hb:jS row with
   |true=>
    have wN:jR m=true:=by rw[hz];simp[jR,hb]
    rw[hb]at hs
    simp only[if_true]at hs
    simp[A.kc,ef,hf,h3,l1,bm,q1,q3,q4,hs,wN]
   |false=>
    have wN:jR m=jR (m.drop (k+1)):=by rw[hz];simp[jR,hb]
    rw[hb]at hs
    simp only[fx,if_false]at hs
    simp(disch:=first|(simp;done)|omega|rfl) [A.kc,ef,hf,h3,l1,bm,q1,q3,q4,hs]
    exact⟨i,by omega,k+1,by omega,by simp,wN⟩
 ·rintro e r _ ef ⟨rfl,⟨rfl,hz⟩|⟨rfl,hz,h2⟩⟩
  ·simp[hz]
  ·simp[hz,h2]
def Bc(e:Int)(m:List (List Rat))(v:V)(c:Int)(h:T O)(n:Nat):Prop:=(e≠0/\v=.aa/\c=e)\/(e=0/\((jR m=true/\v=.aa/\c=4)\/(jR m=false/\c=0/\mJ h n v m)))
theorem Bc.ae{h':T O}{n n':Nat}{e c:Int}(s:Bc e m v c h n)(k:ab h n h' n'):Bc e m v c h' n':=by
 rcases s with s|⟨a,s|⟨b,c,s⟩⟩
 ·exact .inl s
 ·exact .inr ⟨a,.inl s⟩
 ·exact .inr ⟨a,.inr ⟨b,c,s.ae k⟩⟩
def Wz(e:Int)(q:Rat)(s:List UInt8)(c:Int):Prop:=(e≠0/\s=[]/\c=e)\/(e=0/\((vJ q=true/\s=[]/\c=4)\/(vJ q=false/\c=0/\s=aW q)))
theorem Wr.parts{e:Int}{q:Rat}{x:V}(s:Wr e q x):∃t c,x=.aZ [.str t,.int .i64 c]/\Wz e q t c:=by
 rcases s with⟨a,rfl⟩|⟨a,⟨b,rfl⟩|⟨b,rfl⟩⟩
 ·exact⟨_,_,rfl,.inl ⟨a,rfl,rfl⟩⟩
 ·exact⟨_,_,rfl,.inr ⟨a,.inl ⟨b,rfl,rfl⟩⟩⟩
 ·exact⟨_,_,rfl,.inr ⟨a,.inr ⟨b,rfl,rfl⟩⟩⟩
theorem QV{e c:Int}(hv:Bc e m v c h N)(hu:e=0->mJ h N u m)(hl:m.length<100000)(hr:e=0->∀r∈m,r.length<100000/\∀q∈r,(aW q).length<1000000000):A.C.call (.func 29 [] []) [v,.int .i64 c,u,.int .i64 e] ⟨h,N,w⟩=some (.bool true,⟨h,N,w⟩):=by
 apply Call.eq
 rw[aR,A.k29 (by simp)]
 rcases hv with⟨a,rfl,rfl⟩|⟨rfl,⟨b,rfl,rfl⟩|⟨b,rfl,t⟩⟩
 ·simp[A.b29,a]
 ·have hr:=fun w=>Wy (w:=w) (hu rfl) hl (hr rfl)
  rw[b]at hr
  simp only[if_true]at hr
  simp[A.b29,hr]
 ·have hs:=fun w=>Yjq (w:=w) t (hu rfl) hl (fun r hx=>(hr rfl r hx).1)
  have hr:=fun w=>Wy (w:=w) (hu rfl) hl (hr rfl)
  rw[b]at hr
  simp only[fx,if_false]at hr
  simp[A.b29,hr,hs]
variable {h:T O}
def A.Hu:aq:=sr [bi 87 .lss 86 85]
 (.seq (cd 87
 (.skip)
 (.exit 0))
 (.seq (.block 1 (sr [ia 88 1 84 86,ld 89 88,mv 18 89]
 (.aM [mv 90 16,mv 91 18,⟨(some 92),.aO 23 1 1 [.aa] [(0,1,(.tmp 91))],none⟩,mv 93 1,c2 94 21 92 93,⟨(some 95),.aN 1 (.tmp 94) (.const (.int .i64 0)),none⟩,ld 96 95,mv 97 18,c2 98 20 96 97,⟨(some 99),.aO 36 1 1 [(.str [])] [(0,1,(.tmp 98))],none⟩,⟨(some 100),.append 1 16 36 [(.str [])] (.tmp 90) (.tmp 99),none⟩,mv 16 100])))
 (.aM [bc 101 .add 86 1,mv 86 101])))
def A.Hv:aq:=sr [mv 102 5,mv 103 6,mv 104 14,mv 105 11,⟨(some 106),.call (.const (.func 22 [] [])) [(.tmp 102),(.tmp 103),(.tmp 104),(.tmp 105)],none⟩,mv 107 106,mg 108 7 107,mg 109 8 107,mg 110 15 107,mg 111 12 107,⟨(some 112),.call (.const (.func 22 [] [])) [(.tmp 108),(.tmp 109),(.tmp 110),(.tmp 111)],(some (107,true))⟩,pf 113 107 112,mv 114 113,mg 115 9 114,mg 116 10 114,mg 117 16 114,mg 118 13 114,⟨(some 119),.call (.const (.func 22 [] [])) [(.tmp 115),(.tmp 116),(.tmp 117),(.tmp 118)],(some (114,true))⟩,pf 120 114 119,mv 121 120,⟨(some 122),.call (.const (.func 10 [] [])) [],(some (121,true))⟩,pf 123 121 122,mv 4 123]
 (.ret)
def A.Hw:aq:=.seq (sr [mv 82 13,ei 83 82 0]
 (cd 83
 (sr [mv 84 0,ln 85 84,mc 86 0]
 (.block 0 (.loop A.Hu)))
 (.skip)))
 A.Hv
def A.Hx:aq:=.seq (sr [mv 76 12,ei 77 76 0]
 (cd 77
 (.aM [mv 78 0,c1 79 19 78,mv 80 1,c2 81 18 79 80,mv 15 81])
 (.skip)))
 A.Hw
def A.Hy:aq:=.seq (sr [mv 71 11,ei 72 71 0]
 (cd 72
 (.aM [mv 73 0,mv 74 1,c2 75 18 73 74,mv 14 75])
 (.skip)))
 A.Hx
def A.Hz:aq:=.seq (sr [mv 65 12,ei 66 65 0]
 (cd 66
 (.aM [mv 67 1,mv 68 0,ln 69 68,c2 70 16 67 69,mv 12 70])
 (.skip)))
 A.Hy
def A.HC:aq:=.seq (sr [mv 51 11,ei 52 51 0]
 (cd 52
 (.aV [mv 53 1,mv 54 0,⟨(some 55),.aN 1 (.tmp 54) (.const (.int .i64 0)),none⟩,ld 56 55,ln 57 56,c2 58 16 53 57,mv 59 1,mv 60 0,⟨(some 61),.aN 1 (.tmp 60) (.const (.int .i64 0)),none⟩,ld 62 61,ln 63 62,⟨(some 64),.call (.const (.func 17 [] [])) [(.tmp 59),(.tmp 63),(.const (.int .i64 0))],none⟩,mv 11 58,mv 13 64] [0,0,2,6,14,31,0,0,128,384,896,2047,4095,8191])
 (.skip)))
 A.Hz
def A.b3:aq:=sr [⟨(some 4),.aY (.const (.bool false)),none⟩]
 (.seq (sr [mv 19 0,⟨(some 20),.call (.const (.func 8 [] [])) [(.tmp 19),(.const (.int .i64 6)),(.const (.int .i64 6))],none⟩,⟨(some 21),.un .not (.tmp 20),none⟩,mv 22 21,mh 23 1 22,⟨(some 24),.call (.const (.func 9 [] [])) [(.tmp 23),(.const (.int .i64 6))],(some (22,false))⟩,⟨(some 25),.un .not (.tmp 24),(some (22,false))⟩,pt 26 22 25]
 (cd 26
 (sr [⟨(some 27),.call (.const (.func 10 [] [])) [],none⟩,mv 4 27]
 (.ret))
 (.skip)))
 (sr [mv 29 0,mv 30 1,c2 31 11 29 30,mv 28 31,xt 32 28 0,xt 33 28 1,mv 5 32,mv 6 33]
 (sr [mv 35 0,mv 36 1,c2 37 12 35 36,mv 34 37,xt 38 34 0,xt 39 34 1,mv 7 38,mv 8 39]
 (sr [mv 41 0,mv 42 1,c2 43 13 41 42,mv 40 43,xt 44 40 0,xt 45 40 1,mv 9 44,mv 10 45]
 (sr [mv 46 0,⟨(some 47),.call (.const (.func 14 [] [])) [(.tmp 46),(.const (.int .i64 64)),(.const (.int .i64 64))],none⟩,mv 11 47]
 (sr [mv 48 0,c1 49 15 48,mv 12 49]
 (sr [mv 50 11,mv 13 50]
 (sr [mN 14,mN 15,mN 16]
 A.HC))))))))
theorem A.c3:A.F 3=some ⟨124,[.tmp 4],A.b3⟩:=by kernel_rfl
def A.k3:=@A.kk 3 _ _ _ A.c3 rfl
theorem Lw{N:Nat}{w:List Nat}(hP:jm h N):A.C.call (.func 10 [] []) [] ⟨h,N,w⟩=some (.bool true,⟨h,N,w⟩):=by
 exact A.known hP.2
structure Wt (e:Int) (l:List Rat) (v:V) (c:Int) (u:V) (h:T O) (n:Nat):Prop where
 p:jm h n
 tp:TP e l v c h n
 tx:e=0->Tx h n u l
 len:l.length<100000
 yt:e=0->∀q∈l,(aW q).length<1000000000
theorem Wt.eq{n:Nat}{v u:V}{e c:Int}{l:List Rat}(s:Wt e l v c u h n)(w:List Nat):A.C.call (.func 22 [] []) [v,.int .i64 c,u,.int .i64 e] ⟨h,n,w⟩=some (.bool true,⟨h,n,w⟩):=Lx s.tp s.tx s.len s.yt
theorem Wt.ae{h':T O}{n n':Nat}{v u:V}{e c:Int}{l:List Rat}(s:Wt e l v c u h n)(k:ab h n h' n'):Wt e l v c u h' n':=⟨s.p.ae k,s.tp.ae k,fun a=>(s.tx a).ae k,s.len,s.yt⟩
def A.HD:aq:=sr [mv 131 7,mv 132 8,mv 133 17,mv 134 14,⟨(some 135),.call (.const (.func 22 [] [])) [(.tmp 131),(.tmp 132),(.tmp 133),(.tmp 134)],none⟩,mv 136 135,mg 137 9 136,mg 138 10 136,mg 139 18 136,mg 140 15 136,⟨(some 141),.call (.const (.func 28 [] [])) [(.tmp 137),(.tmp 138),(.tmp 139),(.tmp 140)],(some (136,true))⟩,pf 142 136 141,mv 143 142,mg 144 11 143,mg 145 12 143,mg 146 19 143,mg 147 16 143,⟨(some 148),.call (.const (.func 29 [] [])) [(.tmp 144),(.tmp 145),(.tmp 146),(.tmp 147)],(some (143,true))⟩,pf 149 143 148,mv 150 149,⟨(some 151),.call (.const (.func 10 [] [])) [],(some (150,true))⟩,pf 152 150 151,mv 6 152]
 (.ret)
def A.HE:aq:=.seq (sr [mv 126 16,ei 127 126 0]
 (cd 127
 (.aM [mv 128 0,mv 129 2,c2 130 34 128 129,mv 19 130])
 (.skip)))
 A.HD
def A.HF:aq:=.seq (sr [mv 116 15,ei 117 116 0]
 (cd 117
 (.aM [mv 118 0,fa 119 0 4,ld 120 119,fa 121 1 4,ld 122 121,fa 123 2 4,ld 124 123,⟨(some 125),.call (.const (.func 33 [] [])) [(.tmp 118),(.tmp 120),(.tmp 122),(.tmp 124)],none⟩,mv 18 125])
 (.skip)))
 A.HE
def A.HG:aq:=.seq (sr [mv 108 14,ei 109 108 0]
 (cd 109
 (.aM [mv 110 0,fa 111 1 4,ld 112 111,fa 113 2 4,ld 114 113,⟨(some 115),.call (.const (.func 32 [] [])) [(.tmp 110),(.tmp 112),(.tmp 114)],none⟩,mv 17 115])
 (.skip)))
 A.HF
def A.HH:aq:=.seq (.aV [fa 83 1 4,ld 84 83,mv 85 0,ln 86 85,c2 87 16 84 86,fa 88 2 4,ld 89 88,mv 90 0,⟨(some 91),.aN 1 (.tmp 90) (.const (.int .i64 0)),none⟩,ld 92 91,ln 93 92,c2 94 16 89 93,⟨(some 95),.aO 3 1 2 [(.int .i64 0),(.int .i64 0)] [(0,1,(.tmp 87)),(1,1,(.tmp 94))],none⟩,c1 96 30 95,mv 14 96] [0,1,0,4,15,0,32,0,128,384,896,2047,4095,8191,16383])
 (sr [fa 97 0 4,ld 98 97,mv 99 0,ln 100 99,⟨(some 101),.call (.const (.func 17 [] [])) [(.tmp 98),(.tmp 100),(.const (.int .i64 1))],none⟩,mv 102 14,⟨(some 103),.aO 3 1 2 [(.int .i64 0),(.int .i64 0)] [(0,1,(.tmp 101)),(1,1,(.tmp 102))],none⟩,c1 104 30 103,mv 15 104]
 (sr [mv 105 0,mv 106 2,c2 107 31 105 106,mv 16 107]
 (sr [mN 17]
 (sr [⟨(some 18),.aY (.const (.str [])),none⟩]
 (sr [mN 19]
 A.HG)))))
def A.b4:aq:=sr [bx 4 42 1,⟨(some 6),.aY (.const (.bool false)),none⟩]
 (.seq (sr [mv 20 0,⟨(some 21),.call (.const (.func 8 [] [])) [(.tmp 20),(.const (.int .i64 6)),(.const (.int .i64 6))],none⟩,⟨(some 22),.un .not (.tmp 21),none⟩,mv 23 22,⟨(some 24),.load (some 3) (.tmp 4),(some (23,false))⟩,⟨(some 25),.call (.const (.func 23 [] [])) [(.tmp 24)],(some (23,false))⟩,⟨(some 26),.un .not (.tmp 25),(some (23,false))⟩,pt 27 23 26,mv 28 27,mh 29 2 28,⟨(some 30),.len 1 (.tmp 29),(some (28,false))⟩,⟨(some 31),.bin .gtr (.node []) false (.tmp 30) (.const (.int .i64 8)),(some (28,false))⟩,pt 32 28 31]
 (cd 32
 (sr [⟨(some 33),.call (.const (.func 10 [] [])) [],none⟩,mv 6 33]
 (.ret))
 (.skip)))
 (sr [mv 35 0,fa 36 1 4,ld 37 36,fa 38 2 4,ld 39 38,⟨(some 40),.call (.const (.func 24 [] [])) [(.tmp 35),(.tmp 37),(.tmp 39)],none⟩,mv 34 40,xt 41 34 0,xt 42 34 1,mv 7 41,mv 8 42]
 (sr [mv 44 0,fa 45 0 4,ld 46 45,fa 47 1 4,ld 48 47,fa 49 2 4,ld 50 49,⟨(some 51),.call (.const (.func 25 [] [])) [(.tmp 44),(.tmp 46),(.tmp 48),(.tmp 50)],none⟩,mv 43 51,xt 52 43 0,xt 53 43 1,mv 9 52,mv 10 53]
 (sr [mv 55 0,mv 56 2,c2 57 26 55 56,mv 54 57,xt 58 54 0,xt 59 54 1,mv 11 58,mv 12 59]
 (sr [mv 60 0,c1 61 27 60,mv 13 61]
 (.seq (sr [mv 62 13,ni 63 62 0]
 (cd 63
 (sr [mv 64 7,mv 65 8,mv 66 13,⟨(some 67),.call (.const (.func 22 [] [])) [(.tmp 64),(.tmp 65),(.const .aa),(.tmp 66)],none⟩,mv 68 67,mg 69 9 68,mg 70 10 68,mg 71 13 68,⟨(some 72),.call (.const (.func 28 [] [])) [(.tmp 69),(.tmp 70),(.const (.str [])),(.tmp 71)],(some (68,true))⟩,pf 73 68 72,mv 74 73,mg 75 11 74,mg 76 12 74,mg 77 13 74,⟨(some 78),.call (.const (.func 29 [] [])) [(.tmp 75),(.tmp 76),(.const .aa),(.tmp 77)],(some (74,true))⟩,pf 79 74 78,mv 80 79,⟨(some 81),.call (.const (.func 10 [] [])) [],(some (80,true))⟩,pf 82 80 81,mv 6 82]
 (.ret))
 (.skip)))
 A.HH))))))
theorem A.c4:A.F 4=some ⟨153,[.tmp 6],A.b4⟩:=by kernel_rfl
def A.k4:=@A.kk 4 _ _ _ A.c4 rfl
structure Rg5 (r0:T V) (u dv:V) (B:Nat) (v1:V) (c1:Int) (s2:a_) (c2:Int) (v3:V) (c3:Int):Prop where
 a0:r0.get 0=some u
 a2:r0.get 2=some dv
 a4:r0.get 4=some (.ptr B 0)
 a7:r0.get 7=some v1
 a8:r0.get 8=some (.int .i64 c1)
 a9:r0.get 9=some (.str s2)
 CK:r0.get 10=some (.int .i64 c2)
 yu:r0.get 11=some v3
 yv:r0.get 12=some (.int .i64 c3)
structure WtN (e:Int) (q:Rat) (s:a_) (c:Int) (t:a_):Prop where
 tp:Wz e q s c
 tx:e=0->t=aW q
 yt:e=0->(aW q).length<1000000000
structure QW (e:Int) (m:List (List Rat)) (v:V) (c:Int) (u:V) (h:T O) (n:Nat):Prop where
 tp:Bc e m v c h n
 tx:e=0->mJ h n u m
 len:m.length<100000
 yt:e=0->∀r∈m,r.length<100000/\∀q∈r,(aW q).length<1000000000
theorem QW.ae{h h':T O}{n n':Nat}{v u:V}{e c:Int}{m:List (List Rat)}(s:QW e m v c u h n)(k:ab h n h' n'):QW e m v c u h' n':=⟨s.tp.ae k,fun a=>(s.tx a).ae k,s.len,s.yt⟩
set_option maxHeartbeats 2000000
theorem WA{q:Rat}{k:Nat}(h:Qb k q)(hk:k<=400000000):(aW q).length<1000000000:=by
 have h1:=FD h.1
 have h2:=CL h.2
 unfold aW
 split<;>simp<;>omega
theorem Sl.rL{h:T O}{N:Nat}{v:V}{l:List V}(s:Sl h N v l):v.cells=[v]:=by
 rcases s with⟨_,rfl|rfl⟩|⟨j,o,cp,c,e,rw,rfl,hj,_⟩<;>rfl
theorem Sl.CM{h:T O}{N:Nat}{v:V}{l:List V}(s:Sl h N v l):v.one=true:=by
 rcases s with⟨_,rfl|rfl⟩|⟨j,o,cp,c,e,rw,rfl,hj,_⟩<;>rfl
def kB(K:Nat):Nat->Nat
 |0=>K
 |n+1=>4*kB K n+1
variable {N:Nat} {h:T O} {l:List Int} {v:V}
theorem QX{s:a_}{n:Nat}(h:bk s=0)(hn:s.length<=n)(h1:0<n):Qb (4*n) (gg s):=by
 obtain⟨e,_,_⟩:=FF h
 have hb:=WB (gg s)
 have l1:(bp (aW (gg s))).length<=n:=by
  rw[e];unfold bp;split
  ·simp;omega
  ·exact hn
 rw[hb]at l1
 have g:∀m:Nat,(ak m).length<=n->m<2^(4*n):=fun m hm=>eY ((Ly h1).1 hm) (WC n)
 split at l1
 ·rename_i h2
  have h3:(ak 1).length=1:=by rw[QY];rfl
  exact⟨g _ l1,by rw[h2];exact g 1 (by omega)⟩
 ·simp at l1
  exact⟨g _ (by omega),g _ (by omega)⟩
theorem Lz.qb{m:List (List a_)}{n:Nat}(h:Lz m n):pT (FG m) n/\jF (FG m) 96:=⟨fun r hr=>(h.rat r hr).1,fun r hr q hq=>by
 obtain⟨s,hs,rfl⟩:=iy.1 hr
 obtain⟨t,ht,rfl⟩:=iy.1 hq
 have:=(h.row s hs).2 t ht
 exact QX this.1 this.2 (by decide)⟩
def zw(l:List Int):List (List V):=l.map fun z=>[V.int .i64 z]
def yw(N0:Nat)(h:T O)(N:Nat)(v:V)(l:List Int):Prop:=Own 1 3 N0 h N v (zw l)/\(l=[]->v=.aa)
theorem yw.nil{N0:Nat}:yw N0 h N .aa []:=⟨Own.nil,fun _=>rfl⟩
theorem yw.ae{N0:Nat}{h':T O}{N':Nat}(s:yw N0 h N v l)(k:ab h N h' N'):yw N0 h' N' v l:=⟨s.1.ae k,s.2⟩
theorem yw.push{B N0:Nat}{x:V}{k:Int}{w:List Nat}(s:yw N0 h N v l)(hB:B<=N0)(hN:N0<=N)(hw:ad B w=[])(hx:eC ⟨h,N,w⟩ 1 x=some (1,[.int .i64 k]))(hl:l.length<1000):∃v' h' w',jQ ⟨h,N,w⟩ 1 8 3 v x=some (v',⟨h',N+1,w'⟩)/\ad B w'=[]/\ff (fun i=>i∈cA v) h N h' (N+1)/\nz 3 NW h v/\(∀i∈cA v,N0<=i)/\yw N0 h' (N+1) v' (l++[k]):=by
 obtain⟨s,hn⟩:=s
 have sB:Own 1 3 B h N v (zw l):=⟨s.1,s.2.imp id fun ⟨i,a,b,c⟩=>⟨i,a,by omega,c⟩⟩
 have hY:∀c∈zw l,∀y∈c,NW y:=fun c hc y hy=>by
  obtain⟨p,_,rfl⟩:=iy.1 hc
  simp at hy
  subst hy
  exact fun m=>by simp
 have h0:zw l=[]->v=.aa:=fun h0=>hn (List.map_eq_nil_iff.1 h0)
 have hb:2*((zw l).length+1)*8<=281474976710656:=by simp only[zw,oa];omega
 obtain⟨v1,h1,w1,a1,a2,_,_,_,_⟩:=zy (Y:=NW) (bytes:=8) (w:=w) sB h0 hY (by omega) (by decide) rfl hx hb
 obtain⟨v2,h2,w2,b1,_,_,b4,b5,b6⟩:=zy (Y:=NW) (bytes:=8) (w:=w) s h0 hY hN (by decide) rfl hx hb
 rw[a1]at b1
 simp only[aj,bq,St.mk.injEq,true_and]at b1
 obtain⟨rfl,rfl,rfl⟩:=b1
 refine⟨v1,h1,w1,a1,a2.trans hw,b4,b5,fun i hi=>?_,by simpa[zw]using b6,fun hc=>by simp at hc⟩
 obtain⟨_,⟨_,rfl⟩|⟨j,rfl,c1,_⟩⟩:=s
 ·simp[cA]at hi
 ·simp[cA]at hi
  omega
theorem yw.sl{N0:Nat}(s:yw N0 h N v l):Sl h N v (dI l):=by
 have:=s.1.sn
 have e:zw l=(dI l).map fun y=>[y]:=by unfold zw dI;rw[List.map_map];rfl
 rw[e]at this
 exact Sn.one.1 this
end Go.Mx
