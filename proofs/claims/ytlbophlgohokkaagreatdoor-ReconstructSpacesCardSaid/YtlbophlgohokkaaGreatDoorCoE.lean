/-
  reconstruct.Dropped.
-/
import Derived.Test.YtlbophlgohokkaaGreatDoorCoA
import Derived.Test.YtlbophlgohokkaaGreatDoorVbB
set_option linter.all false
namespace Go.Mx
open Go Go.Proofs
variable {N:Nat} {h:T O} {w:List Nat} {z:Int}
set_option maxHeartbeats 2000000
set_option maxRecDepth 1000000
def A.za5:aq:=sr [bi 9 .lss 8 7]
 (.seq (cd 9
 (.skip)
 (.exit 0))
 (.seq (.block 1 (sr [mv 10 8,mv 5 10]
 (sr [mv 11 1,mv 12 0,mv 13 5,ia 14 1 12 13,ld 15 14,⟨(some 16),.bin .eql (.aH .int) false (.tmp 11) (.tmp 15),none⟩]
 (cd 16
 (sr [mv 17 5,mv 4 17]
 (.ret))
 (.skip)))))
 (.aL [bc 18 .add 8 1,mv 8 18])))
def A.b173:aq:=sr [mc 4 0]
 (.seq (sr [mv 6 0,ln 7 6,mc 8 0]
 (.block 0 (.loop A.za5)))
 (sr [⟨(some 4),.aZ (.const (.int .i64 (-1))),none⟩]
 (.ret)))
theorem A.c173:A.F 173=some ⟨19,[.tmp 4],A.b173⟩:=by kernel_rfl
def A.k173:=@A.kk 173 _ _ _ A.c173 rfl
def A.b108:aq:=sr [⟨(some 4),.aZ (.const (.bool false)),none⟩]
 (sr [mv 5 0,mv 6 1,c2 7 173 5 6,bc 8 .geq 7 0,mv 4 8]
 (.ret))
theorem A.c108:A.F 108=some ⟨9,[.tmp 4],A.b108⟩:=by kernel_rfl
def A.k108:=@A.kk 108 _ _ _ A.c108 rfl
def A.zcq:aq:=sr [bi 61 .lss 60 59]
 (.seq (cd 61
 (.skip)
 (.exit 2))
 (.seq (.block 3 (sr [mv 62 60,ia 63 1 58 60,ld 64 63,mv 11 62,mv 12 64]
 (sr [mv 65 1,mv 66 11,c2 67 108 65 66,⟨(some 68),.un .not (.tmp 67),none⟩]
 (cd 68
 (.aL [mv 69 10,mv 70 12,c1 71 109 70,⟨(some 72),.aY 23 1 1 [.aa] [(0,1,(.tmp 71))],none⟩,⟨(some 73),.append 1 24 23 [.aa] (.tmp 69) (.tmp 72),none⟩,mv 10 73])
 (.skip)))))
 (.aL [bc 74 .add 60 1,mv 60 74])))
def A.zcr:aq:=sr [bi 21 .lss 20 19]
 (.seq (cd 21
 (.skip)
 (.exit 0))
 (.seq (.block 1 (sr [mv 22 20,ia 23 1 18 20,ld 24 23,mv 7 22,mv 8 24]
 (sr [mv 25 8,bc 26 .lss 25 0,mv 27 26,mh 28 8 27,mh 29 0 27,⟨(some 30),.len 1 (.tmp 29),(some (27,false))⟩,⟨(some 31),.bin .geq (.node []) false (.tmp 28) (.tmp 30),(some (27,false))⟩,pt 32 27 31,⟨(some 33),.call (.const (.func 75 [] [])) [(.tmp 32),(.const (.int .i64 10))],none⟩,mv 34 7,bc 35 .gtr 34 0,mv 36 35,mg 37 8 36,mg 38 1 36,mg 39 7 36,⟨(some 40),.bin .sub (.node []) false (.tmp 39) (.const (.int .i64 1)),(some (36,true))⟩,⟨(some 41),.mx [(.const (.int .i64 0)),(.tmp 40)],(some (36,true))⟩,⟨(some 42),.aI 1 (.tmp 38) (.tmp 41),(some (36,true))⟩,⟨(some 43),.load none (.tmp 42),(some (36,true))⟩,⟨(some 44),.bin .leq (.node []) false (.tmp 37) (.tmp 43),(some (36,true))⟩,pf 45 36 44,⟨(some 46),.call (.const (.func 75 [] [])) [(.tmp 45),(.const (.int .i64 11))],none⟩,⟨(some 47),.aY 27 1 2 [(.int .i64 0),(.int .i64 0)] [(0,1,(.tmp 33)),(1,1,(.tmp 46))],none⟩,c1 48 74 47,mv 9 48]
 (sr [mv 49 9,ni 50 49 0]
 (cd 50
 (sr [mv 51 9,mN 4,mv 5 51]
 (.ret))
 (.skip))))))
 (.aL [bc 52 .add 20 1,mv 20 52])))
def A.b26:aq:=sr [mN 4,mc 5 0]
 (.seq (sr [mv 13 0,c1 14 47 13,mv 6 14]
 (sr [mv 15 6,ni 16 15 0]
 (cd 16
 (sr [mv 17 6,mN 4,mv 5 17]
 (.ret))
 (.skip))))
 (.seq (sr [mv 18 1,ln 19 18,mc 20 0]
 (.block 0 (.loop A.zcr)))
 (.seq (sr [mv 53 1,ln 54 53,mv 55 0,ln 56 55,⟨(some 57),.bin .eql (.aH .int) false (.tmp 54) (.tmp 56),none⟩]
 (cd 57
 (sr [mN 4,mc 5 12]
 (.ret))
 (.skip)))
 (sr [mN 10]
 (.seq (sr [mv 58 0,ln 59 58,mc 60 0]
 (.block 2 (.loop A.zcq)))
 (sr [mv 75 10,mv 4 75,mc 5 0]
 (.ret)))))))
theorem A.c26:A.F 26=some ⟨76,[.tmp 4,.tmp 5],A.b26⟩:=by kernel_rfl
def A.k26:=@A.kk 26 _ _ _ A.c26 rfl
def uo(z:Int):List Int->Nat->Int
 |[],_=> -1
 |x::l,k=>if z=x then k else uo z l (k+1)
theorem Ta{z:Int}:∀{l:List Int} {k:Nat},decide (0<=uo z l k)=l.contains z
 |[],k=>by simp[uo]
 |x::l,k=>by
  unfold uo
  by_cases e:z=x
  ·rw[aF e];subst e;simp
  ·rw[ar e,Ta,List.contains_cons]
   have:(z==x)=false:=by simpa using e
   rw[this,Bool.false_or]
theorem Yq7{v:V}{l:List Int}(hs:Sl h N v (dI l))(hl:l.length<100000):A.C.call (.func 173 [] []) [v,.int .i64 z] ⟨h,N,w⟩=some (.int .i64 (uo z l 0),⟨h,N,w⟩):=by
 apply Call.eq
 have lg:=hs.len
 rw[fh]at lg
 rw[aP,A.k173 (by simp)]
 simp[A.b173,lg]
 refine bN [(4,5),(8,18)] (fun e r st=>st=⟨h,N,[]⟩/\((e=.exit 0/\uo z l 0= -1)\/(e=.ret/\r.get 4=some (.int .i64 (uo z l 0))))) (fun m r st=>st=⟨h,N,[]⟩/\∃k,k+m=l.length/\r.get 8=some (.int .i64 k)/\uo z l 0=uo z (l.drop k) k) l.length ?_ ?_ ?_
 ·exact⟨rfl,0,by omega,by simp,by simp⟩
 ·rintro m r _ hr hf ⟨rfl,k,hk,h8,hz⟩
  rw[bn]
  cases m with
  |zero=>
   obtain rfl:k=l.length:=by omega
   rw[lP,uo]at hz
   simp[A.za5,hr,hf,h8,hz]
  |succ m=>
   have aB:k<l.length:=by omega
   have bU:(k:Int)<(l.length:Int):=by omega
   obtain⟨s,hc⟩:=bs aB
   obtain⟨i,o,cc,e,rw,q1,q2,q3,q4⟩:=hs.at (fb hc)
   rw[fP hc,uo]at hz
   by_cases c4:z=s
   ·rw[aF c4]at hz
    subst c4
    simp[A.za5,hr,hf,h8,bU,lg,q1,q3,q4,hz]
   ·rw[ar c4]at hz
    simp(disch:=first|(simp;done)|omega|rfl) [A.za5,hr,hf,h8,bU,lg,q1,q3,q4,c4]
    exact⟨m,by omega,k+1,by omega,by simp,by simpa using hz⟩
 ·rintro e r _ hr ⟨rfl,⟨rfl,hq⟩|⟨rfl,h2⟩⟩
  ·simp[hq]
  ·simp[h2]
theorem Ymr{v:V}{l:List Int}(hs:Sl h N v (dI l))(hl:l.length<100000):A.C.call (.func 108 [] []) [v,.int .i64 z] ⟨h,N,w⟩=some (.bool (l.contains z),⟨h,N,w⟩):=by
 apply Call.eq
 have hi:=fun w=>Yq7 (z:=z) (w:=w) hs hl
 rw[aP,A.k108 (by simp)]
 rw[<-Ta (k:=0)]
 simp[A.b108,hi]
theorem Tb{i o:Nat}{cp:Option Nat}{c l:List V}{e:TypeId}{rw:Bool}(h3:h.get i=some (.cells c e rw))(h4:∀j,j<l.length->c[o+j]?=l[j]?)(h5:o+l.length<=c.length):ft ⟨h,N,w⟩ 1 (.slice i o l.length cp 1)=some (l.length,l):=by
 have:aM c o (l.length*1)=some l:=by
  unfold aM
  rw[aF (by omega),tk]
  congr 1
  apply iW
  intro j
  by_cases hj:j<l.length
  ·rw[gU,aF hj,fe];exact h4 j hj
  ·rw[eG (by simp;omega),eG (by omega)]
 simp only[ft,if_true,St.row,h3,this]
variable {a:List Rat}
def A.zbN:aq:=.seq (sr [mv 7 6,mv 8 0,ln 9 8,bi 10 .lss 7 9]
 (cd 10
 (.skip)
 (.exit 0)))
 (.seq (.block 1 (.aS [mv 13 5,mv 14 0,mv 15 6,ia 16 1 14 15,ld 17 16,mv 18 1,mv 19 6,ia 20 1 18 19,ld 21 20,c2 22 95 17 21,⟨(some 23),.aY 36 1 1 [(.str [])] [(0,1,(.tmp 22))],none⟩,⟨(some 24),.append 1 16 36 [(.str [])] (.tmp 13) (.tmp 23),none⟩,mv 5 24] [0,0,0,6,14,0,0,96,224,510,1022,2047,4095]))
 (.aL [mv 11 6,bc 12 .add 11 1,mv 6 12]))
def A.b112:aq:=sr [mN 4]
 (sr [mN 5]
 (.seq (sr [mc 6 0]
 (.block 0 (.loop A.zbN)))
 (sr [mv 25 5,mv 4 25]
 (.ret))))
theorem A.c112:A.F 112=some ⟨26,[.tmp 4],A.b112⟩:=by kernel_rfl
def A.k112:=@A.kk 112 _ _ _ A.c112 rfl
def A.zbO:aq:=.seq (sr [mv 7 6,mv 8 0,ln 9 8,bi 10 .lss 7 9]
 (cd 10
 (.skip)
 (.exit 0)))
 (.seq (.block 1 (.aL [mv 13 5,mv 14 0,mv 15 6,ia 16 1 14 15,ld 17 16,mv 18 1,c2 19 96 17 18,⟨(some 20),.aY 36 1 1 [(.str [])] [(0,1,(.tmp 19))],none⟩,⟨(some 21),.append 1 16 36 [(.str [])] (.tmp 13) (.tmp 20),none⟩,mv 5 21]))
 (.aL [mv 11 6,bc 12 .add 11 1,mv 6 12]))
def A.b113:aq:=sr [mN 4]
 (sr [mN 5]
 (.seq (sr [mc 6 0]
 (.block 0 (.loop A.zbO)))
 (sr [mv 22 5,mv 4 22]
 (.ret))))
theorem A.c113:A.F 113=some ⟨23,[.tmp 4],A.b113⟩:=by kernel_rfl
def A.k113:=@A.kk 113 _ _ _ A.c113 rfl
theorem Tc{h:T O}{N:Nat}{u:V}{c:Rat}{j k:Nat}(hu:Tx h N u a)(ha:∀q∈a,Qb j q)(hc:Qb k c)(hj:j<=400000)(hk:k<=400000)(hl:a.length<100000):Fn A.C 113 [u,.str (aN c)] h N (fun x h' n'=>Own 1 36 N h' n' x ((tx (a.map fun q=>q*c)).map fun y=>[y])):=by
 intro w
 have l1:=hu.len
 rw[aP,A.k113 (by simp)]
 simp[A.b113]
 refine bN [(5,21)] (fun e r st=>e=.exit 0/\au N st.w=[]/\ab h N st.h st.n/\∃x,r.get 5=some x/\Own 1 36 N st.h st.n x ((tx (a.map fun q=>q*c)).map fun y=>[y])) (fun i r st=>au N st.w=[]/\ab h N st.h st.n/\∃t x,t+i=a.length/\r.get 6=some (.int .i64 t)/\r.get 5=some x/\Own 1 36 N st.h st.n x ((tx ((a.take t).map fun q=>q*c)).map fun y=>[y])) (a.length) ?_ ?_ ?_
 ·exact⟨by simp,ab.refl,0,.aa,by omega,by simp,by simp,by simpa[tx,strs]using Own.nil⟩
 ·rintro i r ⟨H,n1,W⟩ hr hf ⟨hW,hK,t,x,ht,h6,h5,ho⟩
  simp only at hW hK ho
  rw[bn]
  cases i with
  |zero=>
   obtain rfl:t=a.length:=by omega
   rw[uv]at ho
   simp[A.zbO,hr,hf,h6,h5,l1,hW,hK]
   exact ho
  |succ i=>
   have aB:t<a.length:=by omega
   have bj:(t:Int)<((a.length:Nat):Int):=by omega
   obtain⟨q,hq⟩:=bs aB
   have jm:=ha q (cm hq)
   obtain⟨i',o,cc,e,rw,q1,q2,q3,q4⟩:=(hu.ad hK).at (wz hq)
   simp[A.zbO,hr,h6,h5,l1,bj,q1,q3,q4]
   refine ax (Yk4 jm hc hj hk) ?_
   rintro _ H2 n2 k2 rfl
   have mT:=k2.le
   have fi:=hK.le
   obtain⟨v',h',w',f1,f2,f3,_,f5⟩:=pY (x:=[.str (aN (q*c))]) (u:=.slice n2 0 1 (some 1) 1) (bytes:=16) (w:=W) ((ho.ad k2).ad (ab.refl.new (.cells [.str (aN (q*c))] 36 true))) (by omega) (by decide) rfl (by simp[ft,St.row,aM]) (by simp[tl];omega)
   have e7:((tx ((a.take t).map fun q=>q*c)).map fun y=>[y])++[[.str (aN (q*c))]]=(tx ((a.take (t+1)).map fun q=>q*c)).map fun y=>[y]:=by rw[wA,hq];simp[tx,strs]
   rw[e7]at f5
   simp(disch:=first|(simp;done)|omega|rfl) [hf,h6,ag,f1]
   exact⟨i,by omega,by rw[f2];exact hW,((hK.trans k2).trans (ab.refl.new (.cells [.str (aN (q*c))] 36 true))).then f3,t+1,by omega,by simp,by rw[<-List.map_take];exact f5⟩
 ·rintro _ r ⟨H,n1,W⟩ hr ⟨rfl,hW,hK,x,h5,ho⟩
  simp only at hW hK ho
  simp[h5,aA,hW,hK]
  exact ho
theorem Zz1{F:Rat->Rat->Rat}{b:List Rat}{t:Nat}{p q:Rat}(hp:a[t]?=some p)(hq:b[t]?=some q):jP F a b (t+1)=jP F a b t++[F p q]:=by
 simp[jP,List.range_succ,hp,hq]
theorem Yib{h:T O}{N:Nat}{u v:V}{b:List Rat}{j k:Nat}(hu:Tx h N u a)(hv:Tx h N v b)(eH:a.length<=b.length)(ha:∀q∈a,Qb j q)(hb:∀q∈b,Qb k q)(hj:j<=400000)(hk:k<=400000)(hl:a.length<100000):Fn A.C 112 [u,v] h N (fun x h' n'=>Own 1 36 N h' n' x ((tx (jP (fun x y=>x+y) a b a.length)).map fun y=>[y])):=by
 intro w
 have l1:=hu.len
 have l2:=hv.len
 rw[aP,A.k112 (by simp)]
 simp[A.b112]
 refine bN [(5,24)] (fun e r st=>e=.exit 0/\au N st.w=[]/\ab h N st.h st.n/\∃x,r.get 5=some x/\Own 1 36 N st.h st.n x ((tx (jP (fun x y=>x+y) a b a.length)).map fun y=>[y])) (fun i r st=>au N st.w=[]/\ab h N st.h st.n/\∃t x,t+i=a.length/\r.get 6=some (.int .i64 t)/\r.get 5=some x/\Own 1 36 N st.h st.n x ((tx (jP (fun x y=>x+y) a b t)).map fun y=>[y])) (a.length) ?_ ?_ ?_
 ·exact⟨by simp,ab.refl,0,.aa,by omega,by simp,by simp,by simpa[tx,strs,jP]using Own.nil⟩
 ·rintro i r ⟨H,n1,W⟩ hr hf ⟨hW,hK,t,x,ht,h6,h5,ho⟩
  simp only at hW hK ho
  rw[bn]
  cases i with
  |zero=>
   obtain rfl:t=a.length:=by omega
   simp[A.zbN,hr,hf,h6,h5,l1,hW,hK]
   exact ho
  |succ i=>
   have aB:t<a.length:=by omega
   have bj:(t:Int)<((a.length:Nat):Int):=by omega
   obtain⟨p,hp⟩:=bs aB
   have Dq:=ha p (cm hp)
   have Nb:t<b.length:=by omega
   have Fq:(t:Int)<(b.length:Int):=by omega
   obtain⟨q,hq⟩:=bs Nb
   have jm:=hb q (cm hq)
   obtain⟨i',o,cc,e,rw,q1,q2,q3,q4⟩:=(hu.ad hK).at (wz hp)
   obtain⟨i2,o2,Td,e2,Nc,p1,p2,p3,p4⟩:=(hv.ad hK).at (wz hq)
   simp[A.zbN,hr,h6,h5,l1,bj,l2,Fq,q1,q2,q3,q4,p1,p2,p3,p4]
   refine ax (Ym5 Dq jm hj hk) ?_
   rintro _ H2 n2 k2 rfl
   have mT:=k2.le
   have fi:=hK.le
   obtain⟨v',h',w',f1,f2,f3,_,f5⟩:=pY (x:=[.str (aN (p+q))]) (u:=.slice n2 0 1 (some 1) 1) (bytes:=16) (w:=[]) ((ho.ad k2).ad (ab.refl.new (.cells [.str (aN (p+q))] 36 true))) (by omega) (by decide) rfl (by simp[ft,St.row,aM]) (by simp[tl,A2];omega)
   have e7:((tx (jP (fun x y=>x+y) a b t)).map fun y=>[y])++[[.str (aN (p+q))]]=(tx (jP (fun x y=>x+y) a b (t+1))).map fun y=>[y]:=by rw[Zz1 hp hq];simp[tx,strs]
   rw[e7]at f5
   have ow:au N w'=[]:=Ygf f2 (by omega) rfl
   simp(disch:=first|(simp;done)|omega|rfl) [-au,hf,h6,ag,f1]
   exact⟨i,by omega,Yky ow hW,((hK.trans k2).trans (ab.refl.new (.cells [.str (aN (p+q))] 36 true))).then f3,t+1,by omega,by simp,f5⟩
 ·rintro _ r ⟨H,n1,W⟩ hr ⟨rfl,hW,hK,x,h5,ho⟩
  simp only at hW hK ho
  simp[h5,aA,hW,hK]
  exact ho
variable {N R:Nat} {h:T O} {l:List Rat} {m:List (List Rat)} {u:V}
def uw(N0:Nat)(h:T O)(N:Nat)(u:V)(l:List Rat):Prop:=Tx h N u l/\∀i∈dj u,i<N0\/∃z w,h.get i=some (.cells z 36 w)
theorem uw.ad{N0:Nat}{h':T O}{N':Nat}(s:uw N0 h N u l)(k:ab h N h' N'):uw N0 h' N' u l:=⟨s.1.ad k,fun i hi=>by
 rcases s.2 i hi with h1|⟨z,w,h1⟩
 ·exact .inl h1
 ·exact .inr ⟨z,w,(k.get i (Jg s.1 i hi)).trans h1⟩⟩
theorem pZ.old{N0:Nat}(s:pZ h N u l):uw N0 h N u l:=⟨s.1,fun i hi=>.inr (s.2 i hi)⟩
theorem Tx.old{N0:Nat}(s:Tx h N0 u l):uw N0 h N0 u l:=⟨s,fun i hi=>.inl (Jg s i hi)⟩
theorem uw.pX{N0:Nat}{us vs:List V}{b c:Bool}(s:uw N0 h N u l)(g:h.get R=some (.cells us 23 b))(hR:N0<=R):uw N0 (h.set R (.cells vs 23 c)) N u l:=by
 have bA:∀i∈dj u,i≠R:=fun i hi hc=>by
  rcases s.2 i hi with h1|⟨z,w,hz⟩
  ·omega
  ·rw[hc,g]at hz
   simp at hz
 have k:dC (fun i=>i=R) h N (h.set R (.cells vs 23 c)) N:=⟨aV _,fun i _ hi=>by rw[T.ah,ar hi]⟩
 refine⟨Sl.cL s.1 k bA,fun i hi=>?_⟩
 rcases s.2 i hi with h1|⟨z,w,hz⟩
 ·exact .inl h1
 ·exact .inr ⟨z,w,by rw[T.ah,ar (bA i hi)];exact hz⟩
structure me (N0:Nat) (h:T O) (N R:Nat) (m:List (List Rat)):Prop where
 ge:N0<=R
 lt:R<N
 ex:∃us:List V,h.get R=some (.cells us 23 true)/\us.length=m.length/\∀(j:Nat) (l:List Rat),m[j]?=some l->∃u,us[j]?=some u/\uw N0 h N u l
theorem me.ad{N0:Nat}{h':T O}{N':Nat}(s:me N0 h N R m)(k:ab h N h' N'):me N0 h' N' R m:=by
 obtain⟨us,g1,g2,g5⟩:=s.ex
 refine⟨s.ge,dZ s.lt k.le,us,(k.get R s.lt).trans g1,g2,fun j l hl=>?_⟩
 obtain⟨u,a1,a2⟩:=g5 j l hl
 exact⟨u,a1,a2.ad k⟩
theorem me.at{N0:Nat}(s:me N0 h N R m){j:Nat}{l:List Rat}(hj:m[j]?=some l):∃us u,h.get R=some (.cells us 23 true)/\us.length=m.length/\us[j]?=some u/\uw N0 h N u l:=by
 obtain⟨us,g1,g2,g5⟩:=s.ex
 obtain⟨u,a1,a2⟩:=g5 j l hj
 exact⟨us,u,g1,g2,a1,a2⟩
theorem me.put{N0:Nat}{i:Nat}{us:List V}(s:me N0 h N R m)(g:h.get R=some (.cells us 23 true))(hu:uw N0 h N u l)(hi:i<m.length):me N0 (h.set R (.cells (us.set i u) 23 true)) N R (m.set i l):=by
 obtain⟨vs,g1,g2,g5⟩:=s.ex
 rw[g]at g1
 simp only[ai,O.cells.injEq]at g1
 obtain⟨rfl,_⟩:=g1
 refine⟨s.ge,s.lt,us.set i u,by rw[T.ah,aF rfl],by simp[g2],fun j r hr=>?_⟩
 by_cases e:j=i
 ·subst e
  rw[fy hi]at hr
  simp only[ai]at hr
  subst hr
  exact⟨u,by rw[fy (by omega)],hu.pX g s.ge⟩
 ·rw[dr (Ne.symm e)]at hr ⊢
  obtain⟨u',a1,a2⟩:=g5 j r hr
  exact⟨u',a1,a2.pX g s.ge⟩
theorem xI{l:List V}{i:Nat}(h:i<l.length):ag l i [u]=l.set i u:=by
 unfold ag
 rw[List.set_eq_take_append_cons_drop,aF h]
 simp
def A.zbF:aq:=.seq (sr [mv 75 7,mv 76 3,ln 77 76,bi 78 .lss 75 77]
 (cd 78
 (.skip)
 (.exit 4)))
 (.seq (.block 5 (sr [mv 81 7,mv 82 4,⟨(some 83),.bin .neq (.aH .int) false (.tmp 81) (.tmp 82),none⟩]
 (cd 83
 (.aS [mv 84 3,mv 85 7,mv 86 3,mv 87 7,ia 88 1 86 87,ld 89 88,mv 90 3,mv 91 4,ia 92 1 90 91,ld 93 92,mv 94 3,mv 95 7,ia 96 1 94 95,ld 97 96,mv 98 5,ia 99 1 97 98,ld 100 99,c1 101 130 100,c2 102 113 93 101,c2 103 112 89 102,ia 104 1 84 85,so 104 103] [0,0,0,0,12,28,0,0,192,448,0,0,3072,7168,0,31744,64512,130048,262080,524284,1048575,2097151])
 (.skip))))
 (.aL [mv 79 7,bc 80 .add 79 1,mv 7 80]))
def A.zbG:aq:=.seq (sr [mv 25 6,mv 26 3,ln 27 26,bi 28 .lss 25 27,mv 29 28,mg 30 3 29,mg 31 6 29,⟨(some 32),.aI 1 (.tmp 30) (.tmp 31),(some (29,true))⟩,⟨(some 33),.load none (.tmp 32),(some (29,true))⟩,mg 34 5 29,⟨(some 35),.aI 1 (.tmp 33) (.tmp 34),(some (29,true))⟩,⟨(some 36),.load none (.tmp 35),(some (29,true))⟩,⟨(some 37),.call (.const (.func 121 [] [])) [(.tmp 36)],(some (29,true))⟩,pf 38 29 37]
 (cd 38
 (.skip)
 (.exit 2)))
 (.block 3 (.aL [mv 39 6,bc 40 .add 39 1,mv 6 40]))
def A.zbH:aq:=.seq (sr [mv 11 3,ln 12 11,bc 13 .gtr 12 0,mv 14 13,mg 15 5 14,mg 16 3 14,⟨(some 17),.aI 1 (.tmp 16) (.const (.int .i64 0)),(some (14,true))⟩,⟨(some 18),.load none (.tmp 17),(some (14,true))⟩,⟨(some 19),.len 1 (.tmp 18),(some (14,true))⟩,⟨(some 20),.bin .lss (.node []) false (.tmp 15) (.tmp 19),(some (14,true))⟩,pf 21 14 20]
 (cd 21
 (.skip)
 (.exit 0)))
 (.seq (.block 1 (sr [mv 24 4,mv 6 24]
 (.seq (.block 2 (.loop A.zbG))
 (.seq (sr [mv 41 6,mv 42 3,ln 43 42,⟨(some 44),.bin .eql (.aH .int) false (.tmp 41) (.tmp 43),none⟩]
 (cd 44
 (.exit 1)
 (.skip)))
 (.seq (.aS [mv 45 3,mv 46 4,mv 47 3,mv 48 6,mv 49 3,mv 50 6,ia 51 1 49 50,ld 52 51,mv 53 3,mv 54 4,ia 55 1 53 54,ld 56 55,ia 57 1 45 46,so 57 52,ia 58 1 47 48,so 58 56] [0,0,0,0,0,0,48,112,0,0,768,1792,4083,8179,16383,32767])
 (.seq (.aS [mv 59 3,mv 60 4,mv 61 3,mv 62 4,ia 63 1 61 62,ld 64 63,mv 65 3,mv 66 4,ia 67 1 65 66,ld 68 67,mv 69 5,ia 70 1 68 69,ld 71 70,c1 72 129 71,c2 73 113 64 72,ia 74 1 59 60,so 74 73] [0,0,0,0,12,28,0,0,192,448,0,1984,4032,8128,16380,32767,65535])
 (.seq (sr [mc 7 0]
 (.block 4 (.loop A.zbF)))
 (.aL [mv 105 4,bc 106 .add 105 1,mv 4 106]))))))))
 (.aL [mv 22 5,bc 23 .add 22 1,mv 5 23]))
def A.b45:aq:=sr [mN 2]
 (sr [⟨(some 8),.aY 23 1 0 [] [],none⟩,mv 9 0,⟨(some 10),.append 1 24 23 [.aa] (.tmp 8) (.tmp 9),none⟩,mv 3 10]
 (sr [mc 4 0]
 (.seq (sr [mc 5 0]
 (.block 0 (.loop A.zbH)))
 (sr [mv 107 3,mv 108 4,⟨(some 109),.cP 1 (.tmp 107) none (some (.tmp 108)) none,none⟩,mv 2 109]
 (.ret)))))
theorem A.c45:A.F 45=some ⟨110,[.tmp 2],A.b45⟩:=by kernel_rfl
def A.k45:=@A.kk 45 _ _ _ A.c45 rfl
theorem Ykn{m:List (List Rat)}{k p n:Nat}(hn:0<n):ma m k p n=if (m[p]?.getD [])[k]?.getD 0≠0 then p else ma m k (p+1) (n-1):=by
 obtain⟨n,rfl⟩:∃n',n=n'+1:=⟨n-1,by omega⟩
 rfl
theorem Yfs{W0:List Nat}{N0:Nat}{H:T O}{n R:Nat}{r0:T V}{m:List (List Rat)}{d k c:Nat}(s:me N0 H n R m)(hc:ew m c)(hk:k<c)(hd:d<=m.length)(oe:m.length<1000)(a3:r0.get 3=some (.slice R 0 m.length none 1))(a5:r0.get 5=some (.int .i64 k))(a6:r0.get 6=some (.int .i64 d)):
  Code A.C none (.loop A.zbG) ⟨r0,110,[]⟩ ⟨H,n,W0⟩ (fun e fr st=>e=.exit 2/\st=⟨H,n,W0⟩/\∃r,Fx [(6,6),(25,40)] r0 110 ⟨r,110,[]⟩/\fr=⟨r,110,[]⟩/\r.get 6=some (.int .i64 (eJ m d k))):=by
 rw[bn]
 refine bN [(6,6),(25,40)] (fun e r st=>e=.exit 2/\st=⟨H,n,W0⟩/\r.get 6=some (.int .i64 (eJ m d k))) (fun i r st=>st=⟨H,n,W0⟩/\∃p,p<=m.length/\i=m.length-p/\r.get 6=some (.int .i64 p)/\eJ m d k=ma m k p (m.length-p)) (m.length-d) ?_ ?_ ?_
 ·exact⟨rfl,d,hd,rfl,a6,rfl⟩
 ·rintro i r _ hr hf ⟨rfl,p,hp,rfl,h6,hz⟩
  rw[bn]
  by_cases aB:p<m.length
  ·have bj:(p:Int)<(m.length:Int):=by omega
   obtain⟨row,aj⟩:=bs aB
   obtain⟨us,u,g1,g2,g3,g4⟩:=s.at aj
   have mV:=hc row (cm aj)
   obtain⟨q,hq⟩:=bs (l:=row) (k:=k) (by omega)
   obtain⟨i1,o1,c1,e1,w1,q1,q2,q3,q4⟩:=g4.1.at (wz hq)
   have mW:=g4.1.len
   have bU:(k:Int)<(row.length:Int):=by omega
   have il:k<row.length:=by omega
   have A3:=fun st=>Te (q:=q) (st:=st)
   have hR:=s.lt
   rw[Ykn (by omega),aj]at hz
   simp only[og,hq]at hz
   by_cases c0:q=0
   ·rw[ar (by simpa using c0)]at hz
    have Fs:=A3
    simp only[decide_eq_true c0]at Fs
    simp(disch:=first|(simp;done)|omega|rfl) [-getElem?_pos,A.zbG,hr,hf,a3,a5,h6,bj,g1,g3,q1,q3,q4,Fs,mW]
    refine⟨m.length-(p+1),by omega,p+1,by omega,rfl,by simp,?_⟩
    rw[hz,show m.length-p-1=m.length-(p+1) by omega]
   ·rw[aF c0]at hz
    have Fs:=A3
    simp only[decide_eq_false c0]at Fs
    simp[A.zbG,hr,hf,a3,a5,h6,bj,g1,g3,q1,q3,q4,bU,Fs,mW,hz]
  ·obtain rfl:p=m.length:=by omega
   rw[Nat.sub_self,ma]at hz
   simp[A.zbG,hr,hf,a3,h6,hz]
 ·rintro _ r _ hr ⟨rfl,rfl,h6⟩
  simp[]
  exact⟨r,⟨hr,rfl,rfl⟩,rfl,h6⟩
def A.b27:aq:=sr [mc 2 0]
 (sr [mv 3 0,⟨(some 4),.call (.const (.func 14 [] [])) [(.tmp 3),(.const (.int .i64 64)),(.const (.int .i64 16))],none⟩,mv 2 4]
 (.ret))
theorem A.c27:A.F 27=some ⟨5,[.tmp 2],A.b27⟩:=by kernel_rfl
def A.k27:=@A.kk 27 _ _ _ A.c27 rfl
theorem Yfv{h:T O}{N:Nat}{v:V}{l:List (List aX)}(hs:gI h N v l)(hl:l.length<100000)(hx:∀x∈l,x.length<100000/\∀s∈x,s.length<=100000):Fn A.C 27 [v] h N (fun u _ _=>u=.int .i64 (jl l 64 16)):=by
 intro w
 rw[aP,A.k27 (by simp)]
 simp[A.b27]
 refine ax (Yms (a:=64) (b:=16) hs hl hx) ?_
 rintro _ H2 n2 k2 rfl
 simp[aA]
 exact k2
variable {N:Nat} {h:T O} {m:List (List Rat)} {v:V}
set_option maxHeartbeats 1000000
structure DrI (l:List Int) (k a:Nat):Prop where
 lo:∀z∈l.take a,z<(k:Int)
 hi:∀z∈l.drop a,(k:Int)<=z
def wB(N0:Nat)(h:T O)(N:Nat)(v:V)(m:List (List Rat)):Prop:=∃us:List V,Own 1 23 N0 h N v (us.map fun y=>[y])/\us.length=m.length/\∀(j:Nat) (l:List Rat),m[j]?=some l->∃u,us[j]?=some u/\Tx h N0 u l
theorem wB.nil{N0:Nat}:wB N0 h N .aa []:=⟨[],Own.nil,rfl,fun j l hl=>by simp at hl⟩
theorem wB.ad{N0:Nat}{h':T O}{N':Nat}(s:wB N0 h N v m)(k:ab h N h' N')(hN:N0<=N):wB N0 h' N' v m:=by
 obtain⟨us,h1,h3,h4⟩:=s
 refine⟨us,h1.ad k,h3,fun j l hl=>?_⟩
 obtain⟨u,g1,g2⟩:=h4 j l hl
 exact⟨u,g1,g2.ad ⟨aV _,fun i hi=>k.get i (by omega)⟩⟩
theorem wB.A4{N0:Nat}(s:wB N0 h N v m)(hN:N0<=N):iO h N v m:=by
 obtain⟨us,h1,h3,h4⟩:=s
 refine⟨us,Sn.one.1 h1.sn,h3,fun j l hl=>?_⟩
 obtain⟨u,g1,g2⟩:=h4 j l hl
 exact⟨u,g1,g2.ad ⟨hN,fun _ _=>rfl⟩⟩
theorem wB.push{N0:Nat}{u x:V}{l:List Rat}{w:List Nat}(s:wB N0 h N v m)(hu:Tx h N0 u l)(hN:N0<=N)(hx:ft ⟨h,N,w⟩ 1 x=some (1,[u]))(hm:m.length<100000):
  ∃v' h' w',jQ ⟨h,N,w⟩ 1 24 23 v x=some (v',⟨h',N+1,w'⟩)/\au N0 w'=au N0 w/\ab h N0 h' (N+1)/\wB N0 h' (N+1) v' (m++[l]):=by
 obtain⟨us,h1,h3,h4⟩:=s
 obtain⟨v',h',w',f1,f2,f3,_,f5⟩:=pY (x:=[u]) (u:=x) (bytes:=24) (w:=w) h1 hN (by decide) rfl hx (by rw[si];omega)
 have kk:ab h N0 h' N0:=⟨aV _,f3.get⟩
 refine⟨v',h',w',f1,f2,f3,us++[u],by simpa using f5,by simp[h3],fun j r hr=>?_⟩
 by_cases hj:j<m.length
 ·rw[jO hj]at hr
  obtain⟨u',g1,g2⟩:=h4 j r hr
  exact⟨u',by rw[jO (by omega)];exact g1,g2.ad kk⟩
 ·rw[od (by omega)]at hr
  cases hd:j-m.length with
  |zero=>
   rw[hd]at hr
   simp at hr
   subst hr
   exact⟨u,by rw[od (by omega),h3,hd];rfl,hu.ad kk⟩
  |succ d=>rw[hd]at hr;simp at hr
variable {N:Nat} {h:T O} {m:List (List Rat)} {u v:V} {w:List Nat}
def A.za3:aq:=.seq (sr [mv 11 5,mv 12 0,ln 13 12,bi 14 .lss 11 13]
 (cd 14
 (.skip)
 (.exit 0)))
 (.seq (.block 1 (.seq (.aS [mv 17 0,mv 18 5,ia 19 1 17 18,ld 20 19,mv 21 1,mv 22 5,ia 23 1 21 22,ld 24 23,c2 25 60 20 24,⟨(some 26),.un .not (.tmp 25),none⟩] [0,0,3,7,0,0,48,112,255,511])
 (cd 26
 (sr [⟨(some 4),.aZ (.const (.bool false)),none⟩]
 (.ret))
 (.skip))))
 (.aL [mv 15 5,bc 16 .add 15 1,mv 5 16]))
def A.b55:aq:=sr [⟨(some 4),.aZ (.const (.bool false)),none⟩]
 (.seq (sr [mv 6 0,ln 7 6,mv 8 1,ln 9 8,⟨(some 10),.bin .neq (.aH .int) false (.tmp 7) (.tmp 9),none⟩]
 (cd 10
 (sr [⟨(some 4),.aZ (.const (.bool false)),none⟩]
 (.ret))
 (.skip)))
 (.seq (sr [mc 5 0]
 (.block 0 (.loop A.za3)))
 (sr [⟨(some 4),.aZ (.const (.bool true)),none⟩]
 (.ret))))
theorem A.c55:A.F 55=some ⟨27,[.tmp 4],A.b55⟩:=by kernel_rfl
def A.k55:=@A.kk 55 _ _ _ A.c55 rfl
def A.za6:aq:=.seq (sr [mv 5 3,mv 6 0,ln 7 6,bi 8 .lss 5 7]
 (cd 8
 (.skip)
 (.exit 0)))
 (.seq (.block 1 (sr [mv 11 0,mv 12 3,ia 13 1 11 12,ld 14 13,c1 15 97 14,mv 4 15]
 (sr [mv 16 4,ni 17 16 0]
 (cd 17
 (sr [mv 18 4,mv 2 18]
 (.ret))
 (.skip)))))
 (.aL [mv 9 3,bc 10 .add 9 1,mv 3 10]))
def A.b111:aq:=sr [mc 2 0]
 (.seq (sr [mc 3 0]
 (.block 0 (.loop A.za6)))
 (sr [mc 2 0]
 (.ret)))
theorem A.c111:A.F 111=some ⟨19,[.tmp 2],A.b111⟩:=by kernel_rfl
def A.k111:=@A.kk 111 _ _ _ A.c111 rfl
def A.b29:aq:=sr [⟨(some 8),.aZ (.const (.bool false)),none⟩]
 (.seq (sr [mv 9 3,ei 10 9 0]
 (cd 10
 (.aL [mv 11 2,c1 12 111 11,mv 3 12])
 (.skip)))
 (sr [mv 13 1,mv 14 3,⟨(some 15),.bin .eql (.aH .int) false (.tmp 13) (.tmp 14),none⟩,mv 16 15,mg 17 3 16,⟨(some 18),.bin .eql (.aH .int) true (.tmp 17) (.const (.int .i64 0)),(some (16,true))⟩,mg 19 18 16,mg 20 0 19,mg 21 2 19,⟨(some 22),.call (.const (.func 55 [] [])) [(.tmp 20),(.tmp 21)],(some (19,true))⟩,⟨(some 23),.pick (.tmp 19) (.tmp 22) (.const (.bool false)),(some (16,true))⟩,mg 24 23 16,mh 25 3 24,⟨(some 26),.bin .neq (.aH .int) true (.tmp 25) (.const (.int .i64 0)),(some (24,false))⟩,mh 27 26 24,mg 28 0 27,⟨(some 29),.len 1 (.tmp 28),(some (27,true))⟩,⟨(some 30),.bin .eql (.aH .int) true (.tmp 29) (.const (.int .i64 0)),(some (27,true))⟩,⟨(some 31),.pick (.tmp 27) (.tmp 30) (.const (.bool false)),(some (24,false))⟩,⟨(some 32),.pick (.tmp 24) (.const (.bool true)) (.tmp 31),(some (16,true))⟩,pf 33 16 32,mv 8 33]
 (.ret)))
theorem A.c29:A.F 29=some ⟨34,[.tmp 8],A.b29⟩:=by kernel_rfl
def A.k29:=@A.kk 29 _ _ _ A.c29 rfl
theorem Ykb(hu:iO h N u m)(hv:iO h N v m)(hl:m.length<100000)(hr:∀r∈m,r.length<100000):A.C.call (.func 55 [] []) [u,v] ⟨h,N,w⟩=some (.bool true,⟨h,N,w⟩):=by
 apply Call.eq
 have l1:=hu.len
 have l2:=hv.len
 rw[aP,A.k55 (by simp)]
 simp[A.b55,l1,l2]
 refine bN [(4,5),(11,26)] (fun e r st=>st=⟨h,N,[]⟩/\e=.exit 0) (fun i r st=>st=⟨h,N,[]⟩/\∃k,k+i=m.length/\r.get 5=some (.int .i64 k)) m.length ?_ ?_ ?_
 ·exact⟨rfl,0,by omega,by simp⟩
 ·rintro i r _ eK hf ⟨rfl,k,hk,h5⟩
  rw[bn]
  cases i with
  |zero=>
   obtain rfl:k=m.length:=by omega
   simp[A.za3,eK,hf,h5,l1]
  |succ i=>
   have aB:k<m.length:=by omega
   have bj:(k:Int)<(m.length:Int):=by omega
   obtain⟨row,aj⟩:=bs aB
   obtain⟨i1,o,cc,e,rw,ru,q1,q2,q3,q4,q5⟩:=hu.at aj
   obtain⟨i2,o2,c2,e2,Nc,rv,p1,p2,p3,p4,p5⟩:=hv.at aj
   have hs:=fun w=>Tf (w:=w) (l:=row.map aN) q5 p5 (by simpa using hr row (cm aj))
   simp(disch:=first|(simp;done)|omega|rfl) [A.za3,eK,hf,h5,l1,l2,bj,q1,q2,q3,q4,p1,p2,p3,p4,hs]
   exact⟨i,by omega,k+1,by omega,by simp⟩
 ·rintro _ r _ eK ⟨rfl,rfl⟩
  simp
def jD(m:List (List Rat)):Bool:=m.any ke
theorem Tg(hu:iO h N u m)(hl:m.length<100000)(hr:∀r∈m,r.length<100000/\∀q∈r,(aN q).length<1000000):A.C.call (.func 111 [] []) [u] ⟨h,N,w⟩=some (.int .i64 (if jD m=true then 4 else 0),⟨h,N,w⟩):=by
 apply Call.eq
 have l1:=hu.len
 rw[aP,A.k111 (by simp)]
 simp[A.b111]
 refine bN [(2,18)] (fun e r st=>st=⟨h,N,[]⟩/\((e=.exit 0/\jD m=false)\/(e=.ret/\jD m=true/\r.get 2=some (.int .i64 4)))) (fun i r st=>st=⟨h,N,[]⟩/\∃k,k+i=m.length/\r.get 3=some (.int .i64 k)/\jD m=jD (m.drop k)) m.length ?_ ?_ ?_
 ·exact⟨rfl,0,by omega,by simp,by simp⟩
 ·rintro i r _ eK hf ⟨rfl,k,hk,h3,hz⟩
  rw[bn]
  cases i with
  |zero=>
   obtain rfl:k=m.length:=by omega
   rw[lP]at hz
   have p9:jD m=false:=by rw[hz];rfl
   simp[A.za6,eK,hf,h3,l1,p9]
  |succ i=>
   have aB:k<m.length:=by omega
   have bj:(k:Int)<(m.length:Int):=by omega
   obtain⟨row,aj⟩:=bs aB
   obtain⟨i1,o,cc,e,rw,ru,q1,q2,q3,q4,q5⟩:=hu.at aj
   obtain⟨a1,a2⟩:=hr row (cm aj)
   have hs:=fun w=>Nd (w:=w) q5 a1 a2
   rw[fP aj]at hz
   cases hb:ke row with
   |true=>
    have p9:jD m=true:=by rw[hz];simp[jD,hb]
    rw[hb]at hs
    simp only[if_true]at hs
    simp[A.za6,eK,hf,h3,l1,bj,q1,q3,q4,hs,p9]
   |false=>
    have p9:jD m=jD (m.drop (k+1)):=by rw[hz];simp[jD,hb]
    rw[hb]at hs
    simp only[eL,if_false]at hs
    simp(disch:=first|(simp;done)|omega|rfl) [A.za6,eK,hf,h3,l1,bj,q1,q3,q4,hs]
    exact⟨i,by omega,k+1,by omega,by simp,p9⟩
 ·rintro e r _ eK ⟨rfl,⟨rfl,hz⟩|⟨rfl,hz,h2⟩⟩
  ·simp[hz]
  ·simp[hz,h2]
def xJ(e:Int)(m:List (List Rat))(v:V)(c:Int)(h:T O)(n:Nat):Prop:=(e≠0/\v=.aa/\c=e)\/(e=0/\((jD m=true/\v=.aa/\c=4)\/(jD m=false/\c=0/\iO h n v m)))
theorem xJ.ad{h':T O}{n n':Nat}{e c:Int}(s:xJ e m v c h n)(k:ab h n h' n'):xJ e m v c h' n':=by
 rcases s with s|⟨a,s|⟨b,c,s⟩⟩
 ·exact .inl s
 ·exact .inr ⟨a,.inl s⟩
 ·exact .inr ⟨a,.inr ⟨b,c,s.ad k⟩⟩
def Th(e:Int)(q:Rat)(s:List UInt8)(c:Int):Prop:=(e≠0/\s=[]/\c=e)\/(e=0/\((tj q=true/\s=[]/\c=4)\/(tj q=false/\c=0/\s=aN q)))
theorem S9.parts{e:Int}{q:Rat}{x:V}(s:S9 e q x):∃t c,x=.bb [.str t,.int .i64 c]/\Th e q t c:=by
 rcases s with⟨a,rfl⟩|⟨a,⟨b,rfl⟩|⟨b,rfl⟩⟩
 ·exact⟨_,_,rfl,.inl ⟨a,rfl,rfl⟩⟩
 ·exact⟨_,_,rfl,.inr ⟨a,.inl ⟨b,rfl,rfl⟩⟩⟩
 ·exact⟨_,_,rfl,.inr ⟨a,.inr ⟨b,rfl,rfl⟩⟩⟩
theorem Jh{e c:Int}(hv:xJ e m v c h N)(hu:e=0->iO h N u m)(hl:m.length<100000)(hr:e=0->∀r∈m,r.length<100000/\∀q∈r,(aN q).length<1000000):A.C.call (.func 29 [] []) [v,.int .i64 c,u,.int .i64 e] ⟨h,N,w⟩=some (.bool true,⟨h,N,w⟩):=by
 apply Call.eq
 rw[aP,A.k29 (by simp)]
 rcases hv with⟨a,rfl,rfl⟩|⟨rfl,⟨b,rfl,rfl⟩|⟨b,rfl,t⟩⟩
 ·simp[A.b29,a]
 ·have hr:=fun w=>Tg (w:=w) (hu rfl) hl (hr rfl)
  rw[b]at hr
  simp only[if_true]at hr
  simp[A.b29,hr]
 ·have hs:=fun w=>Ykb (w:=w) t (hu rfl) hl (fun r hx=>(hr rfl r hx).1)
  have hr:=fun w=>Tg (w:=w) (hu rfl) hl (hr rfl)
  rw[b]at hr
  simp only[eL,if_false]at hr
  simp[A.b29,hr,hs]
def A.zbP:aq:=sr [bi 8 .lss 7 6]
 (.seq (cd 8
 (.skip)
 (.exit 0))
 (.seq (.block 1 (sr [ia 9 1 5 7,ld 10 9,mv 4 10]
 (sr [mv 11 4,ni 12 11 0]
 (cd 12
 (sr [mv 13 4,mv 2 13]
 (.ret))
 (.skip)))))
 (.aL [bc 14 .add 7 1,mv 7 14])))
def A.b30:aq:=sr [mc 2 0]
 (.seq (sr [mv 5 0,ln 6 5,mc 7 0]
 (.block 0 (.loop A.zbP)))
 (sr [mc 2 0]
 (.ret)))
theorem A.c30:A.F 30=some ⟨15,[.tmp 2],A.b30⟩:=by kernel_rfl
def A.k30:=@A.kk 30 _ _ _ A.c30 rfl
theorem Yco{h:T O}{N:Nat}{v:V}{l:List Int}{w:List Nat}(hs:Sl h N v (dI l))(hl:l.length<1000):A.C.call (.func 30 [] []) [v] ⟨h,N,w⟩=some (.int .i64 (bV l),⟨h,N,w⟩):=by
 apply Call.eq
 have hlen:=hs.len
 rw[fh]at hlen
 rw[aP,A.k30 (by simp)]
 simp[A.b30,hlen]
 refine bN [(2,2),(4,4),(7,14)] (fun e r st=>st=⟨h,N,[]⟩/\((e=.exit 0/\bV l=0)\/(e=.ret/\r.get 2=some (.int .i64 (bV l))))) (fun m r st=>st=⟨h,N,[]⟩/\∃k,m=l.length-k/\k<=l.length/\r.get 7=some (.int .i64 k)/\bV l=bV (l.drop k)) l.length ?_ ?_ ?_
 ·exact⟨rfl,0,by omega,by omega,by simp,by simp⟩
 ·rintro m r _ hr hf ⟨rfl,k,rfl,hk,h7,hz⟩
  rw[bn]
  by_cases aB:k<l.length
  ·obtain⟨c,hc⟩:=bs aB
   obtain⟨i,o,cc,e,rw,q1,q2,q3,q4⟩:=hs.at (fb hc)
   rw[fP hc,bV]at hz
   have bU:(k:Int)<(l.length:Int):=by omega
   by_cases h0:c=0
   ·rw[aF h0]at hz
    simp(disch:=first|(simp;done)|omega|rfl) [A.zbP,hr,hf,h7,bU,hlen,q1,q3,q4,h0]
    exact⟨_,by omega,k+1,rfl,by omega,by simp,hz⟩
   ·rw[ar h0]at hz
    simp[A.zbP,hr,hf,h7,bU,hlen,q1,q3,q4,h0,hz]
  ·have:l.drop k=[]:=mi (by omega)
   rw[this,bV]at hz
   have:k=l.length:=by omega
   subst this
   simp[A.zbP,hr,hf,h7,hz]
 ·rintro _ r _ hr ⟨rfl,⟨rfl,hz⟩|⟨rfl,h2⟩⟩
  ·simp[hz]
  ·simp[h2]
theorem Ylp{h:T O}{N i:Nat}{w:List Nat}{a0 a1:Int}(hi:i<N):A.C.call (.func 30 [] []) [.slice i 0 2 (some 2) 1] ⟨h.set i (.cells [.int .i64 a0,.int .i64 a1] 3 true),N,w⟩=some (.int .i64 (bV [a0,a1]),⟨h.set i (.cells [.int .i64 a0,.int .i64 a1] 3 true),N,w⟩):=
 Yco (l:=[a0,a1]) (Sl.row (e:=3) (rw:=true) (cp:=some 2) hi (by simp[dI]) rfl (by simp)) (by simp)
variable {h:T O}
def A.zcs:aq:=sr [bi 87 .lss 86 85]
 (.seq (cd 87
 (.skip)
 (.exit 0))
 (.seq (.block 1 (sr [ia 88 1 84 86,ld 89 88,mv 18 89]
 (.aL [mv 90 16,mv 91 18,⟨(some 92),.aY 23 1 1 [.aa] [(0,1,(.tmp 91))],none⟩,mv 93 1,c2 94 21 92 93,⟨(some 95),.aI 1 (.tmp 94) (.const (.int .i64 0)),none⟩,ld 96 95,mv 97 18,c2 98 20 96 97,⟨(some 99),.aY 36 1 1 [(.str [])] [(0,1,(.tmp 98))],none⟩,⟨(some 100),.append 1 16 36 [(.str [])] (.tmp 90) (.tmp 99),none⟩,mv 16 100])))
 (.aL [bc 101 .add 86 1,mv 86 101])))
def A.zct:aq:=sr [mv 102 5,mv 103 6,mv 104 14,mv 105 11,⟨(some 106),.call (.const (.func 22 [] [])) [(.tmp 102),(.tmp 103),(.tmp 104),(.tmp 105)],none⟩,mv 107 106,mg 108 7 107,mg 109 8 107,mg 110 15 107,mg 111 12 107,⟨(some 112),.call (.const (.func 22 [] [])) [(.tmp 108),(.tmp 109),(.tmp 110),(.tmp 111)],(some (107,true))⟩,pf 113 107 112,mv 114 113,mg 115 9 114,mg 116 10 114,mg 117 16 114,mg 118 13 114,⟨(some 119),.call (.const (.func 22 [] [])) [(.tmp 115),(.tmp 116),(.tmp 117),(.tmp 118)],(some (114,true))⟩,pf 120 114 119,mv 121 120,⟨(some 122),.call (.const (.func 10 [] [])) [],(some (121,true))⟩,pf 123 121 122,mv 4 123]
 (.ret)
def A.zcu:aq:=.seq (sr [mv 82 13,ei 83 82 0]
 (cd 83
 (sr [mv 84 0,ln 85 84,mc 86 0]
 (.block 0 (.loop A.zcs)))
 (.skip)))
 A.zct
def A.zcv:aq:=.seq (sr [mv 76 12,ei 77 76 0]
 (cd 77
 (.aL [mv 78 0,c1 79 19 78,mv 80 1,c2 81 18 79 80,mv 15 81])
 (.skip)))
 A.zcu
def A.zcw:aq:=.seq (sr [mv 71 11,ei 72 71 0]
 (cd 72
 (.aL [mv 73 0,mv 74 1,c2 75 18 73 74,mv 14 75])
 (.skip)))
 A.zcv
def A.zcx:aq:=.seq (sr [mv 65 12,ei 66 65 0]
 (cd 66
 (.aL [mv 67 1,mv 68 0,ln 69 68,c2 70 16 67 69,mv 12 70])
 (.skip)))
 A.zcw
def A.zcy:aq:=.seq (sr [mv 51 11,ei 52 51 0]
 (cd 52
 (.aS [mv 53 1,mv 54 0,⟨(some 55),.aI 1 (.tmp 54) (.const (.int .i64 0)),none⟩,ld 56 55,ln 57 56,c2 58 16 53 57,mv 59 1,mv 60 0,⟨(some 61),.aI 1 (.tmp 60) (.const (.int .i64 0)),none⟩,ld 62 61,ln 63 62,⟨(some 64),.call (.const (.func 17 [] [])) [(.tmp 59),(.tmp 63),(.const (.int .i64 0))],none⟩,mv 11 58,mv 13 64] [0,0,2,6,14,31,0,0,128,384,896,2047,4095,8191])
 (.skip)))
 A.zcx
def A.b3:aq:=sr [⟨(some 4),.aZ (.const (.bool false)),none⟩]
 (.seq (sr [mv 19 0,⟨(some 20),.call (.const (.func 8 [] [])) [(.tmp 19),(.const (.int .i64 6)),(.const (.int .i64 6))],none⟩,⟨(some 21),.un .not (.tmp 20),none⟩,mv 22 21,mh 23 1 22,⟨(some 24),.call (.const (.func 9 [] [])) [(.tmp 23),(.const (.int .i64 6))],(some (22,false))⟩,⟨(some 25),.un .not (.tmp 24),(some (22,false))⟩,pt 26 22 25]
 (cd 26
 (sr [⟨(some 27),.call (.const (.func 10 [] [])) [],none⟩,mv 4 27]
 (.ret))
 (.skip)))
 (sr [mv 29 0,mv 30 1,c2 31 11 29 30,mv 28 31,xt 32 28 0,xt 33 28 1,mv 5 32,mv 6 33]
 (sr [mv 35 0,mv 36 1,c2 37 12 35 36,mv 34 37,xt 38 34 0,xt 39 34 1,mv 7 38,mv 8 39]
 (sr [mv 41 0,mv 42 1,c2 43 13 41 42,mv 40 43,xt 44 40 0,xt 45 40 1,mv 9 44,mv 10 45]
 (sr [mv 46 0,⟨(some 47),.call (.const (.func 14 [] [])) [(.tmp 46),(.const (.int .i64 64)),(.const (.int .i64 64))],none⟩,mv 11 47]
 (sr [mv 48 0,c1 49 15 48,mv 12 49]
 (sr [mv 50 11,mv 13 50]
 (sr [mN 14,mN 15,mN 16]
 A.zcy))))))))
theorem A.c3:A.F 3=some ⟨124,[.tmp 4],A.b3⟩:=by kernel_rfl
def A.k3:=@A.kk 3 _ _ _ A.c3 rfl
theorem Nf{N:Nat}{w:List Nat}(hP:jn h N):A.C.call (.func 10 [] []) [] ⟨h,N,w⟩=some (.bool true,⟨h,N,w⟩):=by
 exact A.known hP.2
structure Wt (e:Int) (l:List Rat) (v:V) (c:Int) (u:V) (h:T O) (n:Nat):Prop where
 p:jn h n
 tp:TP e l v c h n
 tx:e=0->Tx h n u l
 len:l.length<100000
 ux:e=0->∀q∈l,(aN q).length<1000000
theorem Wt.eq{n:Nat}{v u:V}{e c:Int}{l:List Rat}(s:Wt e l v c u h n)(w:List Nat):A.C.call (.func 22 [] []) [v,.int .i64 c,u,.int .i64 e] ⟨h,n,w⟩=some (.bool true,⟨h,n,w⟩):=Ylo s.tp s.tx s.len s.ux
theorem Wt.ad{h':T O}{n n':Nat}{v u:V}{e c:Int}{l:List Rat}(s:Wt e l v c u h n)(k:ab h n h' n'):Wt e l v c u h' n':=⟨s.p.ad k,s.tp.ad k,fun a=>(s.tx a).ad k,s.len,s.ux⟩
end Go.Mx
