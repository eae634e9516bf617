/-
  lensletref01: common, parse.
-/
import Derived.Test.YtlbophlgohokkaaGreatDoorRbD
set_option linter.all false
namespace Go.Mx
open Go Go.Proofs
variable {s:a_}
set_option maxRecDepth 1000000
def A.pF:aq:=.seq (sr [mv 7 1,ln 8 7,bc 9 .gtr 8 0]
 (cd 9
 (.skip)
 (.exit 0)))
 (.block 1 (sr [mv 11 0,mv 12 1,c2 13 228 11 12,mv 10 13,xt 14 10 0,xt 15 10 1,mv 5 14,mv 6 15]
 (.aM [mv 16 1,mv 17 6,mv 0 16,mv 1 17])))
def A.b161:aq:=sr [mN 4]
 (.seq (.block 0 (.loop A.pF))
 (sr [mv 18 0,mv 4 18]
 (.ret)))
theorem A.c161:A.F 161=some ⟨19,[.tmp 4],A.b161⟩:=by kernel_rfl
def A.k161:=@A.kk 161 _ _ _ A.c161 rfl
def A.jd:aq:=.seq (sr [mv 16 0,⟨(some 17),.len 0 (.tmp 16),none⟩,bc 18 .gtr 17 9]
 (cd 18
 (.skip)
 (.exit 0)))
 (.block 1 (sr [mv 19 4,mv 20 0,mv 21 0,⟨(some 22),.len 0 (.tmp 21),none⟩,bc 23 .sub 22 9,⟨(some 24),.az (.tmp 20) (some (.tmp 23)) none,none⟩,c1 25 229 24,⟨(some 26),.aO 3 1 1 [(.int .i64 0)] [(0,1,(.tmp 25))],none⟩,⟨(some 27),.append 1 8 3 [(.int .i64 0)] (.tmp 19) (.tmp 26),none⟩,mv 4 27]
 (.aM [mv 28 0,mv 29 0,⟨(some 30),.len 0 (.tmp 29),none⟩,bc 31 .sub 30 9,⟨(some 32),.az (.tmp 28) none (some (.tmp 31)),none⟩,mv 0 32])))
def A.b226:aq:=sr [⟨(some 2),.alloc [(.bool false),.aa] 175,none⟩]
 (sr [mv 5 0,⟨(some 6),.len 0 (.tmp 5),none⟩,bc 7 .gtr 6 0,mv 8 7,mg 9 0 8,⟨(some 10),.aQ (.tmp 9) (.const (.int .i64 0)),(some (8,true))⟩,⟨(some 11),.bin .eql (.aI .int) true (.tmp 10) (.const (.int .u8 45)),(some (8,true))⟩,pf 12 8 11,mv 3 12]
 (.seq (sr [mv 13 3]
 (cd 13
 (.aM [mv 14 0,⟨(some 15),.az (.tmp 14) (some (.const (.int .i64 1))) none,none⟩,mv 0 15])
 (.skip)))
 (sr [mN 4]
 (.seq (.block 0 (.loop A.jd))
 (sr [mv 33 3,mv 34 4,mv 35 0,c1 36 229 35,⟨(some 37),.aO 3 1 1 [(.int .i64 0)] [(0,1,(.tmp 36))],none⟩,⟨(some 38),.append 1 8 3 [(.int .i64 0)] (.tmp 34) (.tmp 37),none⟩,c2 39 234 33 38,⟨none,.store 2 (.tmp 2) (.tmp 39),none⟩]
 (.ret))))))
theorem A.c226:A.F 226=some ⟨40,[.cell 2 (some 2)],A.b226⟩:=by kernel_rfl
def A.k226:=@A.kk 226 _ _ _ A.c226 rfl
theorem On{h:T O}{N:Nat}{u v:V}{a b:Nat}(hu:Dn h N u a)(hv:Dn h N v b)(hl:(ds a).length<1000000000000)(kl:(ds b).length<1000000000000):Fn A.C 161 [u,v] h N (fun x h' n'=>Dn h' n' x (Nat.gcd a b)):=by
 intro w
 rw[aR,A.k161 (by simp)]
 simp[A.b161]
 refine bQ [(0,1),(5,17)] (fun e r st=>e=.exit 0/\ad N st.w=[]/\ab h N st.h st.n/\∃x,r.get 0=some x/\Dn st.h st.n x (Nat.gcd a b)) (fun m r st=>ad N st.w=[]/\ab h N st.h st.n/\∃x y c,r.get 0=some x/\r.get 1=some y/\Dn st.h st.n x c/\Dn st.h st.n y m/\Nat.gcd c m=Nat.gcd a b/\(ds c).length<1000000000000/\(ds m).length<1000000000000) b ?_ ?_ ?_
 ·exact⟨by simp,ab.refl,u,v,a,by simp,by simp,hu,hv,rfl,hl,kl⟩
 ·rintro m r ⟨H,n1,W⟩ hr hf ⟨hW,hK,x,y,c,h0,h1,hx,hy,hg,l1,l2⟩
  simp only at hW hK hx hy
  have ly:=hy.len
  rw[gk]at ly
  rw[bA]
  by_cases hm:m=0
  ·subst hm
   have z0:(ds 0).length=0:=by rw[qA];rfl
   rw[z0]at ly
   simp at hg
   simp[A.pF,hf,h0,h1,ly,hW,hK]
   rw[<-hg];exact hx
  ·have bJ:(ds m).length≠0:=fun hc=>hm (zX.1 (qa hc))
   have p1:(0:Int)<((ds m).length:Int):=by omega
   have p2:0<(ds m).length:=by omega
   have p3:ds m≠[]:=fun hc=>bJ (by rw[hc];rfl)
   simp[A.pF,h0,h1,ly,p2]
   refine ax (KL hx hy (by omega) l1 l2) ?_
   rintro z h3 n3 k3 ⟨q,r',rfl,hq,SK⟩
   simp[hf,h1,hW]
   refine⟨c%m,jg _ (by omega),hK.trans k3,m,hy.ae k3,SK,?_,l2,?_⟩
   ·rw[<-hg,Nat.gcd_comm c m,Nat.gcd_rec m c,Nat.gcd_comm]
   ·have:=rG (a:=c%m) (b:=m) (Nat.le_of_lt (jg _ (by omega)));omega
 ·rintro _ r ⟨H,n1,W⟩ hr ⟨rfl,hW,hK,x,h0,hx⟩
  simp only at hW hK hx
  simp[h0,aA,hW,hK]
  exact hx
theorem Zvx(x:a_):∀(y:a_),aB (x++y)=aB x*10^y.length+aB y:=by
 have key:∀(y:a_) (n:Nat),y.foldl (fun n (c:UInt8)=>10*n+(c.toNat-48)) n=n*10^y.length+y.foldl (fun n (c:UInt8)=>10*n+(c.toNat-48)) 0:=by
  intro y
  induction y with
  |nil=>simp
  |cons c y ih=>
   intro n
   rw[List.foldl_cons,List.foldl_cons,ih,ih (10*0+(c.toNat-48)),bh,fL]
   grind
 intro y
 unfold aB
 rw[List.foldl_append,key]
theorem Zsq(h:ct s=true)(k:Nat):ct (s.take k)=true:=by
 unfold ct at*
 rw[m8]at*
 exact fun c hc=>h c (rQ hc)
theorem Oo(h:ct s=true)(k:Nat):ct (s.drop k)=true:=by
 unfold ct at*
 rw[m8]at*
 exact fun c hc=>h c (List.mem_of_mem_drop hc)
def Oq(h0:T O)(N:Nat)(s:a_)(m:Nat)(r:T V)(st:St):Prop:=ad N st.w=[]/\ab h0 N st.h st.n/\∃cur w l,r.get 0=some (.str cur)/\cur.length=m/\1<=m/\m<=s.length/\ct cur=true/\r.get 4=some w/\Own 1 3 N st.h st.n w (na l)/\Di l/\l.length+m<=s.length/\vI l+pI l.length*(aB cur:Nat)=(aB s:Nat)
theorem Ot(hd:ct s=true)(h1:1<=s.length)(h2:s.length<=3000000000){h:T O}{N:Nat}:Fn A.C 226 [.str s] h N (fun v h' n'=>Rg h' n' v (aB s:Nat)):=by
 intro w
 obtain⟨c,hc⟩:=bV (l:=s) (k:=0) (by omega)
 have mV:=HW hd hc
 have nf:s.head?=some c:=by cases s with
  |nil=>simp at hc
  |cons=>simpa using hc
 have a1:¬cB c=45:=by omega
 have a2:(0:Int)<(s.length:Int):=by omega
 have a3:0<s.length:=by omega
 have bJ:s≠[]:=fun h=>by rw[h]at h1;simp at h1
 rw[aR,A.k226 (by simp)]
 simp(disch:=first|(simp;done)|omega|rfl) [-getElem?_pos,A.b226,a1,a3,hc]
 refine bQ [(0,0),(4,4),(16,32)] (fun e r st=>e=.exit 0/\∃m,m<=9/\Oq (h.set N (.cells [.bool false,.aa] 175 true)) (N+1) s m r st) (Oq (h.set N (.cells [.bool false,.aa] 175 true)) (N+1) s) s.length ?_ ?_ ?_
 ·exact⟨by simp,ab.refl,s,.aa,[],by simp,rfl,h1,aS _,hd,by simp,Own.nil,Di.nil,by simp,by simp[vI,pI]⟩
 ·rintro m r ⟨H,n1,W⟩ hr hf ⟨hW,hK,cur,u,l,g0,dp,m1,m2,mV,g4,ho,gL,DU,hv⟩
  simp only at hW hK ho
  subst dp
  rw[bA]
  by_cases h9:9<cur.length
  ·have Ff:(9:Int)<(cur.length:Int):=by omega
   have eX:=hK.le
   have Fg:=Kr (s:=cur.drop (cur.length-9)) (st:=⟨H,n1,W⟩) (Oo mV _) (by simp;omega)
   have Ao:((cur.length:Int)-9).toNat=cur.length-9:=by omega
   have Cq:=yW (Oo mV (cur.length-9))
   have jx:(cur.drop (cur.length-9)).length=9:=by simp;omega
   rw[jx]at Cq
   have iB:=Zvx (cur.take (cur.length-9)) (cur.drop (cur.length-9))
   rw[yD,jx,show (10:Nat)^9=1000000000 by decide]at iB
   generalize hD:aB (cur.drop (cur.length-9))=D at*
   obtain⟨v',h',w',e1,e2,e3,e4,e5⟩:=pU (x:=[.int .i64 (D:Int)]) (u:=.slice n1 0 1 (some 1) 1) (bytes:=8) (w:=W) (ho.ae (ab.refl.new (.cells [.int .i64 (D:Int)] 3 true))) (by omega) (by decide) rfl (by simp[eC,St.row,aJ]) (by rw[z_];omega)
   rw[<-BF]at e5
   simp(disch:=first|(simp;done)|omega|rfl) [A.jd,hf,g0,g4,Ff,Ao,ay,Fg,ag,e1]
   refine⟨cur.length-9,by omega,⟨by rw[e2];exact hW,(hK.new _).then e3,cur.take (cur.length-9),v',l++[(D:Int)],by simp,by simp,by omega,by omega,Zsq mV _,by simp,e5,gL.app (Di.one (by omega) (by omega)),by simp;omega,?_⟩⟩
   rw[zV,fQ,vO,rU,<-hv]
   have Fh:((aB cur:Nat):Int)=(aB (cur.take (cur.length-9)):Nat)*1000000000+D:=by omega
   rw[Fh]
   generalize ((aB (cur.take (cur.length-9)):Nat):Int)=X
   generalize pI l.length=P
   grind
  ·have Ff:¬(9:Int)<(cur.length:Int):=by omega
   simp[A.jd,hf,g0,Ff]
   exact⟨cur.length,by omega,hW,hK,cur,u,l,by simp[g0],rfl,m1,m2,mV,by simp[g4],ho,gL,DU,hv⟩
 ·rintro _ r ⟨H,n1,W⟩ hr ⟨rfl,m,m9,hW,hK,cur,u,l,g0,dp,m1,m2,mV,g4,ho,gL,DU,hv⟩
  simp only at hW hK ho
  subst dp
  have eX:=hK.le
  have Fg:=Kr (s:=cur) (st:=⟨H,n1,W⟩) mV (by omega)
  have Cq:=yW mV
  have hp9:=LU m9
  generalize hD:aB cur=D at*
  obtain⟨v',h',w',e1,e2,e3,e4,e5⟩:=pU (x:=[.int .i64 (D:Int)]) (u:=.slice n1 0 1 (some 1) 1) (bytes:=8) (w:=W) (ho.ae (ab.refl.new (.cells [.int .i64 (D:Int)] 3 true))) (by omega) (by decide) rfl (by simp[eC,St.row,aJ]) (by rw[z_];omega)
  rw[<-BF]at e5
  simp[hr,g0,g4,Fg,ag,e1]
  have jC:Di (l++[(D:Int)]):=gL.app (Di.one (by omega) (by omega))
  refine ax (uK (n:=aB s) e5.sl jC (by rw[zV];exact hv) (by simp;omega)) ?_
  rintro y h5 n5 k5 hy
  have kk:=((hK.new (.cells [.int .i64 (D:Int)] 3 true)).then e3).trans k5
  have uA:=kk.le
  have mH:=kk.get N (by omega)
  simp at mH
  obtain⟨u5,rfl,x6⟩:=hy
  have ED:=fun c1 (hc:c1.length=2)=>Sl.setInt (i:=N) (c1:=c1) (e1:=175) (w1:=true) x6 mH (by intro x hx k m;simp at hx;rcases hx with rfl|rfl<;>simp) hc
  have zr:=Sl.form x6 |>.one
  unfold V.one at zr
  have ow:ad N w'=[]:=KJ (uW N) (by rw[e2];exact hW)
  have k0:=(ab.refl (h:=h) (n:=N)).new (.cells [.bool false,.aa] 175 true)
  simp[hr,mH,ag,bW,zr,aU,aJ,aA,ow]
  exact⟨(k0.trans kk).set (aS N),u5,by simp,by simpa[Dn]using ED _ rfl⟩
variable {s:a_}
def A.b160:aq:=sr [⟨(some 2),.alloc [(.bool false),.aa] 175,none⟩,⟨(some 3),.alloc [(.bool false),.aa] 175,none⟩]
 (sr [mv 6 0,mv 4 6]
 (sr [mv 7 4,c1 8 158 7,mv 5 8]
 (.seq (sr [mv 9 5,mv 10 4,⟨(some 11),.len 0 (.tmp 10),none⟩,⟨(some 12),.bin .eql (.aI .int) false (.tmp 9) (.tmp 11),none⟩]
 (cd 12
 (sr [mv 13 4,c1 14 226 13,⟨(some 15),.call (.const (.func 227 [] [])) [(.const (.int .i64 1))],none⟩,⟨none,.store 2 (.tmp 2) (.tmp 14),none⟩,⟨none,.store 2 (.tmp 3) (.tmp 15),none⟩]
 (.ret))
 (.skip)))
 (.seq (.aV [mv 16 4,mv 17 5,⟨(some 18),.az (.tmp 16) none (some (.tmp 17)),none⟩,c1 19 226 18,mv 20 4,mv 21 5,bc 22 .add 21 1,⟨(some 23),.az (.tmp 20) (some (.tmp 22)) none,none⟩,c1 24 226 23,⟨none,.store 2 (.tmp 2) (.tmp 19),none⟩,⟨none,.store 2 (.tmp 3) (.tmp 24),none⟩] [0,0,3,7,0,0,32,112,255,511,1023])
 (.ret)))))
theorem A.c160:A.F 160=some ⟨25,[.cell 2 (some 2),.cell 3 (some 2)],A.b160⟩:=by kernel_rfl
def A.k160:=@A.kk 160 _ _ _ A.c160 rfl
def A.b93:aq:=sr [mc 2 0]
 (sr [mv 8 0,mv 3 8]
 (.seq (sr [mv 9 3,⟨(some 10),.len 0 (.tmp 9),none⟩,bc 11 .gtr 10 0,mv 12 11,mg 13 3 12,⟨(some 14),.aQ (.tmp 13) (.const (.int .i64 0)),(some (12,true))⟩,⟨(some 15),.bin .eql (.aI .int) true (.tmp 14) (.const (.int .u8 45)),(some (12,true))⟩,pf 16 12 15]
 (cd 16
 (.aM [mv 17 3,⟨(some 18),.az (.tmp 17) (some (.const (.int .i64 1))) none,none⟩,mv 3 18])
 (.skip)))
 (sr [mv 19 3,c1 20 158 19,mv 4 20]
 (.seq (sr [mv 21 3,mv 22 4,⟨(some 23),.az (.tmp 21) none (some (.tmp 22)),none⟩,c1 24 159 23,⟨(some 25),.un .not (.tmp 24),none⟩,mv 26 25,mh 27 0 26,⟨(some 28),.aQ (.tmp 27) (.const (.int .i64 0)),(some (26,false))⟩,⟨(some 29),.bin .eql (.aI .int) true (.tmp 28) (.const (.int .u8 45)),(some (26,false))⟩,mh 30 29 26,mg 31 3 30,mg 32 4 30,⟨(some 33),.az (.tmp 31) none (some (.tmp 32)),(some (30,true))⟩,⟨(some 34),.bin .eql (.aI .str) true (.tmp 33) (.const (.str [48])),(some (30,true))⟩,⟨(some 35),.pick (.tmp 30) (.tmp 34) (.const (.bool false)),(some (26,false))⟩,pt 36 26 35]
 (cd 36
 (sr [mc 2 1]
 (.ret))
 (.skip)))
 (.seq (sr [mv 37 4,mv 38 3,⟨(some 39),.len 0 (.tmp 38),none⟩,bi 40 .lss 37 39,mv 41 40,mg 42 3 41,mg 43 4 41,⟨(some 44),.bin .add (.node []) false (.tmp 43) (.const (.int .i64 1)),(some (41,true))⟩,⟨(some 45),.az (.tmp 42) (some (.tmp 44)) none,(some (41,true))⟩,⟨(some 46),.call (.const (.func 159 [] [])) [(.tmp 45)],(some (41,true))⟩,⟨(some 47),.un .not (.tmp 46),(some (41,true))⟩,mg 48 47 41,mh 49 3 48,mh 50 4 48,⟨(some 51),.bin .add (.node []) false (.tmp 50) (.const (.int .i64 1)),(some (48,false))⟩,⟨(some 52),.az (.tmp 49) (some (.tmp 51)) none,(some (48,false))⟩,⟨(some 53),.bin .eql (.aI .str) true (.tmp 52) (.const (.str [48])),(some (48,false))⟩,⟨(some 54),.pick (.tmp 48) (.const (.bool true)) (.tmp 53),(some (41,true))⟩,mg 55 54 41,mh 56 3 55,mh 57 4 55,⟨(some 58),.bin .add (.node []) false (.tmp 57) (.const (.int .i64 1)),(some (55,false))⟩,⟨(some 59),.az (.tmp 56) (some (.tmp 58)) none,(some (55,false))⟩,⟨(some 60),.bin .eql (.aI .str) true (.tmp 59) (.const (.str [49])),(some (55,false))⟩,⟨(some 61),.pick (.tmp 55) (.const (.bool true)) (.tmp 60),(some (41,true))⟩,pf 62 41 61]
 (cd 62
 (sr [mc 2 1]
 (.ret))
 (.skip)))
 (.seq (sr [mv 63 4,bc 64 .gtr 63 600,mv 65 64,mh 66 3 65,⟨(some 67),.len 0 (.tmp 66),(some (65,false))⟩,mh 68 4 65,⟨(some 69),.bin .sub (.node []) false (.tmp 67) (.tmp 68),(some (65,false))⟩,⟨(some 70),.bin .sub (.node []) false (.tmp 69) (.const (.int .i64 1)),(some (65,false))⟩,⟨(some 71),.bin .gtr (.node []) false (.tmp 70) (.const (.int .i64 600)),(some (65,false))⟩,pt 72 65 71]
 (cd 72
 (sr [mc 2 4]
 (.ret))
 (.skip)))
 (.seq (sr [mv 73 4,mv 74 3,⟨(some 75),.len 0 (.tmp 74),none⟩,bi 76 .lss 73 75]
 (cd 76
 (sr [mv 78 3,c1 79 160 78,mv 77 79,xt 80 77 0,xt 81 77 1,⟨(some 5),.alloc [(.bool false),.aa] 175,none⟩,⟨(some 6),.alloc [(.bool false),.aa] 175,none⟩,⟨none,.store 2 (.tmp 5) (.tmp 80),none⟩,⟨none,.store 2 (.tmp 6) (.tmp 81),none⟩]
 (sr [fa 82 1 5,ld 83 82,fa 84 1 6,ld 85 84,c2 86 161 83 85,mv 7 86]
 (sr [mv 87 7,ln 88 87,ni 89 88 1,mv 90 89,mh 91 7 90,⟨(some 92),.aN 1 (.tmp 91) (.const (.int .i64 0)),(some (90,false))⟩,⟨(some 93),.load none (.tmp 92),(some (90,false))⟩,⟨(some 94),.bin .neq (.aI .int) true (.tmp 93) (.const (.int .i64 1)),(some (90,false))⟩,pt 95 90 94]
 (cd 95
 (sr [mc 2 1]
 (.ret))
 (.skip)))))
 (.skip)))
 (sr [mc 2 0]
 (.ret)))))))))
theorem A.c93:A.F 93=some ⟨96,[.tmp 2],A.b93⟩:=by kernel_rfl
def A.k93:=@A.kk 93 _ _ _ A.c93 rfl
theorem Zq7(hk:ah s<s.length)(hp:ct (s.take (ah s))=true)(hd:ct (s.drop (ah s+1))=true)(p1:1<=(s.take (ah s)).length)(d1:1<=(s.drop (ah s+1)).length)(hl:s.length<=100000){h:T O}{N:Nat}:Fn A.C 160 [.str s] h N (fun v h' n'=>∃x y,v=.aZ [.agg [.bool false,x],.agg [.bool false,y]]/\Dn h' n' x (aB (s.take (ah s)))/\Dn h' n' y (aB (s.drop (ah s+1)))):=by
 intro w
 rw[aR,A.k160 (by simp)]
 have cg:=fun st=>Ct (s:=s) (st:=st) (by omega)
 have c1:¬((ah s:Int)=(s.length:Int)):=by omega
 have c2:¬(ah s=s.length):=by omega
 have c3:(ah s:Int)<=(s.length:Int):=by omega
 have c4:(ah s:Int)+1<=(s.length:Int):=by omega
 have c5:((ah s:Int)+1).toNat=ah s+1:=by omega
 simp[A.b160,cg,c1,c3,ay]
 refine ax (Ot hp p1 (by simp;omega)) ?_
 rintro v1 h1 n1 k1 ⟨x,rfl,hx⟩
 have nx:¬((aB (s.take (ah s)):Nat):Int)<0:=by omega
 simp(disch:=omega) [c5,ay,nx]
 refine ax (Ot hd d1 (by simp;omega)) ?_
 rintro v2 h2 n2 k2 ⟨y,rfl,hy⟩
 have ny:¬((aB (s.drop (ah s+1)):Nat):Int)<0:=by omega
 have eR:=k1.le
 have f_:=k2.le
 have hx:=Dn.ae hx k2
 have r0:=(k2.get N (by omega)).trans (k1.get N (by omega))
 have r1:=(k2.get (N+1) (by omega)).trans (k1.get (N+1) (by omega))
 simp at r0 r1
 have im:∀u∈([.bool false,.aa]:List V),∀k n,u≠V.int k n:=by intro u hu k n;simp at hu;rcases hu with rfl|rfl<;>simp
 have uM:=(Sl.form hx).one
 have q_:=(Sl.form hy).one
 unfold V.one at uM q_
 have Ou:N<n1:=by omega
 have Ov:N<n2:=by omega
 have Ow:N+1<n2:=by omega
 have d4':¬N+1=N:=by omega
 simp[r0,r1,ny,ag,bW,uM,q_,Ou,Ov,Ow,aU,aJ,dw.dB,aA]
 have xB:=Sl.setInt (i:=N) (c1:=[.bool false,x]) (e1:=175) (w1:=true) hx r0 im rfl
 have qh:=Sl.setInt (i:=N) (c1:=[.bool false,x]) (e1:=175) (w1:=true) hy r0 im rfl
 have KP:(h2.set N (.cells [.bool false,x] 175 true)).get (N+1)=some (.cells [.bool false,.aa] 175 true):=by rw[T.ai,au (by omega)];exact r1
 have Gt:=Sl.setInt (i:=N+1) (c1:=[.bool false,y]) (e1:=175) (w1:=true) xB KP im rfl
 have uf:=Sl.setInt (i:=N+1) (c1:=[.bool false,y]) (e1:=175) (w1:=true) qh KP im rfl
 have k0:=((ab.refl (h:=h) (n:=N)).new (.cells [.bool false,.aa] 175 true)).new (.cells [.bool false,.aa] 175 true)
 exact⟨(((k0.trans k1).trans k2).set (aS N)).set (by omega),x,y,⟨rfl,rfl⟩,Gt,uf⟩
theorem Ox{s:a_}(h:gS s=true):ct s=true/\1<=s.length:=by
 cases s with
 |nil=>cases h
 |cons c s=>
  unfold gS at h
  rw[gW]at h
  exact⟨h.1,by simp⟩
theorem Oy:ds 1=[1]:=by rw[xg (by decide),qA];rfl
theorem Oz(h:ct s=true)(hl:s.length<=100000):(ds (aB s)).length<1000000000000:=by
 have h1:=yW h
 have h2:(10:Nat)^s.length<=1000000000^s.length:=CX (by decide) _
 have:=Gd (n:=aB s) (k:=s.length) (by omega)
 omega
theorem Zrb{s:a_}(hl:s.length<=100000){h:T O}{N:Nat}:Fn A.C 93 [.str s] h N (fun v _ _=>v=.int .i64 (bk s:Nat)):=by
 intro w
 rw[aR,A.k93 (by simp)]
 cases s with
 |nil=>
  have cg:=fun st=>Ct (s:=[]) (st:=st) (by simp)
  have eH:=fun st=>Kq (s:=[]) (st:=st) (by simp)
  simp[A.b93,cg,ah,ay,eH,gS,aA]
  exact⟨ab.refl,rfl⟩
 |cons c t=>
  by_cases h45:cB c=45
  ·have dR:bk (c::t)=ji true (t.take (ah t)) (decide (ah t<t.length)) (t.drop (ah t+1)):=by
    have:c.toNat=45:=by unfold cB at h45;omega
    simp[bk,GI,cv,bp,this]
   rw[dR]
   have cf:(0:Int)<(t.length:Int)+1:=by omega
   have cg:=fun st=>Ct (s:=t) (st:=st) (by simp at hl;omega)
   have eH:=fun st=>Kq (s:=t.take (ah t)) (st:=st) (by simp at hl ⊢;omega)
   have jG:(ah t:Int)<=(t.length:Int):=by have:=B3 t;omega
   have EV:ah t<=t.length:=B3 t
   have vj:(t.take (ah t)).length=ah t:=by simp;omega
   have jx:(t.drop (ah t+1)).length=t.length-(ah t+1):=by simp
   have gb:=h45
   have nf:=h45
   have Ua:=h45
   simp at hl
   generalize hp:t.take (ah t)=p at*
   generalize mE:t.drop (ah t+1)=d at*
   by_cases hA:gS p=true
   ·by_cases hz:p=[48]
    ·have e1:(p==[48])=true:=by simp[hz]
     simp(disch:=first|(simp;done)|omega|(simp only[bl,bG,bh];omega)|rfl) [A.b93,cf,cg,eH,hp,ay,gb,hA,e1,aA]
     exact⟨ab.refl,by simp[ji,fJ,hz]⟩
    ·have e1:(p==[48])=false:=by simp[hz]
     by_cases nh:ah t<t.length
     ·have fv:(ah t:Int)<(t.length:Int):=by omega
      have nM:=fun st=>Kq (s:=d) (st:=st) (by omega)
      by_cases hD:gS d=true
      ·by_cases h48:d=[48]
       ·have e8:(d==[48])=true:=by simp[h48]
        simp(disch:=first|(simp;done)|omega|(simp only[bl,bG,bh];omega)|rfl) [A.b93,cf,cg,eH,hp,mE,ay,gb,hA,e1,nh,fv,nM,hD,e8,aA]
        exact⟨ab.refl,by simp[ji,fJ,h48]⟩
       ·have e8:(d==[48])=false:=by simp[h48]
        by_cases wx:d=[49]
        ·have e9:(d==[49])=true:=by simp[wx]
         simp(disch:=first|(simp;done)|omega|(simp only[bl,bG,bh];omega)|rfl) [A.b93,cf,cg,eH,hp,mE,ay,gb,hA,e1,nh,fv,nM,hD,e8,e9,aA]
         exact⟨ab.refl,by simp[ji,fJ,wx]⟩
        ·have e9:(d==[49])=false:=by simp[wx]
         have cZ:fJ true p true d=true:=by simp[fJ,hA,hD,h48,wx,hz]
         by_cases b6:600<p.length
         ·have b6':(600:Int)<(ah t:Int):=by omega
          simp(disch:=first|(simp;done)|omega|(simp only[bl,bG,bh];omega)|rfl) [A.b93,cf,cg,eH,hp,mE,ay,gb,hA,e1,nh,fv,nM,hD,e8,e9,b6',aA]
          exact⟨ab.refl,by simp[ji,cZ,b6]⟩
         ·have b6':¬(600:Int)<(ah t:Int):=by omega
          by_cases b7:600<d.length
          ·have b7':(600:Int)<(t.length:Int)-(ah t:Int)-1:=by omega
           simp(disch:=first|(simp;done)|omega|(simp only[bl,bG,bh];omega)|rfl) [A.b93,cf,cg,eH,hp,mE,ay,gb,hA,e1,nh,fv,nM,hD,e8,e9,b6',b7',aA]
           exact⟨ab.refl,by simp[ji,cZ,b6,b7]⟩
          ·have b7':¬(600:Int)<(t.length:Int)-(ah t:Int)-1:=by omega
           obtain⟨pa,pb⟩:=Ox hA
           obtain⟨da,db⟩:=Ox hD
           simp(disch:=first|(simp;done)|omega|(simp only[bl,bG,bh];omega)|rfl) [A.b93,cf,cg,eH,hp,mE,ay,gb,hA,e1,nh,fv,nM,hD,e8,e9,b6',b7']
           refine ax (Zq7 nh (by rw[hp];exact pa) (by rw[mE];exact da) (by rw[hp];exact pb) (by rw[mE];exact db) (by omega)) ?_
           rintro v1 h1 n1 k1 ⟨x,y,rfl,hx,hy⟩
           rw[hp]at hx
           rw[mE]at hy
           have uM:=(Sl.form hx).one
           have q_:=(Sl.form hy).one
           unfold V.one at uM q_
           have kx:=((((ab.refl (h:=h1) (n:=n1)).new (.cells [.bool false,.aa] 175 true)).new (.cells [.bool false,.aa] 175 true)).set (i:=n1) (o:=.cells [.bool false,x] 175 true) (aS n1)).set (i:=n1+1) (o:=.cells [.bool false,y] 175 true) (by omega)
           simp[ag,bW,uM,q_]
           refine ax (On (hx.ae kx) (hy.ae kx) (Oz pa (by omega)) (Oz da (by omega))) ?_
           rintro z h2 n2 k2 cX
           have kk:=(k1.trans kx).trans k2
           have lz:=cX.len
           rw[gk]at lz
           have iV:¬n1<N:=by have:=k1.le;omega
           have j0:¬n1+1<N:=by have:=k1.le;omega
           generalize hG:Nat.gcd (aB p) (aB d)=G at*
           by_cases g1:G=1
           ·subst g1
            rw[Oy]at lz
            obtain⟨b1,b2,b3,b4,b5,z1,z2,z3,z4⟩:=Sl.at (show Sl h2 n2 z (dI [1]) from Oy▸cX) (j:=0) (x:=.int .i64 1) rfl
            simp at z4
            simp[lz,z1,z3,z4,aA,iV,j0]
            exact⟨kk,by simp[ji,cZ,b6,b7,hG]⟩
           ·have qQ:ji true p true d=1:=by simp[ji,cZ,b6,b7,hG,g1]
            by_cases g2:(ds G).length=1
            ·obtain⟨gx,KQ⟩:=bV (l:=ds G) (k:=0) (by omega)
             obtain⟨b1,b2,b3,b4,b5,z1,z2,z3,z4⟩:=Sl.at (show Sl h2 n2 z (dI (ds G)) from cX) (fU KQ)
             simp at z4
             have Vz:¬gx=1:=fun hc=>g1 (by
              have hv:=fH G
              rw[Ks KQ,wU (by omega)]at hv
              simp[vI,pI]at hv
              omega)
             simp[lz,g2,z1,z3,z4,Vz,aA,iV,j0,qQ]
             exact kk
            ·have NJ:¬((ds G).length:Int)=1:=by omega
             simp[lz,NJ,aA,iV,j0,qQ]
             exact kk
      ·have hD:gS d=false:=by simpa using hD
       simp(disch:=first|(simp;done)|omega|(simp only[bl,bG,bh];omega)|rfl) [A.b93,cf,cg,eH,hp,mE,ay,gb,hA,e1,nh,fv,nM,hD,aA]
       exact⟨ab.refl,by simp[ji,fJ,hD]⟩
     ·have VA:ah t=t.length:=by omega
      have fv:¬(ah t:Int)<(t.length:Int):=by omega
      have cZ:fJ true p false d=true:=by simp[fJ,hA,hz]
      have VB:¬600<d.length:=by omega
      have b7':¬(600:Int)<(t.length:Int)-(ah t:Int)-1:=by omega
      by_cases b6:600<p.length
      ·have b6':(600:Int)<(ah t:Int):=by omega
       simp(disch:=first|(simp;done)|omega|(simp only[bl,bG,bh];omega)|rfl) [A.b93,cf,cg,eH,hp,ay,gb,hA,e1,nh,fv,b6',aA]
       exact⟨ab.refl,by simp[ji,cZ,b6]⟩
      ·have b6':¬(600:Int)<(ah t:Int):=by omega
       simp(disch:=first|(simp;done)|omega|(simp only[bl,bG,bh];omega)|rfl) [A.b93,cf,cg,eH,hp,ay,gb,hA,e1,nh,fv,b6',b7',aA]
       exact⟨ab.refl,by simp[ji,cZ,b6,VB]⟩
   ·have hA:gS p=false:=by simpa using hA
    simp(disch:=first|(simp;done)|omega|(simp only[bl,bG,bh];omega)|rfl) [A.b93,cf,cg,eH,hp,ay,gb,hA,aA]
    exact⟨ab.refl,by simp[ji,fJ,hA]⟩
  ·have KR:cv (c::t)=false:=by
    simp only[cv,decide_eq_false_iff_not];unfold cB at h45;omega
   obtain⟨t,ht⟩:∃t',t'=c::t:=⟨c::t,rfl⟩
   rw[<-ht]at hl KR ⊢
   have nf:t[0]?=some c:=by rw[ht];rfl
   have gb:t.head?=some c:=by rw[ht];rfl
   have hlen:0<t.length:=by rw[ht];simp
   have Ua:t≠[]:=by rw[ht];simp
   have qO:(0:Int)<(t.length:Int):=by omega
   have cf:0<t.length:=hlen
   clear ht
   have dR:bk t=ji false (t.take (ah t)) (decide (ah t<t.length)) (t.drop (ah t+1)):=by
    simp[bk,GI,bp,KR]
   rw[dR]
   have cg:=fun st=>Ct (s:=t) (st:=st) (by omega)
   have eH:=fun st=>Kq (s:=t.take (ah t)) (st:=st) (by simp;omega)
   have jG:(ah t:Int)<=(t.length:Int):=by have:=B3 t;omega
   have EV:ah t<=t.length:=B3 t
   have vj:(t.take (ah t)).length=ah t:=by simp;omega
   have jx:(t.drop (ah t+1)).length=t.length-(ah t+1):=by simp
   generalize hp:t.take (ah t)=p at*
   generalize mE:t.drop (ah t+1)=d at*
   by_cases hA:gS p=true
   ·have e1:True:=trivial
    by_cases nh:ah t<t.length
    ·have fv:(ah t:Int)<(t.length:Int):=by omega
     have nM:=fun st=>Kq (s:=d) (st:=st) (by omega)
     by_cases hD:gS d=true
     ·by_cases h48:d=[48]
      ·have e8:(d==[48])=true:=by simp[h48]
       simp(disch:=first|(simp;done)|omega|(simp only[bl,bG,bh];omega)|rfl) [-getElem?_pos,A.b93,cf,cg,eH,hp,mE,ay,nf,h45,hA,nh,fv,nM,hD,e8,aA]
       exact⟨ab.refl,by simp[ji,fJ,h48]⟩
      ·have e8:(d==[48])=false:=by simp[h48]
       by_cases wx:d=[49]
       ·have e9:(d==[49])=true:=by simp[wx]
        simp(disch:=first|(simp;done)|omega|(simp only[bl,bG,bh];omega)|rfl) [-getElem?_pos,A.b93,cf,cg,eH,hp,mE,ay,nf,h45,hA,nh,fv,nM,hD,e8,e9,aA]
        exact⟨ab.refl,by simp[ji,fJ,wx]⟩
       ·have e9:(d==[49])=false:=by simp[wx]
        have cZ:fJ false p true d=true:=by simp[fJ,hA,hD,h48,wx]
        by_cases b6:600<p.length
        ·have b6':(600:Int)<(ah t:Int):=by omega
         simp(disch:=first|(simp;done)|omega|(simp only[bl,bG,bh];omega)|rfl) [-getElem?_pos,A.b93,cf,cg,eH,hp,mE,ay,nf,h45,hA,nh,fv,nM,hD,e8,e9,b6',aA]
         exact⟨ab.refl,by simp[ji,cZ,b6]⟩
        ·have b6':¬(600:Int)<(ah t:Int):=by omega
         by_cases b7:600<d.length
         ·have b7':(600:Int)<(t.length:Int)-(ah t:Int)-1:=by omega
          simp(disch:=first|(simp;done)|omega|(simp only[bl,bG,bh];omega)|rfl) [-getElem?_pos,A.b93,cf,cg,eH,hp,mE,ay,nf,h45,hA,nh,fv,nM,hD,e8,e9,b6',b7',aA]
          exact⟨ab.refl,by simp[ji,cZ,b6,b7]⟩
         ·have b7':¬(600:Int)<(t.length:Int)-(ah t:Int)-1:=by omega
          obtain⟨pa,pb⟩:=Ox hA
          obtain⟨da,db⟩:=Ox hD
          simp(disch:=first|(simp;done)|omega|(simp only[bl,bG,bh];omega)|rfl) [-getElem?_pos,A.b93,cf,cg,eH,hp,mE,ay,nf,h45,hA,nh,fv,nM,hD,e8,e9,b6',b7']
          refine ax (Zq7 nh (by rw[hp];exact pa) (by rw[mE];exact da) (by rw[hp];exact pb) (by rw[mE];exact db) (by omega)) ?_
          rintro v1 h1 n1 k1 ⟨x,y,rfl,hx,hy⟩
          rw[hp]at hx
          rw[mE]at hy
          have uM:=(Sl.form hx).one
          have q_:=(Sl.form hy).one
          unfold V.one at uM q_
          have kx:=((((ab.refl (h:=h1) (n:=n1)).new (.cells [.bool false,.aa] 175 true)).new (.cells [.bool false,.aa] 175 true)).set (i:=n1) (o:=.cells [.bool false,x] 175 true) (aS n1)).set (i:=n1+1) (o:=.cells [.bool false,y] 175 true) (by omega)
          simp[ag,bW,uM,q_]
          refine ax (On (hx.ae kx) (hy.ae kx) (Oz pa (by omega)) (Oz da (by omega))) ?_
          rintro z h2 n2 k2 cX
          have kk:=(k1.trans kx).trans k2
          have lz:=cX.len
          rw[gk]at lz
          have iV:¬n1<N:=by have:=k1.le;omega
          have j0:¬n1+1<N:=by have:=k1.le;omega
          generalize hG:Nat.gcd (aB p) (aB d)=G at*
          by_cases g1:G=1
          ·subst g1
           rw[Oy]at lz
           obtain⟨b1,b2,b3,b4,b5,z1,z2,z3,z4⟩:=Sl.at (show Sl h2 n2 z (dI [1]) from Oy▸cX) (j:=0) (x:=.int .i64 1) rfl
           simp at z4
           simp[lz,z1,z3,z4,aA,iV,j0]
           exact⟨kk,by simp[ji,cZ,b6,b7,hG]⟩
          ·have qQ:ji false p true d=1:=by simp[ji,cZ,b6,b7,hG,g1]
           by_cases g2:(ds G).length=1
           ·obtain⟨gx,KQ⟩:=bV (l:=ds G) (k:=0) (by omega)
            obtain⟨b1,b2,b3,b4,b5,z1,z2,z3,z4⟩:=Sl.at (show Sl h2 n2 z (dI (ds G)) from cX) (fU KQ)
            simp at z4
            have Vz:¬gx=1:=fun hc=>g1 (by
             have hv:=fH G
             rw[Ks KQ,wU (by omega)]at hv
             simp[vI,pI]at hv
             omega)
            simp[lz,g2,z1,z3,z4,Vz,aA,iV,j0,qQ]
            exact kk
           ·have NJ:¬((ds G).length:Int)=1:=by omega
            simp[lz,NJ,aA,iV,j0,qQ]
            exact kk
     ·have hD:gS d=false:=by simpa using hD
      simp(disch:=first|(simp;done)|omega|(simp only[bl,bG,bh];omega)|rfl) [-getElem?_pos,A.b93,cf,cg,eH,hp,mE,ay,nf,h45,hA,nh,fv,nM,hD,aA]
      exact⟨ab.refl,by simp[ji,fJ,hD]⟩
    ·have VA:ah t=t.length:=by omega
     have fv:¬(ah t:Int)<(t.length:Int):=by omega
     have cZ:fJ false p false d=true:=by simp[fJ,hA]
     have VB:¬600<d.length:=by omega
     have b7':¬(600:Int)<(t.length:Int)-(ah t:Int)-1:=by omega
     by_cases b6:600<p.length
     ·have b6':(600:Int)<(ah t:Int):=by omega
      simp(disch:=first|(simp;done)|omega|(simp only[bl,bG,bh];omega)|rfl) [-getElem?_pos,A.b93,cf,cg,eH,hp,ay,nf,h45,hA,nh,fv,b6',aA]
      exact⟨ab.refl,by simp[ji,cZ,b6]⟩
     ·have b6':¬(600:Int)<(ah t:Int):=by omega
      simp(disch:=first|(simp;done)|omega|(simp only[bl,bG,bh];omega)|rfl) [-getElem?_pos,A.b93,cf,cg,eH,hp,ay,nf,h45,hA,nh,fv,b6',b7',aA]
      exact⟨ab.refl,by simp[ji,cZ,b6,VB]⟩
   ·have hA:gS p=false:=by simpa using hA
    simp(disch:=first|(simp;done)|omega|(simp only[bl,bG,bh];omega)|rfl) [-getElem?_pos,A.b93,cf,cg,eH,hp,ay,nf,h45,hA,aA]
    exact⟨ab.refl,by simp[ji,fJ,hA]⟩
end Go.Mx
