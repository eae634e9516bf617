/-
  lensletref01: common, parse.
-/
import Derived.Test.YtlbophlgohokkaaGreatDoorRbD
set_option linter.all false
namespace Go.Mx
open Go Go.Proofs
variable {s:aX}
set_option maxRecDepth 1000000
def A.zb4:aq:=.seq (sr [mv 7 1,ln 8 7,bc 9 .gtr 8 0]
 (cd 9
 (.skip)
 (.exit 0)))
 (.block 1 (sr [mv 11 0,mv 12 1,c2 13 228 11 12,mv 10 13,xt 14 10 0,xt 15 10 1,mv 5 14,mv 6 15]
 (.aL [mv 16 1,mv 17 6,mv 0 16,mv 1 17])))
def A.b161:aq:=sr [mN 4]
 (.seq (.block 0 (.loop A.zb4))
 (sr [mv 18 0,mv 4 18]
 (.ret)))
theorem A.c161:A.F 161=some ⟨19,[.tmp 4],A.b161⟩:=by kernel_rfl
def A.k161:=@A.kk 161 _ _ _ A.c161 rfl
def A.za2:aq:=.seq (sr [mv 16 0,⟨(some 17),.len 0 (.tmp 16),none⟩,bc 18 .gtr 17 9]
 (cd 18
 (.skip)
 (.exit 0)))
 (.block 1 (sr [mv 19 4,mv 20 0,mv 21 0,⟨(some 22),.len 0 (.tmp 21),none⟩,bc 23 .sub 22 9,⟨(some 24),.az (.tmp 20) (some (.tmp 23)) none,none⟩,c1 25 229 24,⟨(some 26),.aY 3 1 1 [(.int .i64 0)] [(0,1,(.tmp 25))],none⟩,⟨(some 27),.append 1 8 3 [(.int .i64 0)] (.tmp 19) (.tmp 26),none⟩,mv 4 27]
 (.aL [mv 28 0,mv 29 0,⟨(some 30),.len 0 (.tmp 29),none⟩,bc 31 .sub 30 9,⟨(some 32),.az (.tmp 28) none (some (.tmp 31)),none⟩,mv 0 32])))
def A.b226:aq:=sr [⟨(some 2),.alloc [(.bool false),.aa] 175,none⟩]
 (sr [mv 5 0,⟨(some 6),.len 0 (.tmp 5),none⟩,bc 7 .gtr 6 0,mv 8 7,mg 9 0 8,⟨(some 10),.aQ (.tmp 9) (.const (.int .i64 0)),(some (8,true))⟩,⟨(some 11),.bin .eql (.aH .int) true (.tmp 10) (.const (.int .u8 45)),(some (8,true))⟩,pf 12 8 11,mv 3 12]
 (.seq (sr [mv 13 3]
 (cd 13
 (.aL [mv 14 0,⟨(some 15),.az (.tmp 14) (some (.const (.int .i64 1))) none,none⟩,mv 0 15])
 (.skip)))
 (sr [mN 4]
 (.seq (.block 0 (.loop A.za2))
 (sr [mv 33 3,mv 34 4,mv 35 0,c1 36 229 35,⟨(some 37),.aY 3 1 1 [(.int .i64 0)] [(0,1,(.tmp 36))],none⟩,⟨(some 38),.append 1 8 3 [(.int .i64 0)] (.tmp 34) (.tmp 37),none⟩,c2 39 234 33 38,⟨none,.store 2 (.tmp 2) (.tmp 39),none⟩]
 (.ret))))))
theorem A.c226:A.F 226=some ⟨40,[.cell 2 (some 2)],A.b226⟩:=by kernel_rfl
def A.k226:=@A.kk 226 _ _ _ A.c226 rfl
theorem LC{h:T O}{N:Nat}{u v:V}{a b:Nat}(hu:Dn h N u a)(hv:Dn h N v b)(hl:(ds a).length<1000000000)(jq:(ds b).length<1000000000):Fn A.C 161 [u,v] h N (fun x h' n'=>Dn h' n' x (Nat.gcd a b)):=by
 intro w
 rw[aP,A.k161 (by simp)]
 simp[A.b161]
 refine bN [(0,1),(5,17)] (fun e r st=>e=.exit 0/\au N st.w=[]/\ab h N st.h st.n/\∃x,r.get 0=some x/\Dn st.h st.n x (Nat.gcd a b)) (fun m r st=>au N st.w=[]/\ab h N st.h st.n/\∃x y c,r.get 0=some x/\r.get 1=some y/\Dn st.h st.n x c/\Dn st.h st.n y m/\Nat.gcd c m=Nat.gcd a b/\(ds c).length<1000000000/\(ds m).length<1000000000) b ?_ ?_ ?_
 ·exact⟨by simp,ab.refl,u,v,a,by simp,by simp,hu,hv,rfl,hl,jq⟩
 ·rintro m r ⟨H,n1,W⟩ hr hf ⟨hW,hK,x,y,c,h0,h1,hx,hy,hg,l1,l2⟩
  simp only at hW hK hx hy
  have ly:=hy.len
  rw[fh]at ly
  rw[bn]
  by_cases hm:m=0
  ·subst hm
   have z0:(ds 0).length=0:=by rw[oJ];rfl
   rw[z0]at ly
   simp at hg
   simp[A.zb4,hf,h0,h1,ly,hW,hK]
   rw[<-hg];exact hx
  ·have bA:(ds m).length≠0:=fun hc=>hm (yo.1 (nU hc))
   have p1:(0:Int)<((ds m).length:Int):=by omega
   have p2:0<(ds m).length:=by omega
   have p3:ds m≠[]:=fun hc=>bA (by rw[hc];rfl)
   simp[A.zb4,h0,h1,ly,p2]
   refine ax (IG hx hy (by omega) l1 l2) ?_
   rintro z h3 n3 k3 ⟨q,r',rfl,hq,PJ⟩
   simp[hf,h1,hW]
   refine⟨c%m,jd _ (by omega),hK.trans k3,m,hy.ad k3,PJ,?_,l2,?_⟩
   ·rw[<-hg,Nat.gcd_comm c m,Nat.gcd_rec m c,Nat.gcd_comm]
   ·have:=pS (a:=c%m) (b:=m) (Nat.le_of_lt (jd _ (by omega)));omega
 ·rintro _ r ⟨H,n1,W⟩ hr ⟨rfl,hW,hK,x,h0,hx⟩
  simp only at hW hK hx
  simp[h0,aA,hW,hK]
  exact hx
theorem YQ(x:aX):∀(y:aX),aC (x++y)=aC x*10^y.length+aC y:=by
 have key:∀(y:aX) (n:Nat),y.foldl (fun n (c:UInt8)=>10*n+(c.toNat-48)) n=n*10^y.length+y.foldl (fun n (c:UInt8)=>10*n+(c.toNat-48)) 0:=by
  intro y
  induction y with
  |nil=>simp
  |cons c y ih=>
   intro n
   rw[List.foldl_cons,List.foldl_cons,ih,ih (10*0+(c.toNat-48)),bq,fJ]
   grind
 intro y
 unfold aC
 rw[List.foldl_append,key]
theorem YR(h:cB s=true)(k:Nat):cB (s.take k)=true:=by
 unfold cB at*
 rw[lM]at*
 exact fun c hc=>h c (uC hc)
theorem LD(h:cB s=true)(k:Nat):cB (s.drop k)=true:=by
 unfold cB at*
 rw[lM]at*
 exact fun c hc=>h c (List.mem_of_mem_drop hc)
def LF(h0:T O)(N:Nat)(s:aX)(m:Nat)(r:T V)(st:St):Prop:=au N st.w=[]/\ab h0 N st.h st.n/\∃cur w l,r.get 0=some (.str cur)/\cur.length=m/\1<=m/\m<=s.length/\cB cur=true/\r.get 4=some w/\Own 1 3 N st.h st.n w (lX l)/\Di l/\l.length+m<=s.length/\vI l+pI l.length*(aC cur:Nat)=(aC s:Nat)
theorem LG(hd:cB s=true)(h1:1<=s.length)(h2:s.length<=3000000){h:T O}{N:Nat}:Fn A.C 226 [.str s] h N (fun v h' n'=>Rg h' n' v (aC s:Nat)):=by
 intro w
 obtain⟨c,hc⟩:=bs (l:=s) (k:=0) (by omega)
 have lH:=FX hd hc
 have k_:s.head?=some c:=by cases s with
  |nil=>simp at hc
  |cons=>simpa using hc
 have a1:¬cE c=45:=by omega
 have a2:(0:Int)<(s.length:Int):=by omega
 have a3:0<s.length:=by omega
 have bA:s≠[]:=fun h=>by rw[h]at h1;simp at h1
 rw[aP,A.k226 (by simp)]
 simp(disch:=first|(simp;done)|omega|rfl) [-getElem?_pos,A.b226,a1,a3,hc]
 refine bN [(0,0),(4,4),(16,32)] (fun e r st=>e=.exit 0/\∃m,m<=9/\LF (h.set N (.cells [.bool false,.aa] 175 true)) (N+1) s m r st) (LF (h.set N (.cells [.bool false,.aa] 175 true)) (N+1) s) s.length ?_ ?_ ?_
 ·exact⟨by simp,ab.refl,s,.aa,[],by simp,rfl,h1,aV _,hd,by simp,Own.nil,Di.nil,by simp,by simp[vI,pI]⟩
 ·rintro m r ⟨H,n1,W⟩ hr hf ⟨hW,hK,cur,u,l,g0,cr,m1,m2,lH,g4,ho,gD,xQ,hv⟩
  simp only at hW hK ho
  subst cr
  rw[bn]
  by_cases h9:9<cur.length
  ·have C3:(9:Int)<(cur.length:Int):=by omega
   have fi:=hK.le
   have C4:=Io (s:=cur.drop (cur.length-9)) (st:=⟨H,n1,W⟩) (LD lH _) (by simp;omega)
   have qJ:((cur.length:Int)-9).toNat=cur.length-9:=by omega
   have AN:=xc (LD lH (cur.length-9))
   have gW:(cur.drop (cur.length-9)).length=9:=by simp;omega
   rw[gW]at AN
   have fz:=YQ (cur.take (cur.length-9)) (cur.drop (cur.length-9))
   rw[wN,gW,show (10:Nat)^9=1000000000 by decide]at fz
   generalize hD:aC (cur.drop (cur.length-9))=D at*
   obtain⟨v',h',w',e1,e2,e3,e4,e5⟩:=pY (x:=[.int .i64 (D:Int)]) (u:=.slice n1 0 1 (some 1) 1) (bytes:=8) (w:=W) (ho.ad (ab.refl.new (.cells [.int .i64 (D:Int)] 3 true))) (by omega) (by decide) rfl (by simp[ft,St.row,aM]) (by rw[yr];omega)
   rw[<-zX]at e5
   simp(disch:=first|(simp;done)|omega|rfl) [A.za2,hf,g0,g4,C3,qJ,ay,C4,ag,e1]
   refine⟨cur.length-9,by omega,⟨by rw[e2];exact hW,(hK.new _).then e3,cur.take (cur.length-9),v',l++[(D:Int)],by simp,by simp,by omega,by omega,YR lH _,by simp,e5,gD.app (Di.one (by omega) (by omega)),by simp;omega,?_⟩⟩
   rw[ym,fK,uJ,qp,<-hv]
   have C5:((aC cur:Nat):Int)=(aC (cur.take (cur.length-9)):Nat)*1000000000+D:=by omega
   rw[C5]
   generalize ((aC (cur.take (cur.length-9)):Nat):Int)=X
   generalize pI l.length=P
   grind
  ·have C3:¬(9:Int)<(cur.length:Int):=by omega
   simp[A.za2,hf,g0,C3]
   exact⟨cur.length,by omega,hW,hK,cur,u,l,by simp[g0],rfl,m1,m2,lH,by simp[g4],ho,gD,xQ,hv⟩
 ·rintro _ r ⟨H,n1,W⟩ hr ⟨rfl,m,m9,hW,hK,cur,u,l,g0,cr,m1,m2,lH,g4,ho,gD,xQ,hv⟩
  simp only at hW hK ho
  subst cr
  have fi:=hK.le
  have C4:=Io (s:=cur) (st:=⟨H,n1,W⟩) lH (by omega)
  have AN:=xc lH
  have hp9:=JS m9
  generalize hD:aC cur=D at*
  obtain⟨v',h',w',e1,e2,e3,e4,e5⟩:=pY (x:=[.int .i64 (D:Int)]) (u:=.slice n1 0 1 (some 1) 1) (bytes:=8) (w:=W) (ho.ad (ab.refl.new (.cells [.int .i64 (D:Int)] 3 true))) (by omega) (by decide) rfl (by simp[ft,St.row,aM]) (by rw[yr];omega)
  rw[<-zX]at e5
  simp[hr,g0,g4,C4,ag,e1]
  have jh:Di (l++[(D:Int)]):=gD.app (Di.one (by omega) (by omega))
  refine ax (rX (n:=aC s) e5.sl jh (by rw[ym];exact hv) (by simp;omega)) ?_
  rintro y h5 n5 k5 hy
  have kk:=((hK.new (.cells [.int .i64 (D:Int)] 3 true)).then e3).trans k5
  have rS:=kk.le
  have lA:=kk.get N (by omega)
  simp at lA
  obtain⟨u5,rfl,vZ⟩:=hy
  have CT:=fun c1 (hc:c1.length=2)=>Sl.setInt (i:=N) (c1:=c1) (e1:=175) (w1:=true) vZ lA (by intro x hx k m;simp at hx;rcases hx with rfl|rfl<;>simp) hc
  have xA:=Sl.form vZ |>.one
  unfold V.one at xA
  have ow:au N w'=[]:=IE (sN N) (by rw[e2];exact hW)
  have k0:=(ab.refl (h:=h) (n:=N)).new (.cells [.bool false,.aa] 175 true)
  simp[hr,lA,ag,bL,xA,aO,aM,aA,ow]
  exact⟨(k0.trans kk).set (aV N),u5,by simp,by simpa[Dn]using CT _ rfl⟩
variable {s:aX}
def A.b160:aq:=sr [⟨(some 2),.alloc [(.bool false),.aa] 175,none⟩,⟨(some 3),.alloc [(.bool false),.aa] 175,none⟩]
 (sr [mv 6 0,mv 4 6]
 (sr [mv 7 4,c1 8 158 7,mv 5 8]
 (.seq (sr [mv 9 5,mv 10 4,⟨(some 11),.len 0 (.tmp 10),none⟩,⟨(some 12),.bin .eql (.aH .int) false (.tmp 9) (.tmp 11),none⟩]
 (cd 12
 (sr [mv 13 4,c1 14 226 13,⟨(some 15),.call (.const (.func 227 [] [])) [(.const (.int .i64 1))],none⟩,⟨none,.store 2 (.tmp 2) (.tmp 14),none⟩,⟨none,.store 2 (.tmp 3) (.tmp 15),none⟩]
 (.ret))
 (.skip)))
 (.seq (.aS [mv 16 4,mv 17 5,⟨(some 18),.az (.tmp 16) none (some (.tmp 17)),none⟩,c1 19 226 18,mv 20 4,mv 21 5,bc 22 .add 21 1,⟨(some 23),.az (.tmp 20) (some (.tmp 22)) none,none⟩,c1 24 226 23,⟨none,.store 2 (.tmp 2) (.tmp 19),none⟩,⟨none,.store 2 (.tmp 3) (.tmp 24),none⟩] [0,0,3,7,0,0,32,112,255,511,1023])
 (.ret)))))
theorem A.c160:A.F 160=some ⟨25,[.cell 2 (some 2),.cell 3 (some 2)],A.b160⟩:=by kernel_rfl
def A.k160:=@A.kk 160 _ _ _ A.c160 rfl
def A.b93:aq:=sr [mc 2 0]
 (sr [mv 8 0,mv 3 8]
 (.seq (sr [mv 9 3,⟨(some 10),.len 0 (.tmp 9),none⟩,bc 11 .gtr 10 0,mv 12 11,mg 13 3 12,⟨(some 14),.aQ (.tmp 13) (.const (.int .i64 0)),(some (12,true))⟩,⟨(some 15),.bin .eql (.aH .int) true (.tmp 14) (.const (.int .u8 45)),(some (12,true))⟩,pf 16 12 15]
 (cd 16
 (.aL [mv 17 3,⟨(some 18),.az (.tmp 17) (some (.const (.int .i64 1))) none,none⟩,mv 3 18])
 (.skip)))
 (sr [mv 19 3,c1 20 158 19,mv 4 20]
 (.seq (sr [mv 21 3,mv 22 4,⟨(some 23),.az (.tmp 21) none (some (.tmp 22)),none⟩,c1 24 159 23,⟨(some 25),.un .not (.tmp 24),none⟩,mv 26 25,mh 27 0 26,⟨(some 28),.aQ (.tmp 27) (.const (.int .i64 0)),(some (26,false))⟩,⟨(some 29),.bin .eql (.aH .int) true (.tmp 28) (.const (.int .u8 45)),(some (26,false))⟩,mh 30 29 26,mg 31 3 30,mg 32 4 30,⟨(some 33),.az (.tmp 31) none (some (.tmp 32)),(some (30,true))⟩,⟨(some 34),.bin .eql (.aH .str) true (.tmp 33) (.const (.str [48])),(some (30,true))⟩,⟨(some 35),.pick (.tmp 30) (.tmp 34) (.const (.bool false)),(some (26,false))⟩,pt 36 26 35]
 (cd 36
 (sr [mc 2 1]
 (.ret))
 (.skip)))
 (.seq (sr [mv 37 4,mv 38 3,⟨(some 39),.len 0 (.tmp 38),none⟩,bi 40 .lss 37 39,mv 41 40,mg 42 3 41,mg 43 4 41,⟨(some 44),.bin .add (.node []) false (.tmp 43) (.const (.int .i64 1)),(some (41,true))⟩,⟨(some 45),.az (.tmp 42) (some (.tmp 44)) none,(some (41,true))⟩,⟨(some 46),.call (.const (.func 159 [] [])) [(.tmp 45)],(some (41,true))⟩,⟨(some 47),.un .not (.tmp 46),(some (41,true))⟩,mg 48 47 41,mh 49 3 48,mh 50 4 48,⟨(some 51),.bin .add (.node []) false (.tmp 50) (.const (.int .i64 1)),(some (48,false))⟩,⟨(some 52),.az (.tmp 49) (some (.tmp 51)) none,(some (48,false))⟩,⟨(some 53),.bin .eql (.aH .str) true (.tmp 52) (.const (.str [48])),(some (48,false))⟩,⟨(some 54),.pick (.tmp 48) (.const (.bool true)) (.tmp 53),(some (41,true))⟩,mg 55 54 41,mh 56 3 55,mh 57 4 55,⟨(some 58),.bin .add (.node []) false (.tmp 57) (.const (.int .i64 1)),(some (55,false))⟩,⟨(some 59),.az (.tmp 56) (some (.tmp 58)) none,(some (55,false))⟩,⟨(some 60),.bin .eql (.aH .str) true (.tmp 59) (.const (.str [49])),(some (55,false))⟩,⟨(some 61),.pick (.tmp 55) (.const (.bool true)) (.tmp 60),(some (41,true))⟩,pf 62 41 61]
 (cd 62
 (sr [mc 2 1]
 (.ret))
 (.skip)))
 (.seq (sr [mv 63 4,bc 64 .gtr 63 600,mv 65 64,mh 66 3 65,⟨(some 67),.len 0 (.tmp 66),(some (65,false))⟩,mh 68 4 65,⟨(some 69),.bin .sub (.node []) false (.tmp 67) (.tmp 68),(some (65,false))⟩,⟨(some 70),.bin .sub (.node []) false (.tmp 69) (.const (.int .i64 1)),(some (65,false))⟩,⟨(some 71),.bin .gtr (.node []) false (.tmp 70) (.const (.int .i64 600)),(some (65,false))⟩,pt 72 65 71]
 (cd 72
 (sr [mc 2 4]
 (.ret))
 (.skip)))
 (.seq (sr [mv 73 4,mv 74 3,⟨(some 75),.len 0 (.tmp 74),none⟩,bi 76 .lss 73 75]
 (cd 76
 (sr [mv 78 3,c1 79 160 78,mv 77 79,xt 80 77 0,xt 81 77 1,⟨(some 5),.alloc [(.bool false),.aa] 175,none⟩,⟨(some 6),.alloc [(.bool false),.aa] 175,none⟩,⟨none,.store 2 (.tmp 5) (.tmp 80),none⟩,⟨none,.store 2 (.tmp 6) (.tmp 81),none⟩]
 (sr [fa 82 1 5,ld 83 82,fa 84 1 6,ld 85 84,c2 86 161 83 85,mv 7 86]
 (sr [mv 87 7,ln 88 87,ni 89 88 1,mv 90 89,mh 91 7 90,⟨(some 92),.aI 1 (.tmp 91) (.const (.int .i64 0)),(some (90,false))⟩,⟨(some 93),.load none (.tmp 92),(some (90,false))⟩,⟨(some 94),.bin .neq (.aH .int) true (.tmp 93) (.const (.int .i64 1)),(some (90,false))⟩,pt 95 90 94]
 (cd 95
 (sr [mc 2 1]
 (.ret))
 (.skip)))))
 (.skip)))
 (sr [mc 2 0]
 (.ret)))))))))
theorem A.c93:A.F 93=some ⟨96,[.tmp 2],A.b93⟩:=by kernel_rfl
def A.k93:=@A.kk 93 _ _ _ A.c93 rfl
theorem YT(hk:ae s<s.length)(hp:cB (s.take (ae s))=true)(hd:cB (s.drop (ae s+1))=true)(p1:1<=(s.take (ae s)).length)(d1:1<=(s.drop (ae s+1)).length)(hl:s.length<=100000){h:T O}{N:Nat}:Fn A.C 160 [.str s] h N (fun v h' n'=>∃x y,v=.bb [.agg [.bool false,x],.agg [.bool false,y]]/\Dn h' n' x (aC (s.take (ae s)))/\Dn h' n' y (aC (s.drop (ae s+1)))):=by
 intro w
 rw[aP,A.k160 (by simp)]
 have cC:=fun st=>AJ (s:=s) (st:=st) (by omega)
 have c1:¬((ae s:Int)=(s.length:Int)):=by omega
 have c2:¬(ae s=s.length):=by omega
 have c3:(ae s:Int)<=(s.length:Int):=by omega
 have c4:(ae s:Int)+1<=(s.length:Int):=by omega
 have c5:((ae s:Int)+1).toNat=ae s+1:=by omega
 simp[A.b160,cC,c1,c3,ay]
 refine ax (LG hp p1 (by simp;omega)) ?_
 rintro v1 h1 n1 k1 ⟨x,rfl,hx⟩
 have nx:¬((aC (s.take (ae s)):Nat):Int)<0:=by omega
 simp(disch:=omega) [c5,ay,nx]
 refine ax (LG hd d1 (by simp;omega)) ?_
 rintro v2 h2 n2 k2 ⟨y,rfl,hy⟩
 have ny:¬((aC (s.drop (ae s+1)):Nat):Int)<0:=by omega
 have ep:=k1.le
 have fH:=k2.le
 have hx:=Dn.ad hx k2
 have r0:=(k2.get N (by omega)).trans (k1.get N (by omega))
 have r1:=(k2.get (N+1) (by omega)).trans (k1.get (N+1) (by omega))
 simp at r0 r1
 have ig:∀u∈([.bool false,.aa]:List V),∀k n,u≠V.int k n:=by intro u hu k n;simp at hu;rcases hu with rfl|rfl<;>simp
 have rY:=(Sl.form hx).one
 have rZ:=(Sl.form hy).one
 unfold V.one at rY rZ
 have LH:N<n1:=by omega
 have LI:N<n2:=by omega
 have LJ:N+1<n2:=by omega
 have d4':¬N+1=N:=by omega
 simp[r0,r1,ny,ag,bL,rY,rZ,LH,LI,LJ,aO,aM,dn.dp,aA]
 have vw:=Sl.setInt (i:=N) (c1:=[.bool false,x]) (e1:=175) (w1:=true) hx r0 ig rfl
 have nX:=Sl.setInt (i:=N) (c1:=[.bool false,x]) (e1:=175) (w1:=true) hy r0 ig rfl
 have C6:(h2.set N (.cells [.bool false,x] 175 true)).get (N+1)=some (.cells [.bool false,.aa] 175 true):=by rw[T.ah,ar (by omega)];exact r1
 have El:=Sl.setInt (i:=N+1) (c1:=[.bool false,y]) (e1:=175) (w1:=true) vw C6 ig rfl
 have rJ:=Sl.setInt (i:=N+1) (c1:=[.bool false,y]) (e1:=175) (w1:=true) nX C6 ig rfl
 have k0:=((ab.refl (h:=h) (n:=N)).new (.cells [.bool false,.aa] 175 true)).new (.cells [.bool false,.aa] 175 true)
 exact⟨(((k0.trans k1).trans k2).set (aV N)).set (by omega),x,y,⟨rfl,rfl⟩,El,rJ⟩
theorem LK{s:aX}(h:gO s=true):cB s=true/\1<=s.length:=by
 cases s with
 |nil=>cases h
 |cons c s=>
  unfold gO at h
  rw[iB]at h
  exact⟨h.1,by simp⟩
theorem LL:ds 1=[1]:=by rw[uX (by decide),oJ];rfl
theorem LM(h:cB s=true)(hl:s.length<=100000):(ds (aC s)).length<1000000000:=by
 have h1:=xc h
 have h2:(10:Nat)^s.length<=1000000000^s.length:=Bm (by decide) _
 have:=D8 (n:=aC s) (k:=s.length) (by omega)
 omega
theorem Ybb{s:aX}(hl:s.length<=100000){h:T O}{N:Nat}:Fn A.C 93 [.str s] h N (fun v _ _=>v=.int .i64 (bW s:Nat)):=by
 intro w
 rw[aP,A.k93 (by simp)]
 cases s with
 |nil=>
  have cC:=fun st=>AJ (s:=[]) (st:=st) (by simp)
  have eA:=fun st=>Im (s:=[]) (st:=st) (by simp)
  simp[A.b93,cC,ae,ay,eA,gO,aA]
  exact⟨ab.refl,rfl⟩
 |cons c t=>
  by_cases h45:cE c=45
  ·have dq:bW (c::t)=iS true (t.take (ae t)) (decide (ae t<t.length)) (t.drop (ae t+1)):=by
    have:c.toNat=45:=by unfold cE at h45;omega
    simp[bW,ED,b_,bl,this]
   rw[dq]
   have cg:(0:Int)<(t.length:Int)+1:=by omega
   have cC:=fun st=>AJ (s:=t) (st:=st) (by simp at hl;omega)
   have eA:=fun st=>Im (s:=t.take (ae t)) (st:=st) (by simp at hl ⊢;omega)
   have mm:(ae t:Int)<=(t.length:Int):=by have:=Aq t;omega
   have Sd:ae t<=t.length:=Aq t
   have jz:(t.take (ae t)).length=ae t:=by simp;omega
   have gW:(t.drop (ae t+1)).length=t.length-(ae t+1):=by simp
   have f_:=h45
   have k_:=h45
   have Q5:=h45
   simp at hl
   generalize hp:t.take (ae t)=p at*
   generalize nM:t.drop (ae t+1)=d at*
   by_cases hA:gO p=true
   ·by_cases hz:p=[48]
    ·have e1:(p==[48])=true:=by simp[hz]
     simp(disch:=first|(simp;done)|omega|(simp only[bC,cl,bq];omega)|rfl) [A.b93,cg,cC,eA,hp,ay,f_,hA,e1,aA]
     exact⟨ab.refl,by simp[iS,fG,hz]⟩
    ·have e1:(p==[48])=false:=by simp[hz]
     by_cases l9:ae t<t.length
     ·have fq:(ae t:Int)<(t.length:Int):=by omega
      have mF:=fun st=>Im (s:=d) (st:=st) (by omega)
      by_cases hD:gO d=true
      ·by_cases h48:d=[48]
       ·have e8:(d==[48])=true:=by simp[h48]
        simp(disch:=first|(simp;done)|omega|(simp only[bC,cl,bq];omega)|rfl) [A.b93,cg,cC,eA,hp,nM,ay,f_,hA,e1,l9,fq,mF,hD,e8,aA]
        exact⟨ab.refl,by simp[iS,fG,h48]⟩
       ·have e8:(d==[48])=false:=by simp[h48]
        by_cases uc:d=[49]
        ·have e9:(d==[49])=true:=by simp[uc]
         simp(disch:=first|(simp;done)|omega|(simp only[bC,cl,bq];omega)|rfl) [A.b93,cg,cC,eA,hp,nM,ay,f_,hA,e1,l9,fq,mF,hD,e8,e9,aA]
         exact⟨ab.refl,by simp[iS,fG,uc]⟩
        ·have e9:(d==[49])=false:=by simp[uc]
         have di:fG true p true d=true:=by simp[fG,hA,hD,h48,uc,hz]
         by_cases b6:600<p.length
         ·have b6':(600:Int)<(ae t:Int):=by omega
          simp(disch:=first|(simp;done)|omega|(simp only[bC,cl,bq];omega)|rfl) [A.b93,cg,cC,eA,hp,nM,ay,f_,hA,e1,l9,fq,mF,hD,e8,e9,b6',aA]
          exact⟨ab.refl,by simp[iS,di,b6]⟩
         ·have b6':¬(600:Int)<(ae t:Int):=by omega
          by_cases b7:600<d.length
          ·have b7':(600:Int)<(t.length:Int)-(ae t:Int)-1:=by omega
           simp(disch:=first|(simp;done)|omega|(simp only[bC,cl,bq];omega)|rfl) [A.b93,cg,cC,eA,hp,nM,ay,f_,hA,e1,l9,fq,mF,hD,e8,e9,b6',b7',aA]
           exact⟨ab.refl,by simp[iS,di,b6,b7]⟩
          ·have b7':¬(600:Int)<(t.length:Int)-(ae t:Int)-1:=by omega
           obtain⟨pa,pb⟩:=LK hA
           obtain⟨da,db⟩:=LK hD
           simp(disch:=first|(simp;done)|omega|(simp only[bC,cl,bq];omega)|rfl) [A.b93,cg,cC,eA,hp,nM,ay,f_,hA,e1,l9,fq,mF,hD,e8,e9,b6',b7']
           refine ax (YT l9 (by rw[hp];exact pa) (by rw[nM];exact da) (by rw[hp];exact pb) (by rw[nM];exact db) (by omega)) ?_
           rintro v1 h1 n1 k1 ⟨x,y,rfl,hx,hy⟩
           rw[hp]at hx
           rw[nM]at hy
           have rY:=(Sl.form hx).one
           have rZ:=(Sl.form hy).one
           unfold V.one at rY rZ
           have kx:=((((ab.refl (h:=h1) (n:=n1)).new (.cells [.bool false,.aa] 175 true)).new (.cells [.bool false,.aa] 175 true)).set (i:=n1) (o:=.cells [.bool false,x] 175 true) (aV n1)).set (i:=n1+1) (o:=.cells [.bool false,y] 175 true) (by omega)
           simp[ag,bL,rY,rZ]
           refine ax (LC (hx.ad kx) (hy.ad kx) (LM pa (by omega)) (LM da (by omega))) ?_
           rintro z h2 n2 k2 dP
           have kk:=(k1.trans kx).trans k2
           have lz:=dP.len
           rw[fh]at lz
           have ix:¬n1<N:=by have:=k1.le;omega
           have jK:¬n1+1<N:=by have:=k1.le;omega
           generalize hG:Nat.gcd (aC p) (aC d)=G at*
           by_cases g1:G=1
           ·subst g1
            rw[LL]at lz
            obtain⟨b1,b2,b3,b4,b5,z1,z2,z3,z4⟩:=Sl.at (show Sl h2 n2 z (dI [1]) from LL▸dP) (j:=0) (x:=.int .i64 1) rfl
            simp at z4
            simp[lz,z1,z3,z4,aA,ix,jK]
            exact⟨kk,by simp[iS,di,b6,b7,hG]⟩
           ·have o9:iS true p true d=1:=by simp[iS,di,b6,b7,hG,g1]
            by_cases g2:(ds G).length=1
            ·obtain⟨gx,IK⟩:=bs (l:=ds G) (k:=0) (by omega)
             obtain⟨b1,b2,b3,b4,b5,z1,z2,z3,z4⟩:=Sl.at (show Sl h2 n2 z (dI (ds G)) from dP) (fb IK)
             simp at z4
             have Se:¬gx=1:=fun hc=>g1 (by
              have hv:=fF G
              rw[Ip IK,mi (by omega)]at hv
              simp[vI,pI]at hv
              omega)
             simp[lz,g2,z1,z3,z4,Se,aA,ix,jK,o9]
             exact kk
            ·have oh:¬((ds G).length:Int)=1:=by omega
             simp[lz,oh,aA,ix,jK,o9]
             exact kk
      ·have hD:gO d=false:=by simpa using hD
       simp(disch:=first|(simp;done)|omega|(simp only[bC,cl,bq];omega)|rfl) [A.b93,cg,cC,eA,hp,nM,ay,f_,hA,e1,l9,fq,mF,hD,aA]
       exact⟨ab.refl,by simp[iS,fG,hD]⟩
     ·have Sf:ae t=t.length:=by omega
      have fq:¬(ae t:Int)<(t.length:Int):=by omega
      have di:fG true p false d=true:=by simp[fG,hA,hz]
      have Sg:¬600<d.length:=by omega
      have b7':¬(600:Int)<(t.length:Int)-(ae t:Int)-1:=by omega
      by_cases b6:600<p.length
      ·have b6':(600:Int)<(ae t:Int):=by omega
       simp(disch:=first|(simp;done)|omega|(simp only[bC,cl,bq];omega)|rfl) [A.b93,cg,cC,eA,hp,ay,f_,hA,e1,l9,fq,b6',aA]
       exact⟨ab.refl,by simp[iS,di,b6]⟩
      ·have b6':¬(600:Int)<(ae t:Int):=by omega
       simp(disch:=first|(simp;done)|omega|(simp only[bC,cl,bq];omega)|rfl) [A.b93,cg,cC,eA,hp,ay,f_,hA,e1,l9,fq,b6',b7',aA]
       exact⟨ab.refl,by simp[iS,di,b6,Sg]⟩
   ·have hA:gO p=false:=by simpa using hA
    simp(disch:=first|(simp;done)|omega|(simp only[bC,cl,bq];omega)|rfl) [A.b93,cg,cC,eA,hp,ay,f_,hA,aA]
    exact⟨ab.refl,by simp[iS,fG,hA]⟩
  ·have HQ:b_ (c::t)=false:=by
    simp only[b_,decide_eq_false_iff_not];unfold cE at h45;omega
   obtain⟨t,ht⟩:∃t',t'=c::t:=⟨c::t,rfl⟩
   rw[<-ht]at hl HQ ⊢
   have k_:t[0]?=some c:=by rw[ht];rfl
   have f_:t.head?=some c:=by rw[ht];rfl
   have hlen:0<t.length:=by rw[ht];simp
   have Q5:t≠[]:=by rw[ht];simp
   have oZ:(0:Int)<(t.length:Int):=by omega
   have cg:0<t.length:=hlen
   clear ht
   have dq:bW t=iS false (t.take (ae t)) (decide (ae t<t.length)) (t.drop (ae t+1)):=by
    simp[bW,ED,bl,HQ]
   rw[dq]
   have cC:=fun st=>AJ (s:=t) (st:=st) (by omega)
   have eA:=fun st=>Im (s:=t.take (ae t)) (st:=st) (by simp;omega)
   have mm:(ae t:Int)<=(t.length:Int):=by have:=Aq t;omega
   have Sd:ae t<=t.length:=Aq t
   have jz:(t.take (ae t)).length=ae t:=by simp;omega
   have gW:(t.drop (ae t+1)).length=t.length-(ae t+1):=by simp
   generalize hp:t.take (ae t)=p at*
   generalize nM:t.drop (ae t+1)=d at*
   by_cases hA:gO p=true
   ·have e1:True:=trivial
    by_cases l9:ae t<t.length
    ·have fq:(ae t:Int)<(t.length:Int):=by omega
     have mF:=fun st=>Im (s:=d) (st:=st) (by omega)
     by_cases hD:gO d=true
     ·by_cases h48:d=[48]
      ·have e8:(d==[48])=true:=by simp[h48]
       simp(disch:=first|(simp;done)|omega|(simp only[bC,cl,bq];omega)|rfl) [-getElem?_pos,A.b93,cg,cC,eA,hp,nM,ay,k_,h45,hA,l9,fq,mF,hD,e8,aA]
       exact⟨ab.refl,by simp[iS,fG,h48]⟩
      ·have e8:(d==[48])=false:=by simp[h48]
       by_cases uc:d=[49]
       ·have e9:(d==[49])=true:=by simp[uc]
        simp(disch:=first|(simp;done)|omega|(simp only[bC,cl,bq];omega)|rfl) [-getElem?_pos,A.b93,cg,cC,eA,hp,nM,ay,k_,h45,hA,l9,fq,mF,hD,e8,e9,aA]
        exact⟨ab.refl,by simp[iS,fG,uc]⟩
       ·have e9:(d==[49])=false:=by simp[uc]
        have di:fG false p true d=true:=by simp[fG,hA,hD,h48,uc]
        by_cases b6:600<p.length
        ·have b6':(600:Int)<(ae t:Int):=by omega
         simp(disch:=first|(simp;done)|omega|(simp only[bC,cl,bq];omega)|rfl) [-getElem?_pos,A.b93,cg,cC,eA,hp,nM,ay,k_,h45,hA,l9,fq,mF,hD,e8,e9,b6',aA]
         exact⟨ab.refl,by simp[iS,di,b6]⟩
        ·have b6':¬(600:Int)<(ae t:Int):=by omega
         by_cases b7:600<d.length
         ·have b7':(600:Int)<(t.length:Int)-(ae t:Int)-1:=by omega
          simp(disch:=first|(simp;done)|omega|(simp only[bC,cl,bq];omega)|rfl) [-getElem?_pos,A.b93,cg,cC,eA,hp,nM,ay,k_,h45,hA,l9,fq,mF,hD,e8,e9,b6',b7',aA]
          exact⟨ab.refl,by simp[iS,di,b6,b7]⟩
         ·have b7':¬(600:Int)<(t.length:Int)-(ae t:Int)-1:=by omega
          obtain⟨pa,pb⟩:=LK hA
          obtain⟨da,db⟩:=LK hD
          simp(disch:=first|(simp;done)|omega|(simp only[bC,cl,bq];omega)|rfl) [-getElem?_pos,A.b93,cg,cC,eA,hp,nM,ay,k_,h45,hA,l9,fq,mF,hD,e8,e9,b6',b7']
          refine ax (YT l9 (by rw[hp];exact pa) (by rw[nM];exact da) (by rw[hp];exact pb) (by rw[nM];exact db) (by omega)) ?_
          rintro v1 h1 n1 k1 ⟨x,y,rfl,hx,hy⟩
          rw[hp]at hx
          rw[nM]at hy
          have rY:=(Sl.form hx).one
          have rZ:=(Sl.form hy).one
          unfold V.one at rY rZ
          have kx:=((((ab.refl (h:=h1) (n:=n1)).new (.cells [.bool false,.aa] 175 true)).new (.cells [.bool false,.aa] 175 true)).set (i:=n1) (o:=.cells [.bool false,x] 175 true) (aV n1)).set (i:=n1+1) (o:=.cells [.bool false,y] 175 true) (by omega)
          simp[ag,bL,rY,rZ]
          refine ax (LC (hx.ad kx) (hy.ad kx) (LM pa (by omega)) (LM da (by omega))) ?_
          rintro z h2 n2 k2 dP
          have kk:=(k1.trans kx).trans k2
          have lz:=dP.len
          rw[fh]at lz
          have ix:¬n1<N:=by have:=k1.le;omega
          have jK:¬n1+1<N:=by have:=k1.le;omega
          generalize hG:Nat.gcd (aC p) (aC d)=G at*
          by_cases g1:G=1
          ·subst g1
           rw[LL]at lz
           obtain⟨b1,b2,b3,b4,b5,z1,z2,z3,z4⟩:=Sl.at (show Sl h2 n2 z (dI [1]) from LL▸dP) (j:=0) (x:=.int .i64 1) rfl
           simp at z4
           simp[lz,z1,z3,z4,aA,ix,jK]
           exact⟨kk,by simp[iS,di,b6,b7,hG]⟩
          ·have o9:iS false p true d=1:=by simp[iS,di,b6,b7,hG,g1]
           by_cases g2:(ds G).length=1
           ·obtain⟨gx,IK⟩:=bs (l:=ds G) (k:=0) (by omega)
            obtain⟨b1,b2,b3,b4,b5,z1,z2,z3,z4⟩:=Sl.at (show Sl h2 n2 z (dI (ds G)) from dP) (fb IK)
            simp at z4
            have Se:¬gx=1:=fun hc=>g1 (by
             have hv:=fF G
             rw[Ip IK,mi (by omega)]at hv
             simp[vI,pI]at hv
             omega)
            simp[lz,g2,z1,z3,z4,Se,aA,ix,jK,o9]
            exact kk
           ·have oh:¬((ds G).length:Int)=1:=by omega
            simp[lz,oh,aA,ix,jK,o9]
            exact kk
     ·have hD:gO d=false:=by simpa using hD
      simp(disch:=first|(simp;done)|omega|(simp only[bC,cl,bq];omega)|rfl) [-getElem?_pos,A.b93,cg,cC,eA,hp,nM,ay,k_,h45,hA,l9,fq,mF,hD,aA]
      exact⟨ab.refl,by simp[iS,fG,hD]⟩
    ·have Sf:ae t=t.length:=by omega
     have fq:¬(ae t:Int)<(t.length:Int):=by omega
     have di:fG false p false d=true:=by simp[fG,hA]
     have Sg:¬600<d.length:=by omega
     have b7':¬(600:Int)<(t.length:Int)-(ae t:Int)-1:=by omega
     by_cases b6:600<p.length
     ·have b6':(600:Int)<(ae t:Int):=by omega
      simp(disch:=first|(simp;done)|omega|(simp only[bC,cl,bq];omega)|rfl) [-getElem?_pos,A.b93,cg,cC,eA,hp,ay,k_,h45,hA,l9,fq,b6',aA]
      exact⟨ab.refl,by simp[iS,di,b6]⟩
     ·have b6':¬(600:Int)<(ae t:Int):=by omega
      simp(disch:=first|(simp;done)|omega|(simp only[bC,cl,bq];omega)|rfl) [-getElem?_pos,A.b93,cg,cC,eA,hp,ay,k_,h45,hA,l9,fq,b6',b7',aA]
      exact⟨ab.refl,by simp[iS,di,b6,Sg]⟩
   ·have hA:gO p=false:=by simpa using hA
    simp(disch:=first|(simp;done)|omega|(simp only[bC,cl,bq];omega)|rfl) [-getElem?_pos,A.b93,cg,cC,eA,hp,ay,k_,h45,hA,aA]
    exact⟨ab.refl,by simp[iS,fG,hA]⟩
end Go.Mx
