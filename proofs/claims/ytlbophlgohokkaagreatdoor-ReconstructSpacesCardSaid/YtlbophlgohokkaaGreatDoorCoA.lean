/-
  num.Frac: Neg, Sub; joined by Sub.
-/
import Derived.Test.YtlbophlgohokkaaGreatDoorVbB
set_option linter.all false
namespace Go.Mx
open Go Go.Proofs
variable {q:Rat}
set_option maxRecDepth 1000000
def A.b191:aq:=sr [bx 1 114 0,⟨(some 2),.alloc [(.int .i64 0),.aa,(.int .i64 0),.aa] 114,none⟩]
 (.seq (.aS [fa 3 0 1,lN 4 2 3,c1 5 218 4,fa 6 2 1,lN 7 2 6,⟨(some 8),.build [(.int .i64 0),.aa,(.int .i64 0),.aa] [(0,2,(.tmp 5)),(2,2,(.tmp 7))],none⟩,⟨none,.store 4 (.tmp 2) (.tmp 8),none⟩] [0,1,3,0,8,31,63])
 (.ret))
theorem A.c191:A.F 191=some ⟨9,[.cell 2 (some 4)],A.b191⟩:=by kernel_rfl
def A.k191:=@A.kk 191 _ _ _ A.c191 rfl
def A.b119:aq:=sr [bx 2 114 0,bx 3 114 1,⟨(some 4),.alloc [(.int .i64 0),.aa,(.int .i64 0),.aa] 114,none⟩]
 (.seq (.aS [lN 5 4 2,lN 6 4 3,c1 7 191 6,c2 8 120 5 7,⟨none,.store 4 (.tmp 4) (.tmp 8),none⟩] [0,0,2,7,15])
 (.ret))
theorem A.c119:A.F 119=some ⟨9,[.cell 4 (some 4)],A.b119⟩:=by kernel_rfl
def A.k119:=@A.kk 119 _ _ _ A.c119 rfl
theorem SX{x:V}{h:T O}{N:Nat}(hx:Fc h N x q)(l1:wl q.num<1000000):Fn A.C 191 [x] h N (fun v h' n'=>Fc h' n' v (-q)):=by
 intro w
 rw[aP,A.k191 (by simp)]
 obtain⟨n1,u1,n2,u2,rfl,s1,s2⟩:=hx
 have o1:=cZ s1
 have o2:=cZ s2
 unfold V.one at o1 o2
 have kB:ab h N ((h.set N (.cells [.int .i64 n1,u1,.int .i64 n2,u2] 114 true)).set (N+1) (.cells [.int .i64 0,.aa,.int .i64 0,.aa] 114 true)) (N+2):=aJ (aJ ab.refl _) _
 simp[A.b191,aO,aM,o1,o2]
 generalize gH:(h.set N (.cells [.int .i64 n1,u1,.int .i64 n2,u2] 114 true)).set (N+1) (.cells [.int .i64 0,.aa,.int .i64 0,.aa] 114 true)=hB at*
 have b1:hB.get N=some (.cells [.int .i64 n1,u1,.int .i64 n2,u2] 114 true):=by rw[<-gH];simp
 have b3:hB.get (N+1)=some (.cells [.int .i64 0,.aa,.int .i64 0,.aa] 114 true):=by rw[<-gH];simp
 refine ax (Dj (s1.ad kB) (by omega)) ?_
 rintro v5 h1 m1 k1 q1
 obtain⟨n3,u3,rfl⟩:∃n3 u3,v5=.agg [.int .i64 n3,u3]:=by
  rcases q1 with⟨rfl,_⟩|⟨_,_,_,_,rfl,_⟩<;>exact⟨_,_,rfl⟩
 have o3:=cZ q1
 unfold V.one at o3
 have ep:=k1.le
 have f1:=(k1.get N (by omega)).trans b1
 have f3:=(k1.get (N+1) (by omega)).trans b3
 have e1:N<m1:=by omega
 have e2:N+1<m1:=by omega
 simp[f1,f3,e1,e2,aO,aM,ag,bL,o2,o3,dn.dp,aA]
 have kk:=kB.trans k1
 exact⟨kk.set (by omega),n3,u3,n2,u2,rfl,by rw[Rat.neg_num];exact q1.aE (i:=N+1) f3 j_ rfl,by rw[Rat.neg_den];exact((s2.ad kB).ad k1).aE (i:=N+1) f3 j_ rfl⟩
theorem Yl4{x y:V}{p:Rat}{h:T O}{N:Nat}(hx:Fc h N x p)(hy:Fc h N y q)(l1:wl p.num<1000000)(l2:wl (p.den:Nat)<1000000)(l3:wl q.num<1000000)(l4:wl (q.den:Nat)<1000000):Fn A.C 119 [x,y] h N (fun v h' n'=>Fc h' n' v (p-q)):=by
 intro w
 rw[aP,A.k119 (by simp)]
 have lC:=hx
 have qZ:=hy
 obtain⟨n1,u1,n2,u2,rfl,s1,s2⟩:=hx
 obtain⟨n3,u3,n4,u4,rfl,s3,s4⟩:=hy
 have o1:=cZ s1
 have o2:=cZ s2
 have o3:=cZ s3
 have o4:=cZ s4
 unfold V.one at o1 o2 o3 o4
 have kB:ab h N (((h.set N (.cells [.int .i64 n1,u1,.int .i64 n2,u2] 114 true)).set (N+1) (.cells [.int .i64 n3,u3,.int .i64 n4,u4] 114 true)).set (N+2) (.cells [.int .i64 0,.aa,.int .i64 0,.aa] 114 true)) (N+3):=aJ (aJ (aJ ab.refl _) _) _
 simp[A.b119,aO,aM,o1,o2,o3,o4]
 generalize gH:((h.set N (.cells [.int .i64 n1,u1,.int .i64 n2,u2] 114 true)).set (N+1) (.cells [.int .i64 n3,u3,.int .i64 n4,u4] 114 true)).set (N+2) (.cells [.int .i64 0,.aa,.int .i64 0,.aa] 114 true)=hB at*
 have b1:hB.get N=some (.cells [.int .i64 n1,u1,.int .i64 n2,u2] 114 true):=by rw[<-gH];simp
 have b2:hB.get (N+1)=some (.cells [.int .i64 n3,u3,.int .i64 n4,u4] 114 true):=by rw[<-gH];simp
 have b3:hB.get (N+2)=some (.cells [.int .i64 0,.aa,.int .i64 0,.aa] 114 true):=by rw[<-gH];simp
 refine ax (SX (qZ.ad kB) l3) ?_
 rintro v5 h1 m1 k1 q1
 have ep:=k1.le
 have f1:=(k1.get N (by omega)).trans b1
 have f2:=(k1.get (N+1) (by omega)).trans b2
 have f3:=(k1.get (N+2) (by omega)).trans b3
 have e1:N<m1:=by omega
 have e2:N+1<m1:=by omega
 simp
 refine ax (Ymb ((lC.ad kB).ad k1) q1 l1 l2 (by rw[Rat.neg_num,Fj];exact l3) (by rw[Rat.neg_den];exact l4)) ?_
 rintro v7 h3 m3 k3 hv
 rw[<-Rat.sub_eq_add_neg]at hv
 obtain⟨n5,u5,n6,u6,rfl,t1,t2⟩:=hv
 have o5:=cZ t1
 have o6:=cZ t2
 unfold V.one at o5 o6
 have iV:=k3.le
 have f5:=(k3.get (N+2) (by omega)).trans f3
 have e3:N+2<m3:=by omega
 simp[f5,e3,aO,aM,ag,bL,o5,o6,dn.dp,aA]
 have kk:=(kB.trans k1).trans k3
 exact⟨kk.set (by omega),n5,u5,n6,u6,rfl,t1.aE (i:=N+2) f5 j_ rfl,t2.aE (i:=N+2) f5 j_ rfl⟩
theorem Qb.wu{k:Nat}(h:Qb k q):wl q.num<=k/\wl (q.den:Nat)<=k:=⟨Jd h.1,Jd (z:=(q.den:Int)) (k:=k) (by rw[dN];exact h.2)⟩
def A.b248:aq:=sr [bx 1 114 0,⟨(some 2),.alloc [(.int .i64 0),.aa,(.int .i64 0),.aa] 114,none⟩]
 (sr [fa 3 2 1,lN 4 2 3,fa 5 0 1,lN 6 2 5,c2 7 156 4 6,⟨none,.store 4 (.tmp 2) (.tmp 7),none⟩]
 (.ret))
theorem A.c248:A.F 248=some ⟨8,[.cell 2 (some 4)],A.b248⟩:=by kernel_rfl
def A.k248:=@A.kk 248 _ _ _ A.c248 rfl
def A.b186:aq:=sr [bx 2 114 0,bx 3 114 1,⟨(some 4),.alloc [(.int .i64 0),.aa,(.int .i64 0),.aa] 114,none⟩]
 (.seq (.aS [lN 5 4 2,lN 6 4 3,c1 7 248 6,c2 8 90 5 7,⟨none,.store 4 (.tmp 4) (.tmp 8),none⟩] [0,0,2,7,15])
 (.ret))
theorem A.c186:A.F 186=some ⟨9,[.cell 4 (some 4)],A.b186⟩:=by kernel_rfl
def A.k186:=@A.kk 186 _ _ _ A.c186 rfl
def A.b194:aq:=sr [⟨(some 3),.aZ (.const (.bool false)),none⟩]
 (sr [mv 4 0,ld 5 1,ia 6 4 4 5,lN 7 4 6,c1 8 128 7,ni 9 8 0,mv 3 9]
 (.ret))
theorem A.c194:A.F 194=some ⟨10,[.tmp 3],A.b194⟩:=by kernel_rfl
def A.k194:=@A.kk 194 _ _ _ A.c194 rfl
def A.b195:aq:=sr [bx 2 114 0,⟨(some 3),.alloc [(.int .i64 0),.aa,(.int .i64 0),.aa] 114,none⟩]
 (sr [lN 4 4 2,lN 5 4 1,c2 6 186 4 5,⟨none,.store 4 (.tmp 3) (.tmp 6),none⟩]
 (.ret))
theorem A.c195:A.F 195=some ⟨7,[.cell 3 (some 4)],A.b195⟩:=by kernel_rfl
def A.k195:=@A.kk 195 _ _ _ A.c195 rfl
def A.b196:aq:=sr [bx 3 114 0,bx 4 114 1,⟨(some 5),.alloc [(.int .i64 0),.aa,(.int .i64 0),.aa] 114,none⟩]
 (.seq (.aS [lN 6 4 3,lN 7 4 2,lN 8 4 4,c2 9 90 7 8,c2 10 119 6 9,⟨none,.store 4 (.tmp 5) (.tmp 10),none⟩] [0,0,0,6,15,31])
 (.ret))
theorem A.c196:A.F 196=some ⟨11,[.cell 5 (some 4)],A.b196⟩:=by kernel_rfl
def A.k196:=@A.kk 196 _ _ _ A.c196 rfl
theorem Yl7{x:V}{q:Rat}{h:T O}{N:Nat}(hx:Fc h N x q)(h0:q≠0)(l1:wl q.num<1000000)(l2:wl (q.den:Nat)<1000000):Fn A.C 248 [x] h N (fun v h' n'=>Fc h' n' v q⁻¹):=by
 intro w
 rw[aP,A.k248 (by simp)]
 obtain⟨n1,u1,n2,u2,rfl,s1,s2⟩:=hx
 have o1:=cZ s1
 have o2:=cZ s2
 unfold V.one at o1 o2
 have kB:ab h N ((h.set N (.cells [.int .i64 n1,u1,.int .i64 n2,u2] 114 true)).set (N+1) (.cells [.int .i64 0,.aa,.int .i64 0,.aa] 114 true)) (N+2):=aJ (aJ ab.refl _) _
 simp[A.b248,aO,aM,o1,o2]
 generalize gH:(h.set N (.cells [.int .i64 n1,u1,.int .i64 n2,u2] 114 true)).set (N+1) (.cells [.int .i64 0,.aa,.int .i64 0,.aa] 114 true)=hB at*
 have b3:hB.get (N+1)=some (.cells [.int .i64 0,.aa,.int .i64 0,.aa] 114 true):=by rw[<-gH];simp
 have hn:q.num≠0:=fun hc=>h0 (wv.1 hc)
 refine ax (M1 (s2.ad kB) (s1.ad kB) hn (by omega) (by omega)) ?_
 rintro v7 h3 m3 k3 hv
 rw[<-M3]at hv
 obtain⟨n5,u5,n6,u6,rfl,t1,t2⟩:=hv
 have o5:=cZ t1
 have o6:=cZ t2
 unfold V.one at o5 o6
 have iV:=k3.le
 have f5:=(k3.get (N+1) (by omega)).trans b3
 have e3:N+1<m3:=by omega
 simp[f5,aO,aM,ag,bL,o5,o6,aA]
 have kk:=kB.trans k3
 exact⟨kk.set (by omega),n5,u5,n6,u6,rfl,t1.aE (i:=N+1) f5 j_ rfl,t2.aE (i:=N+1) f5 j_ rfl⟩
theorem Yl8{x y:V}{p q:Rat}{h:T O}{N:Nat}(hx:Fc h N x p)(hy:Fc h N y q)(h0:q≠0)(l1:wl p.num<1000000)(l2:wl (p.den:Nat)<1000000)(l3:wl q.num<1000000)(l4:wl (q.den:Nat)<1000000)(l5:wl q⁻¹.num<1000000)(l6:wl (q⁻¹.den:Nat)<1000000):Fn A.C 186 [x,y] h N (fun v h' n'=>Fc h' n' v (p/q)):=by
 intro w
 rw[aP,A.k186 (by simp)]
 have lC:=hx
 have qZ:=hy
 obtain⟨n1,u1,n2,u2,rfl,s1,s2⟩:=hx
 obtain⟨n3,u3,n4,u4,rfl,s3,s4⟩:=hy
 have o1:=cZ s1
 have o2:=cZ s2
 have o3:=cZ s3
 have o4:=cZ s4
 unfold V.one at o1 o2 o3 o4
 have kB:ab h N (((h.set N (.cells [.int .i64 n1,u1,.int .i64 n2,u2] 114 true)).set (N+1) (.cells [.int .i64 n3,u3,.int .i64 n4,u4] 114 true)).set (N+2) (.cells [.int .i64 0,.aa,.int .i64 0,.aa] 114 true)) (N+3):=aJ (aJ (aJ ab.refl _) _) _
 simp[A.b186,aO,aM,o1,o2,o3,o4]
 generalize gH:((h.set N (.cells [.int .i64 n1,u1,.int .i64 n2,u2] 114 true)).set (N+1) (.cells [.int .i64 n3,u3,.int .i64 n4,u4] 114 true)).set (N+2) (.cells [.int .i64 0,.aa,.int .i64 0,.aa] 114 true)=hB at*
 have b1:hB.get N=some (.cells [.int .i64 n1,u1,.int .i64 n2,u2] 114 true):=by rw[<-gH];simp
 have b2:hB.get (N+1)=some (.cells [.int .i64 n3,u3,.int .i64 n4,u4] 114 true):=by rw[<-gH];simp
 have b3:hB.get (N+2)=some (.cells [.int .i64 0,.aa,.int .i64 0,.aa] 114 true):=by rw[<-gH];simp
 refine ax (Yl7 (qZ.ad kB) h0 l3 l4) ?_
 rintro v5 h1 m1 k1 q1
 have ep:=k1.le
 have f1:=(k1.get N (by omega)).trans b1
 have f2:=(k1.get (N+1) (by omega)).trans b2
 have f3:=(k1.get (N+2) (by omega)).trans b3
 have e1:N<m1:=by omega
 have e2:N+1<m1:=by omega
 simp
 refine ax (SY ((lC.ad kB).ad k1) q1 l1 l2 l5 l6) ?_
 rintro v7 h3 m3 k3 hv
 rw[<-Rat.div_def]at hv
 obtain⟨n5,u5,n6,u6,rfl,t1,t2⟩:=hv
 have o5:=cZ t1
 have o6:=cZ t2
 unfold V.one at o5 o6
 have iV:=k3.le
 have f5:=(k3.get (N+2) (by omega)).trans f3
 have e3:N+2<m3:=by omega
 simp[f5,e3,aO,aM,ag,bL,o5,o6,dn.dp,aA]
 have kk:=(kB.trans k1).trans k3
 exact⟨kk.set (by omega),n5,u5,n6,u6,rfl,t1.aE (i:=N+2) f5 j_ rfl,t2.aE (i:=N+2) f5 j_ rfl⟩
variable {N k:Nat} {h:T O} {rw:Bool}
theorem M4{q:Rat}(h:Qb k q)(h0:q≠0):Qb k q⁻¹:=by
 have e:=M3 q
 have h1:q.num≠0:=fun hc=>h0 (wv.1 hc)
 refine⟨?_,?_⟩
 ·rw[Rat.num_inv,q8,dN]
  have:q.num.sign.natAbs=1:=by
   rcases Int.lt_trichotomy q.num 0 with h2|h2|h2
   ·rw[Int.sign_eq_neg_one_of_neg h2];rfl
   ·exact absurd h2 h1
   ·rw[Int.sign_eq_one_of_pos h2];rfl
  rw[this,Nat.one_mul]
  exact h.2
 ·rw[Rat.den_inv,ar h1]
  exact h.1
theorem Yo4{p:Nat}{u:V}{l:List Rat}{e:TypeId}(hp:h.get p=some (.cells [.int .i64 k] e rw))(jz:p<N)(hu:nO h N u l)(hk:k<l.length):q9 A.C (.func 194 [] [.ptr p 0]) [u] h N (fun x _ _=>x=.bool (decide (l[k]?.getD 0≠0))):=by
 intro w
 have l1:=hu.len
 have ga:(k:Int)<(l.length:Int):=by omega
 obtain⟨q,hq⟩:=bs hk
 obtain⟨i,o,cc,e,rw,c,q1,q2,q3,q4,q5⟩:=hu.at hq
 rw[hq]
 rw[aP,A.k194 (by simp)]
 simp[A.b194,hp,l1,ga,q1,q3,q4]
 refine ax (SZ q5.fc) ?_
 rintro _ H2 n2 k2 rfl
 have hz:(dK q.num≠0)=(q≠0):=by
  have h1:=@wv q
  apply propext
  unfold dK
  constructor
  ·intro hh hc
   have:=h1.2 hc
   rw[this]at hh
   simp at hh
  ·intro hh hc
   apply hh
   apply h1.1
   split at hc
   ·omega
   ·split at hc<;>omega
 simp[aA]
 refine⟨k2,?_⟩
 by_cases c0:q=0
 ·simp[c0,dK]
 ·have:dK q.num≠0:=by rw[hz];exact c0
  simp[c0,this]
theorem Yo3{p:Nat}{c d:List V}{x q:Rat}{e:TypeId}{j:Nat}(hp:h.get p=some (.cells d e rw))(jz:p<N)(hc:eQ h N c x)(hd:eQ h N d q)(h0:q≠0)(hx:Qb j x)(hq:Qb k q)(hj:j<=500000)(hk:k<=500000):q9 A.C (.func 195 [] [.ptr p 0]) [.agg c] h N (fun z h' n'=>Fc h' n' z (x/q)):=by
 intro w
 obtain⟨c1,c2⟩:=hc.len
 obtain⟨d1,d2⟩:=hd.len
 have w1:=hx.wu
 have w2:=hq.wu
 have w3:=(M4 hq h0).wu
 have jj:∀c:List V,(V.agg c).cells=c:=fun _=>rfl
 have s0:aM c 0 4=some c:=by unfold aM;rw[c1];simp;exact fN (by omega)
 have s1:aM d 0 4=some d:=by unfold aM;rw[d1];simp;exact fN (by omega)
 have kB:ab h N ((h.set N (.cells c 114 true)).set (N+1) (.cells zF 114 true)) (N+1+1):=(ab.refl.new _).new _
 unfold zF at kB
 have n1:¬p=N:=by omega
 have n2:¬p=N+1:=by omega
 have n3:¬N=N+1:=by omega
 rw[aP,A.k195 (by simp)]
 simp[-V.cells, -V.one,A.b195,hp,n1,n2,jj,c2,s0,s1]
 generalize hG:(h.set N (.cells c 114 true)).set (N+1) (.cells [.int .i64 0,.aa,.int .i64 0,.aa] 114 true)=G at*
 have g1:G.get (N+1)=some (.cells [.int .i64 0,.aa,.int .i64 0,.aa] 114 true):=by rw[<-hG];simp
 clear hG
 refine ax (Yl8 (hc.ad kB).fc (hd.ad kB).fc h0 (by omega) (by omega) (by omega) (by omega) (by omega) (by omega)) ?_
 rintro _ H2 m2 k2 hz
 obtain⟨z,rfl,xF⟩:=hz.c
 obtain⟨z1,z2⟩:=xF.len
 have mT:=k2.le
 have g2:=(k2.get (N+1) (by omega)).trans g1
 have e4:ag [V.int .i64 0,.aa,.int .i64 0,.aa] 0 z=z:=by unfold ag;rw[z1];simp
 have s2:aM z 0 4=some z:=by unfold aM;rw[z1];simp;exact fN (by omega)
 have lt:N+1<m2:=by omega
 simp[-V.cells, -V.one,bL,jj,z1,z2,e4,s2,g2,aA]
 exact⟨(kB.trans k2).set (by omega),(xF.aE (e1:=114) (w1:=true) (c1:=z) g2 j_ (by rw[z1];rfl)).fc⟩
theorem Yo2{p:Nat}{a b d:List V}{x y f:Rat}{e:TypeId}{i j:Nat}(hp:h.get p=some (.cells d e rw))(jz:p<N)(ha:eQ h N a x)(hb:eQ h N b y)(hd:eQ h N d f)(hx:Qb i x)(hy:Qb j y)(hf:Qb k f)(hi:i<=450000)(hj:j<=450000)(hk:k<=450000)(xG:1<=j)(bU:1<=k):q9 A.C (.func 196 [] [.ptr p 0]) [.agg a,.agg b] h N (fun z h' n'=>Fc h' n' z (x-f*y)):=by
 intro w
 obtain⟨a1,a2⟩:=ha.len
 obtain⟨b1,b2⟩:=hb.len
 obtain⟨d1,d2⟩:=hd.len
 have w1:=hx.wu
 have w2:=hy.wu
 have w3:=hf.wu
 have w4:=(hf.mul hy).wu
 have jj:∀c:List V,(V.agg c).cells=c:=fun _=>rfl
 have s0:∀c:List V,c.length=4->aM c 0 4=some c:=fun c h=>by unfold aM;rw[h];simp;exact fN (by omega)
 have sa:=s0 a a1
 have sb:=s0 b b1
 have sd:=s0 d d1
 have kB:ab h N (((h.set N (.cells a 114 true)).set (N+1) (.cells b 114 true)).set (N+1+1) (.cells zF 114 true)) (N+1+1+1):=((ab.refl.new _).new _).new _
 unfold zF at kB
 have n1:¬p=N:=by omega
 have n2:¬p=N+1:=by omega
 have n3:¬p=N+1+1:=by omega
 have n4:¬N=N+1:=by omega
 have n5:¬N=N+1+1:=by omega
 have lp:p<N+1+1+1:=by omega
 rw[aP,A.k196 (by simp)]
 simp[-V.cells, -V.one,A.b196,hp,n1,n2,n3,jj,a2,b2,sa,sb,sd,n5,lp]
 generalize hG:((h.set N (.cells a 114 true)).set (N+1) (.cells b 114 true)).set (N+1+1) (.cells [.int .i64 0,.aa,.int .i64 0,.aa] 114 true)=G at*
 have g1:G.get (N+1+1)=some (.cells [.int .i64 0,.aa,.int .i64 0,.aa] 114 true):=by rw[<-hG];simp
 have g2:G.get N=some (.cells a 114 true):=by rw[<-hG];simp[n5]
 have g3:G.get (N+1)=some (.cells b 114 true):=by rw[<-hG];simp
 clear hG
 refine ax (SY (hd.ad kB).fc (hb.ad kB).fc (by omega) (by omega) (by omega) (by omega)) ?_
 rintro _ H2 m2 k2 hz
 have mT:=k2.le
 have lt:N+1+1<m2:=by omega
 simp[]
 refine ax (Yl4 ((ha.ad kB).ad k2).fc hz (by omega) (by omega) (by omega) (by omega)) ?_
 rintro _ H3 m3 k3 hv
 obtain⟨z,rfl,xF⟩:=hv.c
 obtain⟨z1,z2⟩:=xF.len
 have tg:=k3.le
 have g4:=(k3.get (N+1+1) (by omega)).trans ((k2.get (N+1+1) (by omega)).trans g1)
 have e4:ag [V.int .i64 0,.aa,.int .i64 0,.aa] 0 z=z:=by unfold ag;rw[z1];simp
 have s2:=s0 z z1
 have lt3:N+1+1<m3:=by omega
 simp[-V.cells, -V.one,bL,jj,z1,z2,e4,s2,g4,lt,lt3,aA,dn.dp]
 exact⟨((kB.trans k2).trans k3).set (by omega),(xF.aE (e1:=114) (w1:=true) (c1:=z) g4 j_ (by rw[z1];rfl)).fc⟩
variable {N R:Nat} {f u v:V} {h:T O} {l:List Rat}
def A.zbL:aq:=sr [bi 9 .lss 8 7]
 (.seq (cd 9
 (.skip)
 (.exit 0))
 (.seq (.block 1 (sr [mv 10 8,mv 5 10]
 (sr [mv 11 1,mv 12 0,mv 13 5,ia 14 1 12 13,ld 15 14,⟨(some 16),.call (.tmp 11) [(.tmp 15)],none⟩]
 (cd 16
 (sr [mv 17 5,mv 4 17]
 (.ret))
 (.skip)))))
 (.aL [bc 18 .add 8 1,mv 8 18])))
def A.b193:aq:=sr [mc 4 0]
 (.seq (sr [mv 6 0,ln 7 6,mc 8 0]
 (.block 0 (.loop A.zbL)))
 (sr [⟨(some 4),.aZ (.const (.int .i64 (-1))),none⟩]
 (.ret)))
theorem A.c193:A.F 193=some ⟨19,[.tmp 4],A.b193⟩:=by kernel_rfl
def A.k193:=@A.kk 193 _ _ _ A.c193 rfl
theorem Yl0(l:List V)(p:Nat->Bool)(hs:Sl h N v l)(hl:l.length<1152921504606846976)(hf:∀(j:Nat) (x:V),l[j]?=some x->∀h' n',ab h N h' n'->q9 A.C f [x] h' n' (fun u _ _=>u=.bool (p j))):Fn A.C 193 [v,f] h N (fun u _ _=>u=.int .i64 (ka p 0 l.length)):=by
 intro w
 have hlen:=hs.len
 rw[aP,A.k193 (by simp)]
 simp[A.b193,hlen]
 refine bN [(4,5),(8,18)] (fun e r st=>au N st.w=[]/\ab h N st.h st.n/\((e=.exit 0/\ka p 0 l.length= -1)\/(e=.ret/\r.get 4=some (.int .i64 (ka p 0 l.length))))) (fun m r st=>au N st.w=[]/\ab h N st.h st.n/\∃k,k+m=l.length/\r.get 8=some (.int .i64 k)/\ka p 0 l.length=ka p k m) l.length ?_ ?_ ?_
 ·exact⟨by simp,ab.refl,0,by omega,by simp,rfl⟩
 ·rintro m r ⟨H,n1,W⟩ hr dX ⟨hW,hK,k,hk,h8,hz⟩
  simp only at hW hK
  rw[bn]
  cases m with
  |zero=>
   have:k=l.length:=by omega
   subst this
   simp only[ka]at hz
   simp[A.zbL,hr,dX,h8,hW,hK,hz]
  |succ m=>
   have aB:k<l.length:=by omega
   obtain⟨c,hc⟩:=bs aB
   obtain⟨i,o,cc,e,rw,q1,q2,q3,q4⟩:=hs.at hc
   have q3:=(hK.get _ q2).trans q3
   have bU:(k:Int)<(l.length:Int):=by omega
   simp only[ka]at hz
   simp[A.zbL,hr,h8,bU,hlen,q1,q3,q4]
   refine Dk (hf k c hc _ _ hK) ?_
   rintro v h2 n2 k2 rfl
   have kk:=hK.trans k2
   cases hp:p k
   ·rw[hp]at hz
    simp(disch:=first|(simp;done)|omega|rfl) [dX,h8,hW,kk]
    exact⟨m,by omega,k+1,by omega,by simp,by simpa using hz⟩
   ·rw[hp]at hz
    simp[dX,hW,kk]
    simpa using hz.symm
 ·rintro e r ⟨H,n1,W⟩ hr ⟨hW,hK,⟨rfl,hz⟩|⟨rfl,h4⟩⟩
  ·simp only at hW hK
   simp[hz,aA,hW,hK]
  ·simp only at hW hK
   simp[h4,aA,hW,hK]
def A.zbM:aq:=sr [bi 11 .lss 10 9]
 (.seq (cd 11
 (.skip)
 (.exit 0))
 (.seq (.block 1 (sr [ia 12 4 8 10,lN 13 4 12,⟨(some 7),.alloc [(.int .i64 0),.aa,(.int .i64 0),.aa] 114,none⟩,⟨none,.store 4 (.tmp 7) (.tmp 13),none⟩]
 (.aL [mv 14 5,mv 15 1,lN 16 4 7,⟨(some 17),.call (.tmp 15) [(.tmp 16)],none⟩,⟨(some 18),.aY 114 4 1 [(.int .i64 0),.aa,(.int .i64 0),.aa] [(0,4,(.tmp 17))],none⟩,⟨(some 19),.append 4 64 114 [(.int .i64 0),.aa,(.int .i64 0),.aa] (.tmp 14) (.tmp 18),none⟩,mv 5 19])))
 (.aL [bc 20 .add 10 1,mv 10 20])))
def A.b187:aq:=sr [mN 4]
 (sr [mN 5]
 (.seq (sr [mv 8 0,ln 9 8,mc 10 0]
 (.block 0 (.loop A.zbM)))
 (sr [mv 21 5,mv 4 21]
 (.ret))))
theorem A.c187:A.F 187=some ⟨22,[.tmp 4],A.b187⟩:=by kernel_rfl
def A.k187:=@A.kk 187 _ _ _ A.c187 rfl
theorem Ygw{l:List (List V)}{Q:Nat->T O->Nat->List V->Prop}(Y:V->Prop)(hQ:∀j h n h' n' c u,Q j h n c->dC (fun i=>i∈dj u) h n h' n'->pV 114 Y h u->Q j h' n' c)(hs:Sn 4 h N v l)(hl:l.length<1000000)(h1:∀(j:Nat) (x:List V),l[j]?=some x->x.length=4/\x.all V.one=true)(hf:∀(j:Nat) (x:List V),l[j]?=some x->∀h' n',ab h N h' n'->q9 A.C f [(.agg x)] h' n' (fun u h2 n2=>∃c,u=(.agg c)/\c.length=4/\c.all V.one=true/\(∀q∈c,Y q)/\Q j h2 n2 c)):Fn A.C 187 [v,f] h N (fun u h' n'=>∃out,Own 4 114 N h' n' u out/\out.length=l.length/\∀(j:Nat),j<l.length->∃c,out[j]?=some c/\Q j h' n' c):=by
 intro w
 have hlen:=hs.len
 rw[aP,A.k187 (by simp)]
 simp[A.b187,hlen]
 refine bN [(5,5),(7,7),(10,20)] (fun e r st=>e=.exit 0/\au N st.w=[]/\ab h N st.h st.n/\∃u out,r.get 5=some u/\Own 4 114 N st.h st.n u out/\out.length=l.length/\∀(j:Nat),j<l.length->∃c,out[j]?=some c/\Q j st.h st.n c) (fun m r st=>au N st.w=[]/\ab h N st.h st.n/\∃k u out,k+m=l.length/\r.get 10=some (.int .i64 k)/\r.get 5=some u/\Own 4 114 N st.h st.n u out/\out.length=k/\(out=[]->u=.aa)/\(∀c∈out,∀y∈c,Y y)/\∀(j:Nat),j<k->∃c,out[j]?=some c/\Q j st.h st.n c) l.length ?_ ?_ ?_
 ·exact⟨by simp,ab.refl,0,.aa,[],by omega,by simp,by simp,Own.nil,rfl,fun _=>rfl,by simp,fun j hj=>by omega⟩
 ·rintro m r ⟨H,n1,W⟩ hr dX ⟨hW,hK,k,u,out,hk,lO,h5,ho,kb,AZ,hY,fO⟩
  simp only at hW hK ho fO
  rw[bn]
  cases m with
  |zero=>
   have A1:k=l.length:=by omega
   subst A1
   simp[A.zbM,hr,dX,lO,hW,hK]
   exact⟨u,h5,out,ho,kb,fO⟩
  |succ m=>
   have aB:k<l.length:=by omega
   obtain⟨x,hx⟩:=bs aB
   obtain⟨i,o,cc,e,rw,q1,q2,q3,q4⟩:=(hs.ad hK).at hx
   have bU:(k:Int)<(l.length:Int):=by omega
   obtain⟨e1,e2⟩:=h1 k x hx
   have d1:¬i=n1:=by omega
   have d4:n1<n1+1:=by omega
   have kA:=(hK.new (.cells [(.int .i64 0),.aa,(.int .i64 0),.aa] 114 true)).set (i:=n1) (o:=.cells x 114 true) hK.le
   have e3:∀v:List V,(V.agg v).cells=v:=fun _=>rfl
   have e4:ag [(.int .i64 0),.aa,(.int .i64 0),.aa] 0 x=x:=by unfold ag;rw[e1];simp
   have e5:aM x 0 4=some x:=by unfold aM;rw[aF (by omega)];simp;exact fN (by omega)
   simp[-V.cells, -V.one,A.zbM,hr,lO,h5,bU,hlen,q1,q3,q4,aO,bL,e3,e1,e2,e4,e5]
   refine Dk (hf k x hx _ _ kA) ?_
   rintro _ h3 n3 k3 ⟨c,rfl,c1,c2,cY,c3⟩
   have iV:=k3.le
   have kn:=hK.le
   have kB:=kA.trans k3
   have b1:∀v:List V,(V.agg v).cells=v:=fun _=>rfl
   have b2:ag [(.int .i64 0),.aa,(.int .i64 0),.aa] 0 c=c:=by unfold ag;rw[c1];simp
   simp[-V.cells, -V.one,b1,b2,c1,c2]
   have th:Own 4 114 N (h3.set n3 (.cells c 114 true)) (n3+1) u out:=(ho.ad (((ab.refl.new _).set (aV n1)).trans k3)).ad (ab.refl.new _)
   obtain⟨v',h',w',f1,f2,f3,f4,fD,f5⟩:=Dl (Y:=Y) (x:=c) (u:=.slice n3 0 1 (some 1) 4) (bytes:=64) (w:=n1::W) th AZ hY (by omega) (by decide) c1 (by simp only[ft,St.row,T.ah,if_true];unfold aM;simp[c1];exact fN (by omega)) (by omega)
   rw[f1]
   have ix:¬n1<N:=by omega
   have f6:au N w'=[]:=by rw[f2];simp[au,hW,ix]
   have kz:=(kB.new (.cells c 114 true)).then f3
   have k4:ab h3 n3 (h3.set n3 (.cells c 114 true)) (n3+1):=ab.refl.new _
   have Fk:Q k (h3.set n3 (.cells c 114 true)) (n3+1) c:=hQ _ _ _ _ _ _ .aa c3 k4.upd pV.nil
   simp(disch:=first|(simp;done)|omega|rfl) [dX,lO,f6]
   refine⟨m,by omega,kz,k+1,by omega,by simp,out++[c],f5,by simp[kb],by simp,fun c' hc z hz=>?_,fun j hj=>?_⟩
   ·rcases pw.1 hc with hc|hc
    ·exact hY c' hc z hz
    ·simp only[uf]at hc;subst hc;exact cY z hz
   by_cases px:j<k
   ·obtain⟨c,g1,g2⟩:=fO j px
    exact⟨c,by rw[jO (by omega)];exact g1,hQ _ _ _ _ _ _ _ (hQ _ _ _ _ _ _ .aa g2 ((((ab.refl.new _).set (aV n1)).trans k3).trans k4).upd pV.nil) f4 fD⟩
   ·obtain rfl:j=k:=by omega
    exact⟨c,by rw[od (by omega),kb];simp,hQ _ _ _ _ _ _ _ Fk f4 fD⟩
 ·rintro _ r ⟨H,n1,W⟩ hr ⟨rfl,hW,hK,u,out,h5,ho,kb,fO⟩
  simp only at hW hK ho fO
  simp[h5,aA,hW,hK]
  exact⟨out,ho,kb,fO⟩
theorem Ylj(F:Rat->Rat)(hs:nO h N v l)(hl:l.length<1000000)(hf:∀q∈l,∀c h' n',ab h N h' n'->eQ h' n' c q->q9 A.C f [.agg c] h' n' (fun x h2 n2=>Fc h2 n2 x (F q))):Fn A.C 187 [v,f] h N (fun u h' n'=>jA h' n' u (l.map F)):=by
 obtain⟨cs,h1,h2,h3⟩:=hs
 have key:=Ygw (f:=f) (Q:=fun j h n c=>∀q,(l.map F)[j]?=some q->eQ h n c q) NW (fun j h n h' n' c u hq k hd q mU=>(hq q mU).cL k hd) h1 (by omega) (fun j x hx=>?_) ?_
 ·intro w
  refine(key w).mono fun u st=>?_
  rintro⟨q1,q2,out,o1,o2,o3⟩
  exact⟨q1,q2,Yn6 o1 (by simpa[h2]using o2) fun j hj=>o3 j (by simp at hj;omega)⟩
 ·obtain⟨q,hq⟩:=bs (l:=l) (k:=j) (by have:=kc hx;omega)
  obtain⟨c,g1,g2⟩:=h3 j q hq
  rw[hx]at g1
  obtain rfl:x=c:=by simpa using g1
  exact g2.len
 ·intro j x hx h' n' hk
  obtain⟨q,hq⟩:=bs (l:=l) (k:=j) (by have:=kc hx;omega)
  obtain⟨c,g1,g2⟩:=h3 j q hq
  rw[hx]at g1
  obtain rfl:x=c:=by simpa using g1
  refine fun w=>(hf q (cm hq) x h' n' hk (g2.ad hk) w).mono fun y st=>?_
  rintro⟨q1,q2,q3⟩
  obtain⟨c,rfl,hc⟩:=q3.c
  refine⟨q1,q2,c,rfl,hc.len.1,hc.len.2,hc.S0,fun t ht=>?_⟩
  simp[hq]at ht
  rw[<-ht]
  exact hc
structure jB (h:T O) (N R:Nat) (m:List (List Rat)):Prop where
 lt:R<N
 ex:∃us:List V,h.get R=some (.cells us 97 true)/\us.length=m.length/\pW us/\us.all V.one=true/\∀(j:Nat) (l:List Rat),m[j]?=some l->∃u,us[j]?=some u/\jA h N u l
theorem jA.pX{us vs:List V}{e:TypeId}{b c:Bool}(s:jA h N u l)(g:h.get R=some (.cells us e b))(he:e≠114)(hn:pW us)(hl:vs.length=us.length):jA (h.set R (.cells vs e c)) N u l:=by
 have bA:∀i∈dj u,i≠R:=fun i hi hc=>by
  obtain⟨z,w,hz⟩:=s.2 i hi
  rw[hc,g]at hz
  simp at hz
  exact he hz.2.1
 obtain⟨cs,h1,h2,h3⟩:=s.1
 have k:dC (fun i=>i=R) h N (h.set R (.cells vs e c)) N:=⟨aV _,fun i _ hi=>by rw[T.ah,ar hi]⟩
 refine⟨⟨cs,h1.cL k bA,h2,fun j q hq=>?_⟩,fun i hi=>?_⟩
 ·obtain⟨x,g1,g2⟩:=h3 j q hq
  exact⟨x,g1,g2.aE g hn hl⟩
 ·rw[T.ah,ar (bA i hi)]
  exact s.2 i hi
theorem jB.ad{h':T O}{N':Nat}{m:List (List Rat)}(s:jB h N R m)(k:ab h N h' N'):jB h' N' R m:=by
 obtain⟨us,g1,g2,g3,g4,g5⟩:=s.ex
 refine⟨dZ s.lt k.le,us,(k.get R s.lt).trans g1,g2,g3,g4,fun j l hl=>?_⟩
 obtain⟨u,a1,a2⟩:=g5 j l hl
 exact⟨u,a1,a2.ad k⟩
theorem jA.zk(s:jA h N u l):(∀n,u≠.int .u64 n)/\V.one u=true/\V.cells u=[u]:=by
 obtain⟨a,b,c⟩:=s.1.form
 exact⟨c,a,b⟩
theorem jB.put{i:Nat}{m:List (List Rat)}(s:jB h N R m)(hu:jA h N u l)(hi:i<m.length):∃us,h.get R=some (.cells us 97 true)/\us.length=m.length/\jB (h.set R (.cells (us.set i u) 97 true)) N R (m.set i l):=by
 obtain⟨us,g1,g2,g3,g4,g5⟩:=s.ex
 refine⟨us,g1,g2,s.lt,us.set i u,by rw[T.ah,aF rfl],by simp[g2],fun x hx=>?_,?_,fun j r hr=>?_⟩
 ·rcases zl hx with hx|rfl
  ·exact g3 x hx
  ·exact hu.zk.1
 ·rw[lM]
  intro x hx
  rcases zl hx with hx|rfl
  ·exact lM.1 g4 x hx
  ·exact hu.zk.2.1
 ·by_cases e:j=i
  ·subst e
   rw[fy hi]at hr
   simp only[ai]at hr
   subst hr
   exact⟨u,by rw[fy (by omega)],hu.pX g1 (by decide) g3 (by simp)⟩
  ·rw[dr (Ne.symm e)]at hr ⊢
   obtain⟨u',a1,a2⟩:=g5 j r hr
   exact⟨u',a1,a2.pX g1 (by decide) g3 (by simp)⟩
variable {d k:Nat} {m:List (List Rat)}
def ma(m:List (List Rat))(k:Nat):Nat->Nat->Nat
 |d,0=>d
 |d,n+1=>if (m[d]?.getD [])[k]?.getD 0≠0 then d else ma m k (d+1) n
def eJ(m:List (List Rat))(d k:Nat):Nat:=ma m k d (m.length-d)
theorem Fl{m:List (List Rat)}{k:Nat}:∀{n d:Nat},d<=ma m k d n/\ma m k d n<=d+n
 |0,d=>by simp[ma]
 |n+1,d=>by
  unfold ma
  split
  ·omega
  ·have:=@Fl m k n (d+1)
   omega
theorem Fm{m:List (List Rat)}{k:Nat}:∀{n d:Nat},ma m k d n<d+n->(m[ma m k d n]?.getD [])[k]?.getD 0≠0
 |0,d,h=>by simp[ma]at h
 |n+1,d,h=>by
  unfold ma at h ⊢
  split
  ·assumption
  ·rename_i hc
   rw[ar hc]at h
   exact Fm (by omega)
def py(r p:List Rat)(k:Nat):List Rat:=jP (fun x y=>x-r[k]?.getD 0*y) r p r.length
def gl(m:List (List Rat))(d k t:Nat):List (List Rat):=(List.range m.length).map fun i=>if i<t/\i≠d then py (m[i]?.getD []) (m[d]?.getD []) k else m[i]?.getD []
def er(m:List (List Rat))(d p:Nat):List (List Rat):=(m.set d (m[p]?.getD [])).set p (m[d]?.getD [])
def gS(m:List (List Rat))(d k:Nat):List (List Rat):=m.set d ((m[d]?.getD []).map fun x=>x/(m[d]?.getD [])[k]?.getD 0)
def jC(s:List (List Rat)×Nat×List Nat)(k:Nat):List (List Rat)×Nat×List Nat:=
 if eJ s.1 s.2.1 k<s.1.length then (gl (gS (er s.1 s.2.1 (eJ s.1 s.2.1 k)) s.2.1 k) s.2.1 k s.1.length,s.2.1+1,s.2.2++[k]) else s
def aU(m:List (List Rat))(n:Nat):List (List Rat)×Nat×List Nat:=(List.range n).foldl jC (m,0,[])
theorem ui{n:Nat}:aU m (n+1)=jC (aU m n) n:=by simp[aU,List.range_succ]
theorem wx{t:Nat}:(gl m d k t).length=m.length:=by simp[gl]
theorem zm{t i:Nat}(h:i<m.length):(gl m d k t)[i]?=some (if i<t/\i≠d then py (m[i]?.getD []) (m[d]?.getD []) k else m[i]?.getD []):=by simp[gl,h]
theorem S3:gl m d k 0=m:=by
 apply iW
 intro i
 by_cases h:i<m.length
 ·rw[zm h];simp[cW h]
 ·rw[eG (by rw[wx];omega),eG (by omega)]
theorem S4{t:Nat}(h:d<m.length):(gl m d k t)[d]?=m[d]?:=by
 rw[zm h,cW h];simp
theorem M5{t:Nat}(h:t<m.length)(hd:t≠d):gl m d k (t+1)=(gl m d k t).set t (py (m[t]?.getD []) (m[d]?.getD []) k):=by
 apply iW
 intro i
 by_cases hi:i<m.length
 ·by_cases e:i=t
  ·subst e
   rw[fy (by rw[wx];exact h),zm hi,aF ⟨by omega,hd⟩]
  ·rw[dr (Ne.symm e),zm hi,zm hi]
   congr 1
   by_cases e2:i<t
   ·simp[e2,show i<t+1 by omega]
   ·simp[e2,show ¬i<t+1 by omega]
 ·rw[eG (by rw[wx];omega),eG (by rw[q_,wx];omega)]
theorem S5:gl m d k (d+1)=gl m d k d:=by
 unfold gl
 apply uj
 intro i _
 by_cases e:i=d
 ·subst e;simp
 ·by_cases e2:i<d
  ·simp[e,e2,show i<d+1 by omega]
  ·simp[e2,show ¬i<d+1 by omega]
theorem Yag{r p:List Rat}(h:r[k]?.getD 0=0):py r p k=r:=by
 apply iW
 intro i
 by_cases hi:i<r.length
 ·unfold py
  rw[M6 hi,h,Rat.zero_mul,Rat.sub_eq_add_neg,Rat.neg_zero,Rat.add_zero,cW hi]
  rfl
 ·rw[eG (by unfold py;rw[A2];omega),eG (by omega)]
theorem S6{r p:List Rat}:(py r p k).length=r.length:=by unfold py;rw[A2]
variable {K d i k n:Nat} {m:List (List Rat)} {r:List Rat}
def ew(m:List (List Rat))(n:Nat):Prop:=∀r∈m,r.length=n
theorem ew.at(h:ew m n)(hi:i<m.length):(m[i]?.getD []).length=n:=by
 rw[cW hi]
 exact h _ (List.getElem_mem hi)
theorem ew.set(h:ew m n)(hr:r.length=n):ew (m.set i r) n:=fun x hx=>by
 rcases zl hx with hx|rfl
 ·exact h x hx
 ·exact hr
theorem ew.zn{p:Nat}(h:ew m n)(hd:d<m.length)(hp:p<m.length):ew (er m d p) n:=(h.set (h.at hp)).set (h.at hd)
theorem ew.Je(h:ew m n)(hd:d<m.length):ew (gS m d k) n:=h.set (by rw[si];exact h.at hd)
theorem ew.elm{t:Nat}(h:ew m n):ew (gl m d k t) n:=fun r hr=>by
 unfold gl at hr
 obtain⟨i,hi,rfl⟩:=jk.1 hr
 have hi:=wm.1 hi
 split
 ·rw[S6];exact h.at hi
 ·exact h.at hi
theorem ti{p:Nat}:(er m d p).length=m.length:=by simp[er]
theorem Dm:(gS m d k).length=m.length:=by simp[gS]
theorem Yj3{s:List (List Rat)×Nat×List Nat}:(jC s k).1.length=s.1.length:=by
 unfold jC
 split
 ·simp only[wx,Dm,ti]
 ·rfl
theorem Ynv{s:List (List Rat)×Nat×List Nat}(h:ew s.1 n)(hd:s.2.1<=s.1.length):ew (jC s k).1 n/\(jC s k).2.1<=s.1.length/\s.2.1<=(jC s k).2.1:=by
 unfold jC
 have hle:=@Fl s.1 k (s.1.length-s.2.1) s.2.1
 split
 ·rename_i hp
  have fu:s.2.1<s.1.length:=by unfold eJ at hp;omega
  exact⟨((h.zn fu hp).Je (by rw[ti];exact fu)).elm,by simp only;omega,by simp⟩
 ·exact⟨h,hd,aV _⟩
def e_(m:List (List Rat))(K:Nat):Prop:=∀r∈m,∀q∈r,Qb K q
theorem e_.mono{L:Nat}(h:e_ m K)(hk:K<=L):e_ m L:=fun r hr q hq=>(h r hr q hq).mono hk
theorem e_.at{m:List (List Rat)}{K i:Nat}(h:e_ m K):∀q∈m[i]?.getD [],Qb K q:=fun q hq=>by
 cases hr:m[i]? with
 |none=>rw[hr]at hq;simp at hq
 |some r=>rw[hr]at hq;exact h r (cm hr) q hq
theorem e_.set(h:e_ m K)(hr:∀q∈r,Qb K q):e_ (m.set i r) K:=fun x hx=>by
 rcases zl hx with hx|rfl
 ·exact h x hx
 ·exact hr
theorem e_.zn{p:Nat}(h:e_ m K):e_ (er m d p) K:=(h.set h.at).set h.at
theorem M7(h:e_ m K)(hK:1<=K)(hp:(m[d]?.getD [])[k]?.getD 0≠0):∀q∈(m[d]?.getD []).map (fun x=>x/(m[d]?.getD [])[k]?.getD 0),Qb (2*K) q:=fun q hq=>by
 obtain⟨x,hx,rfl⟩:=jk.1 hq
 have h1:=h.at (i:=d) x hx
 have h2:=M4 (Fo (fun q hq=>h.at (i:=d) q hq) hK k) hp
 rw[Rat.div_def,show 2*K=K+K by omega]
 exact h1.mul h2
theorem Yj1{p:List Rat}(hr:∀q∈r,Qb K q)(hp:∀q∈p,Qb (2*K) q)(hK:1<=K):∀q∈py r p k,Qb (4*K+1) q:=fun q hq=>by
 unfold py jP at hq
 obtain⟨i,_,rfl⟩:=jk.1 hq
 have h1:=Fo hr hK i
 have h2:=(Fo hr hK k).mul (Fo hp (by omega) i)
 have h3:Qb (K+2*K) (-(r[k]?.getD 0*p[i]?.getD 0)):=⟨by rw[Rat.neg_num,sq];exact h2.1,by rw[Rat.neg_den];exact h2.2⟩
 have h4:=h1.add h3
 rw[<-Rat.sub_eq_add_neg]at h4
 exact h4.mono (by omega)
theorem Ynw{s:List (List Rat)×Nat×List Nat}(h:e_ s.1 K)(hK:1<=K):e_ (jC s k).1 (4*K+1):=by
 unfold jC
 split
 ·rename_i hp
  have hle:=@Fl s.1 k (s.1.length-s.2.1) s.2.1
  have fu:s.2.1<s.1.length:=by unfold eJ at hp;omega
  have bA:=@Fm s.1 k (s.1.length-s.2.1) s.2.1 (by unfold eJ at hp;omega)
  have xH:=h.zn (d:=s.2.1) (p:=eJ s.1 s.2.1 k)
  have aj:(er s.1 s.2.1 (eJ s.1 s.2.1 k))[s.2.1]?.getD []=s.1[eJ s.1 s.2.1 k]?.getD []:=by
   unfold er
   by_cases e:eJ s.1 s.2.1 k=s.2.1
   ·rw[e,fy (by simp;omega)];rfl
   ·rw[dr e,fy fu];rfl
  have pz:((er s.1 s.2.1 (eJ s.1 s.2.1 k))[s.2.1]?.getD [])[k]?.getD 0≠0:=by rw[aj];exact bA
  have wy:=M7 xH hK pz
  intro r hr
  unfold gl at hr
  obtain⟨i,hi,rfl⟩:=jk.1 hr
  have hi:=wm.1 hi
  rw[Dm,ti]at hi
  have zo:(gS (er s.1 s.2.1 (eJ s.1 s.2.1 k)) s.2.1 k)[s.2.1]?.getD []=((er s.1 s.2.1 (eJ s.1 s.2.1 k))[s.2.1]?.getD []).map (fun x=>x/((er s.1 s.2.1 (eJ s.1 s.2.1 k))[s.2.1]?.getD [])[k]?.getD 0):=by
   unfold gS
   rw[fy (by rw[ti];exact fu)]
   rfl
  split
  ·rename_i hc
   have Fp:(gS (er s.1 s.2.1 (eJ s.1 s.2.1 k)) s.2.1 k)[i]?.getD []=(er s.1 s.2.1 (eJ s.1 s.2.1 k))[i]?.getD []:=by
    unfold gS
    rw[dr (Ne.symm hc.2)]
   rw[zo,Fp]
   exact Yj1 xH.at wy hK
  ·by_cases e:i=s.2.1
   ·rw[e,zo]
    exact fun q hq=>(wy q hq).mono (by omega)
   ·unfold gS
    rw[dr (Ne.symm e)]
    exact fun q hq=>(xH.at q hq).mono (by omega)
 ·exact h.mono (by omega)
def A.b47:aq:=sr [mc 2 0]
 (sr [mv 3 0,⟨(some 4),.build [(.int .i64 0),(.int .i64 0)] [(0,1,(.const (.int .i64 64))),(1,1,(.const (.int .i64 16)))],none⟩,c2 5 131 3 4,mv 2 5]
 (.ret))
theorem A.c47:A.F 47=some ⟨6,[.tmp 2],A.b47⟩:=by kernel_rfl
def A.k47:=@A.kk 47 _ _ _ A.c47 rfl
theorem M8{h:T O}{N:Nat}{v:V}{l:List (List aX)}(hs:gI h N v l)(hl:l.length<100000)(hx:∀x∈l,x.length<100000/\∀s∈x,s.length<=100000):Fn A.C 47 [v] h N (fun u _ _=>u=.int .i64 (jl l 64 16)):=by
 intro w
 rw[aP,A.k47 (by simp)]
 simp[A.b47,ag]
 refine ax (Yf4 (a:=64) (b:=16) hs hl hx) ?_
 rintro _ H2 n2 k2 rfl
 simp[aA]
 exact k2
theorem Jf{m:List (List aX)}(h:jl m 64 16=0)(hs:mb 6 6 m=true):uk m (gT m):=by
 obtain⟨s1,s2⟩:=M9 hs
 unfold jl at h
 split at h
 ·exact absurd h (by decide)
 split at h
 ·exact absurd h (by decide)
 rename_i h1 h2
 have hp:0<m.length:=by omega
 obtain⟨r0,eK,e0⟩:=Yop hp
 refine⟨hp,Na s1 (by omega),by omega,?_,fun r hr=>S7 (Dp h _ (jk.2 ⟨r,hr,rfl⟩)) (s2 r hr)⟩
 rw[e0]
 exact Na (S8 (s2 r0 eK)) (by omega)
theorem gI.one{h:T O}{N:Nat}{u:V}{m:List (List aX)}(hm:gI h N u m):V.one u=true/\V.cells u=[u]:=by
 obtain⟨us,⟨_,rfl|rfl⟩|⟨i,o,cp,c,e,rw,rfl,_⟩,_⟩:=hm<;>exact⟨rfl,rfl⟩
set_option maxHeartbeats 4000000
set_option maxHeartbeats 4000000
def S9(e:Int)(q:Rat)(x:V):Prop:=(e≠0/\x=.bb [.str [],.int .i64 e])\/(e=0/\((tj q=true/\x=.bb [.str [],.int .i64 4])\/(tj q=false/\x=.bb [.str (aN q),.int .i64 0])))
end Go.Mx
