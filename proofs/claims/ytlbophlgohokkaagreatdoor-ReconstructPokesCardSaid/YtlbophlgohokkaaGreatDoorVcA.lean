/-
  lensletlaw05.list.
-/
import Derived.Test.YtlbophlgohokkaaGreatDoorPkB
set_option linter.all false
namespace Go.Mx
open Go Go.Proofs
variable {h:T O} {l:List Rat}
set_option maxRecDepth 1000000
def A.b22:aq:=sr [⟨(some 8),.aY (.const (.bool false)),none⟩]
 (.seq (sr [mv 9 3,ei 10 9 0]
 (cd 10
 (.aM [mv 11 2,c1 12 97 11,mv 3 12])
 (.skip)))
 (sr [mv 13 1,mv 14 3,⟨(some 15),.bin .eql (.aI .int) false (.tmp 13) (.tmp 14),none⟩,mv 16 15,mg 17 3 16,⟨(some 18),.bin .eql (.aI .int) true (.tmp 17) (.const (.int .i64 0)),(some (16,true))⟩,mg 19 18 16,mg 20 0 19,mg 21 2 19,⟨(some 22),.call (.const (.func 60 [] [])) [(.tmp 20),(.tmp 21)],(some (19,true))⟩,⟨(some 23),.pick (.tmp 19) (.tmp 22) (.const (.bool false)),(some (16,true))⟩,mg 24 23 16,mh 25 3 24,⟨(some 26),.bin .neq (.aI .int) true (.tmp 25) (.const (.int .i64 0)),(some (24,false))⟩,mh 27 26 24,mg 28 0 27,⟨(some 29),.len 1 (.tmp 28),(some (27,true))⟩,⟨(some 30),.bin .eql (.aI .int) true (.tmp 29) (.const (.int .i64 0)),(some (27,true))⟩,⟨(some 31),.pick (.tmp 27) (.tmp 30) (.const (.bool false)),(some (24,false))⟩,⟨(some 32),.pick (.tmp 24) (.const (.bool true)) (.tmp 31),(some (16,true))⟩,pf 33 16 32,mv 8 33]
 (.ret)))
theorem A.c22:A.F 22=some ⟨34,[.tmp 8],A.b22⟩:=by kernel_rfl
def A.k22:=@A.kk 22 _ _ _ A.c22 rfl
def TP(e:Int)(l:List Rat)(v:V)(c:Int)(h:T O)(n:Nat):Prop:=(e≠0/\v=.aa/\c=e)\/(e=0/\((jS l=true/\v=.aa/\c=4)\/(jS l=false/\c=0/\Tx h n v l)))
theorem Yrc.parts{e:Int}{x:V}{n:Nat}(s:Yrc e l x h n):∃v c,x=.aZ [v,.int .i64 c]/\TP e l v c h n:=by
 rcases s with⟨a,rfl⟩|⟨a,⟨b,rfl⟩|⟨b,v,rfl,c⟩⟩
 ·exact⟨_,_,rfl,.inl ⟨a,rfl,rfl⟩⟩
 ·exact⟨_,_,rfl,.inr ⟨a,.inl ⟨b,rfl,rfl⟩⟩⟩
 ·exact⟨_,_,rfl,.inr ⟨a,.inr ⟨b,rfl,c⟩⟩⟩
theorem TP.ae{e:Int}{v:V}{c:Int}{h':T O}{n n':Nat}(s:TP e l v c h n)(k:ab h n h' n'):TP e l v c h' n':=by
 rcases s with a|⟨a,b|⟨b,d,s⟩⟩
 ·exact .inl a
 ·exact .inr ⟨a,.inl b⟩
 ·exact .inr ⟨a,.inr ⟨b,d,s.ae k⟩⟩
theorem Lx{N:Nat}{v u:V}{e c:Int}{w:List Nat}(hv:TP e l v c h N)(hu:e=0->Tx h N u l)(hl:l.length<100000)(hq:e=0->∀q∈l,(aW q).length<1000000000):A.C.call (.func 22 [] []) [v,.int .i64 c,u,.int .i64 e] ⟨h,N,w⟩=some (.bool true,⟨h,N,w⟩):=by
 apply Call.eq
 rw[aR,A.k22 (by simp)]
 rcases hv with⟨a,rfl,rfl⟩|⟨rfl,⟨b,rfl,rfl⟩|⟨b,rfl,t⟩⟩
 ·simp[A.b22,a]
 ·have hr:=fun w=>QU (w:=w) (hu rfl) hl (hq rfl)
  rw[b]at hr
  simp only[if_true]at hr
  simp[A.b22,hr]
 ·have hr:=fun w=>QU (w:=w) (hu rfl) hl (hq rfl)
  rw[b]at hr
  simp only[fx,if_false]at hr
  have hs:=fun w=>Wx (w:=w) (l:=l.map aW) t (hu rfl) (by simpa using hl)
  simp[A.b22,hr,hs]
variable {q:Rat}
def A.b191:aq:=sr [bx 1 114 0,⟨(some 2),.alloc [(.int .i64 0),.aa,(.int .i64 0),.aa] 114,none⟩]
 (.seq (.aV [fa 3 0 1,lN 4 2 3,c1 5 218 4,fa 6 2 1,lN 7 2 6,⟨(some 8),.build [(.int .i64 0),.aa,(.int .i64 0),.aa] [(0,2,(.tmp 5)),(2,2,(.tmp 7))],none⟩,⟨none,.store 4 (.tmp 2) (.tmp 8),none⟩] [0,1,3,0,8,31,63])
 (.ret))
theorem A.c191:A.F 191=some ⟨9,[.cell 2 (some 4)],A.b191⟩:=by kernel_rfl
def A.k191:=@A.kk 191 _ _ _ A.c191 rfl
def A.b119:aq:=sr [bx 2 114 0,bx 3 114 1,⟨(some 4),.alloc [(.int .i64 0),.aa,(.int .i64 0),.aa] 114,none⟩]
 (.seq (.aV [lN 5 4 2,lN 6 4 3,c1 7 191 6,c2 8 120 5 7,⟨none,.store 4 (.tmp 4) (.tmp 8),none⟩] [0,0,2,7,15])
 (.ret))
theorem A.c119:A.F 119=some ⟨9,[.cell 4 (some 4)],A.b119⟩:=by kernel_rfl
def A.k119:=@A.kk 119 _ _ _ A.c119 rfl
theorem Ylo{x:V}{h:T O}{N:Nat}(hx:Fc h N x q)(l1:wl q.num<1000000000):Fn A.C 191 [x] h N (fun v h' n'=>Fc h' n' v (-q)):=by
 intro w
 rw[aR,A.k191 (by simp)]
 obtain⟨n1,u1,n2,u2,rfl,s1,s2⟩:=hx
 have o1:=dt s1
 have o2:=dt s2
 unfold V.one at o1 o2
 have kB:ab h N ((h.set N (.cells [.int .i64 n1,u1,.int .i64 n2,u2] 114 true)).set (N+1) (.cells [.int .i64 0,.aa,.int .i64 0,.aa] 114 true)) (N+2):=aL (aL ab.refl _) _
 simp[A.b191,aU,aJ,o1,o2]
 generalize iZ:(h.set N (.cells [.int .i64 n1,u1,.int .i64 n2,u2] 114 true)).set (N+1) (.cells [.int .i64 0,.aa,.int .i64 0,.aa] 114 true)=hB at*
 have b1:hB.get N=some (.cells [.int .i64 n1,u1,.int .i64 n2,u2] 114 true):=by rw[<-iZ];simp
 have b3:hB.get (N+1)=some (.cells [.int .i64 0,.aa,.int .i64 0,.aa] 114 true):=by rw[<-iZ];simp
 refine ax (GU (s1.ae kB) (by omega)) ?_
 rintro v5 h1 m1 k1 q1
 obtain⟨n3,u3,rfl⟩:∃n3 u3,v5=.agg [.int .i64 n3,u3]:=by
  rcases q1 with⟨rfl,_⟩|⟨_,_,_,_,rfl,_⟩<;>exact⟨_,_,rfl⟩
 have o3:=dt q1
 unfold V.one at o3
 have eR:=k1.le
 have f1:=(k1.get N (by omega)).trans b1
 have f3:=(k1.get (N+1) (by omega)).trans b3
 have e1:N<m1:=by omega
 have e2:N+1<m1:=by omega
 simp[f1,f3,e1,e2,aU,aJ,ag,bW,o2,o3,dw.dB,aA]
 have kk:=kB.trans k1
 exact⟨kk.set (by omega),n3,u3,n2,u2,rfl,by rw[Rat.neg_num];exact q1.aE (i:=N+1) f3 mD rfl,by rw[Rat.neg_den];exact((s2.ae kB).ae k1).aE (i:=N+1) f3 mD rfl⟩
theorem Ylm{x y:V}{p:Rat}{h:T O}{N:Nat}(hx:Fc h N x p)(hy:Fc h N y q)(l1:wl p.num<1000000000)(l2:wl (p.den:Nat)<1000000000)(l3:wl q.num<1000000000)(l4:wl (q.den:Nat)<1000000000):Fn A.C 119 [x,y] h N (fun v h' n'=>Fc h' n' v (p-q)):=by
 intro w
 rw[aR,A.k119 (by simp)]
 have mW:=hx
 have uC:=hy
 obtain⟨n1,u1,n2,u2,rfl,s1,s2⟩:=hx
 obtain⟨n3,u3,n4,u4,rfl,s3,s4⟩:=hy
 have o1:=dt s1
 have o2:=dt s2
 have o3:=dt s3
 have o4:=dt s4
 unfold V.one at o1 o2 o3 o4
 have kB:ab h N (((h.set N (.cells [.int .i64 n1,u1,.int .i64 n2,u2] 114 true)).set (N+1) (.cells [.int .i64 n3,u3,.int .i64 n4,u4] 114 true)).set (N+2) (.cells [.int .i64 0,.aa,.int .i64 0,.aa] 114 true)) (N+3):=aL (aL (aL ab.refl _) _) _
 simp[A.b119,aU,aJ,o1,o2,o3,o4]
 generalize iZ:((h.set N (.cells [.int .i64 n1,u1,.int .i64 n2,u2] 114 true)).set (N+1) (.cells [.int .i64 n3,u3,.int .i64 n4,u4] 114 true)).set (N+2) (.cells [.int .i64 0,.aa,.int .i64 0,.aa] 114 true)=hB at*
 have b1:hB.get N=some (.cells [.int .i64 n1,u1,.int .i64 n2,u2] 114 true):=by rw[<-iZ];simp
 have b2:hB.get (N+1)=some (.cells [.int .i64 n3,u3,.int .i64 n4,u4] 114 true):=by rw[<-iZ];simp
 have b3:hB.get (N+2)=some (.cells [.int .i64 0,.aa,.int .i64 0,.aa] 114 true):=by rw[<-iZ];simp
 refine ax (Ylo (uC.ae kB) l3) ?_
 rintro v5 h1 m1 k1 q1
 have eR:=k1.le
 have f1:=(k1.get N (by omega)).trans b1
 have f2:=(k1.get (N+1) (by omega)).trans b2
 have f3:=(k1.get (N+2) (by omega)).trans b3
 have e1:N<m1:=by omega
 have e2:N+1<m1:=by omega
 simp
 refine ax (NK ((mW.ae kB).ae k1) q1 l1 l2 (by rw[Rat.neg_num,J7];exact l3) (by rw[Rat.neg_den];exact l4)) ?_
 rintro v7 h3 m3 k3 hv
 rw[<-Rat.sub_eq_add_neg]at hv
 obtain⟨n5,u5,n6,u6,rfl,t1,t2⟩:=hv
 have o5:=dt t1
 have o6:=dt t2
 unfold V.one at o5 o6
 have iX:=k3.le
 have f5:=(k3.get (N+2) (by omega)).trans f3
 have e3:N+2<m3:=by omega
 simp[f5,e3,aU,aJ,ag,bW,o5,o6,dw.dB,aA]
 have kk:=(kB.trans k1).trans k3
 exact⟨kk.set (by omega),n5,u5,n6,u6,rfl,t1.aE (i:=N+2) f5 mD rfl,t2.aE (i:=N+2) f5 mD rfl⟩
theorem Qb.wE{k:Nat}(h:Qb k q):wl q.num<=k/\wl (q.den:Nat)<=k:=⟨wv h.1,wv (z:=(q.den:Int)) (k:=k) (by rw[dm];exact h.2)⟩
def A.b248:aq:=sr [bx 1 114 0,⟨(some 2),.alloc [(.int .i64 0),.aa,(.int .i64 0),.aa] 114,none⟩]
 (sr [fa 3 2 1,lN 4 2 3,fa 5 0 1,lN 6 2 5,c2 7 156 4 6,⟨none,.store 4 (.tmp 2) (.tmp 7),none⟩]
 (.ret))
theorem A.c248:A.F 248=some ⟨8,[.cell 2 (some 4)],A.b248⟩:=by kernel_rfl
def A.k248:=@A.kk 248 _ _ _ A.c248 rfl
def A.b186:aq:=sr [bx 2 114 0,bx 3 114 1,⟨(some 4),.alloc [(.int .i64 0),.aa,(.int .i64 0),.aa] 114,none⟩]
 (.seq (.aV [lN 5 4 2,lN 6 4 3,c1 7 248 6,c2 8 90 5 7,⟨none,.store 4 (.tmp 4) (.tmp 8),none⟩] [0,0,2,7,15])
 (.ret))
theorem A.c186:A.F 186=some ⟨9,[.cell 4 (some 4)],A.b186⟩:=by kernel_rfl
def A.k186:=@A.kk 186 _ _ _ A.c186 rfl
def A.b195:aq:=sr [bx 2 114 0,⟨(some 3),.alloc [(.int .i64 0),.aa,(.int .i64 0),.aa] 114,none⟩]
 (sr [lN 4 4 2,lN 5 4 1,c2 6 186 4 5,⟨none,.store 4 (.tmp 3) (.tmp 6),none⟩]
 (.ret))
theorem A.c195:A.F 195=some ⟨7,[.cell 3 (some 4)],A.b195⟩:=by kernel_rfl
def A.k195:=@A.kk 195 _ _ _ A.c195 rfl
theorem Ylq{x:V}{q:Rat}{h:T O}{N:Nat}(hx:Fc h N x q)(h0:q≠0)(l1:wl q.num<1000000000)(l2:wl (q.den:Nat)<1000000000):Fn A.C 248 [x] h N (fun v h' n'=>Fc h' n' v q⁻¹):=by
 intro w
 rw[aR,A.k248 (by simp)]
 obtain⟨n1,u1,n2,u2,rfl,s1,s2⟩:=hx
 have o1:=dt s1
 have o2:=dt s2
 unfold V.one at o1 o2
 have kB:ab h N ((h.set N (.cells [.int .i64 n1,u1,.int .i64 n2,u2] 114 true)).set (N+1) (.cells [.int .i64 0,.aa,.int .i64 0,.aa] 114 true)) (N+2):=aL (aL ab.refl _) _
 simp[A.b248,aU,aJ,o1,o2]
 generalize iZ:(h.set N (.cells [.int .i64 n1,u1,.int .i64 n2,u2] 114 true)).set (N+1) (.cells [.int .i64 0,.aa,.int .i64 0,.aa] 114 true)=hB at*
 have b3:hB.get (N+1)=some (.cells [.int .i64 0,.aa,.int .i64 0,.aa] 114 true):=by rw[<-iZ];simp
 have hn:q.num≠0:=fun hc=>h0 (K7.1 hc)
 refine ax (UH (s2.ae kB) (s1.ae kB) hn (by omega) (by omega)) ?_
 rintro v7 h3 m3 k3 hv
 rw[<-OJ]at hv
 obtain⟨n5,u5,n6,u6,rfl,t1,t2⟩:=hv
 have o5:=dt t1
 have o6:=dt t2
 unfold V.one at o5 o6
 have iX:=k3.le
 have f5:=(k3.get (N+1) (by omega)).trans b3
 have e3:N+1<m3:=by omega
 simp[f5,aU,aJ,ag,bW,o5,o6,aA]
 have kk:=kB.trans k3
 exact⟨kk.set (by omega),n5,u5,n6,u6,rfl,t1.aE (i:=N+1) f5 mD rfl,t2.aE (i:=N+1) f5 mD rfl⟩
theorem Ycw{x y:V}{p q:Rat}{h:T O}{N:Nat}(hx:Fc h N x p)(hy:Fc h N y q)(h0:q≠0)(l1:wl p.num<1000000000)(l2:wl (p.den:Nat)<1000000000)(l3:wl q.num<1000000000)(l4:wl (q.den:Nat)<1000000000)(l5:wl q⁻¹.num<1000000000)(l6:wl (q⁻¹.den:Nat)<1000000000):Fn A.C 186 [x,y] h N (fun v h' n'=>Fc h' n' v (p/q)):=by
 intro w
 rw[aR,A.k186 (by simp)]
 have mW:=hx
 have uC:=hy
 obtain⟨n1,u1,n2,u2,rfl,s1,s2⟩:=hx
 obtain⟨n3,u3,n4,u4,rfl,s3,s4⟩:=hy
 have o1:=dt s1
 have o2:=dt s2
 have o3:=dt s3
 have o4:=dt s4
 unfold V.one at o1 o2 o3 o4
 have kB:ab h N (((h.set N (.cells [.int .i64 n1,u1,.int .i64 n2,u2] 114 true)).set (N+1) (.cells [.int .i64 n3,u3,.int .i64 n4,u4] 114 true)).set (N+2) (.cells [.int .i64 0,.aa,.int .i64 0,.aa] 114 true)) (N+3):=aL (aL (aL ab.refl _) _) _
 simp[A.b186,aU,aJ,o1,o2,o3,o4]
 generalize iZ:((h.set N (.cells [.int .i64 n1,u1,.int .i64 n2,u2] 114 true)).set (N+1) (.cells [.int .i64 n3,u3,.int .i64 n4,u4] 114 true)).set (N+2) (.cells [.int .i64 0,.aa,.int .i64 0,.aa] 114 true)=hB at*
 have b1:hB.get N=some (.cells [.int .i64 n1,u1,.int .i64 n2,u2] 114 true):=by rw[<-iZ];simp
 have b2:hB.get (N+1)=some (.cells [.int .i64 n3,u3,.int .i64 n4,u4] 114 true):=by rw[<-iZ];simp
 have b3:hB.get (N+2)=some (.cells [.int .i64 0,.aa,.int .i64 0,.aa] 114 true):=by rw[<-iZ];simp
 refine ax (Ylq (uC.ae kB) h0 l3 l4) ?_
 rintro v5 h1 m1 k1 q1
 have eR:=k1.le
 have f1:=(k1.get N (by omega)).trans b1
 have f2:=(k1.get (N+1) (by omega)).trans b2
 have f3:=(k1.get (N+2) (by omega)).trans b3
 have e1:N<m1:=by omega
 have e2:N+1<m1:=by omega
 simp
 refine ax (Ycs ((mW.ae kB).ae k1) q1 l1 l2 l5 l6) ?_
 rintro v7 h3 m3 k3 hv
 rw[<-Rat.div_def]at hv
 obtain⟨n5,u5,n6,u6,rfl,t1,t2⟩:=hv
 have o5:=dt t1
 have o6:=dt t2
 unfold V.one at o5 o6
 have iX:=k3.le
 have f5:=(k3.get (N+2) (by omega)).trans f3
 have e3:N+2<m3:=by omega
 simp[f5,e3,aU,aJ,ag,bW,o5,o6,dw.dB,aA]
 have kk:=(kB.trans k1).trans k3
 exact⟨kk.set (by omega),n5,u5,n6,u6,rfl,t1.aE (i:=N+2) f5 mD rfl,t2.aE (i:=N+2) f5 mD rfl⟩
theorem Hn{k:Nat}{q:Rat}(h:Qb k q)(h0:q≠0):Qb k q⁻¹:=by
 have e:=OJ q
 have h1:q.num≠0:=fun hc=>h0 (K7.1 hc)
 refine⟨?_,?_⟩
 ·rw[Rat.num_inv,tP,dm]
  have:q.num.sign.natAbs=1:=by
   rcases Int.lt_trichotomy q.num 0 with h2|h2|h2
   ·rw[Int.sign_eq_neg_one_of_neg h2];rfl
   ·exact absurd h2 h1
   ·rw[Int.sign_eq_one_of_pos h2];rfl
  rw[this,Nat.one_mul]
  exact h.2
 ·rw[Rat.den_inv,au h1]
  exact h.1
theorem Yon{h:T O}{N p:Nat}{c d:List V}{x q:Rat}{e:TypeId}{rw:Bool}{j k:Nat}(hp:h.get p=some (.cells d e rw))(vj:p<N)(hc:eG h N c x)(hd:eG h N d q)(h0:q≠0)(hx:Qb j x)(hq:Qb k q)(hj:j<=500000000)(hk:k<=500000000):jU A.C (.func 195 [] [.ptr p 0]) [.agg c] h N (fun z h' n'=>Fc h' n' z (x/q)):=by
 intro w
 obtain⟨c1,c2⟩:=hc.len
 obtain⟨d1,d2⟩:=hd.len
 have w1:=hx.wE
 have w2:=hq.wE
 have w3:=(Hn hq h0).wE
 have jP:∀c:List V,(V.agg c).cells=c:=fun _=>rfl
 have s0:aJ c 0 4=some c:=by unfold aJ;rw[c1];simp;exact eF (by omega)
 have s1:aJ d 0 4=some d:=by unfold aJ;rw[d1];simp;exact eF (by omega)
 have kB:ab h N ((h.set N (.cells c 114 true)).set (N+1) (.cells zF 114 true)) (N+1+1):=(ab.refl.new _).new _
 unfold zF at kB
 have n1:¬p=N:=by omega
 have n2:¬p=N+1:=by omega
 have n3:¬N=N+1:=by omega
 rw[aR,A.k195 (by simp)]
 simp[-V.cells, -V.one,A.b195,hp,n1,n2,jP,c2,s0,s1]
 generalize hG:(h.set N (.cells c 114 true)).set (N+1) (.cells [.int .i64 0,.aa,.int .i64 0,.aa] 114 true)=G at*
 have g1:G.get (N+1)=some (.cells [.int .i64 0,.aa,.int .i64 0,.aa] 114 true):=by rw[<-hG];simp
 clear hG
 refine ax (Ycw (hc.ae kB).fc (hd.ae kB).fc h0 (by omega) (by omega) (by omega) (by omega) (by omega) (by omega)) ?_
 rintro _ H2 m2 k2 hz
 obtain⟨z,rfl,Am⟩:=hz.c
 obtain⟨z1,z2⟩:=Am.len
 have nw:=k2.le
 have g2:=(k2.get (N+1) (by omega)).trans g1
 have e4:ag [V.int .i64 0,.aa,.int .i64 0,.aa] 0 z=z:=by unfold ag;rw[z1];simp
 have s2:aJ z 0 4=some z:=by unfold aJ;rw[z1];simp;exact eF (by omega)
 have lt:N+1<m2:=by omega
 simp[-V.cells, -V.one,bW,jP,z1,z2,e4,s2,g2,aA]
 exact⟨(kB.trans k2).set (by omega),(Am.aE (e1:=114) (w1:=true) (c1:=z) g2 mD (by rw[z1];rfl)).fc⟩
variable {N:Nat} {h:T O} {v:V}
set_option maxHeartbeats 2000000
def A.pQ:aq:=sr [bi 11 .lss 10 9]
 (.seq (cd 11
 (.skip)
 (.exit 0))
 (.seq (.block 1 (sr [ia 12 1 8 10,ld 13 12,mv 7 13]
 (.aM [mv 14 5,mv 15 1,mv 16 7,⟨(some 17),.call (.tmp 15) [(.tmp 16)],none⟩,⟨(some 18),.aO 114 4 1 [(.int .i64 0),.aa,(.int .i64 0),.aa] [(0,4,(.tmp 17))],none⟩,⟨(some 19),.append 4 64 114 [(.int .i64 0),.aa,(.int .i64 0),.aa] (.tmp 14) (.tmp 18),none⟩,mv 5 19])))
 (.aM [bc 20 .add 10 1,mv 10 20])))
def A.b184:aq:=sr [mN 4]
 (sr [mN 5]
 (.seq (sr [mv 8 0,ln 9 8,mc 10 0]
 (.block 0 (.loop A.pQ)))
 (sr [mv 21 5,mv 4 21]
 (.ret))))
theorem A.c184:A.F 184=some ⟨22,[.tmp 4],A.b184⟩:=by kernel_rfl
def A.k184:=@A.kk 184 _ _ _ A.c184 rfl
theorem Yf5{f:V}{l:List V}{Q:Nat->T O->Nat->List V->Prop}(Y:V->Prop)(hQ:∀j h n h' n' c u,Q j h n c->ff (fun i=>i∈cA u) h n h' n'->nz 114 Y h u->Q j h' n' c)(hs:Sl h N v l)(hl:l.length<1000000000)(hf:∀(j:Nat) (x:V),l[j]?=some x->∀h' n',ab h N h' n'->jU A.C f [x] h' n' (fun u h2 n2=>∃c,u=(.agg c)/\c.length=4/\c.all V.one=true/\(∀q∈c,Y q)/\Q j h2 n2 c)):Fn A.C 184 [v,f] h N (fun u h' n'=>∃out,Own 4 114 N h' n' u out/\out.length=l.length/\∀(j:Nat),j<l.length->∃c,out[j]?=some c/\Q j h' n' c):=by
 intro w
 have hlen:=hs.len
 rw[aR,A.k184 (by simp)]
 simp[A.b184,hlen]
 refine bQ [(5,5),(7,7),(10,20)] (fun e r st=>e=.exit 0/\ad N st.w=[]/\ab h N st.h st.n/\∃u out,r.get 5=some u/\Own 4 114 N st.h st.n u out/\out.length=l.length/\∀(j:Nat),j<l.length->∃c,out[j]?=some c/\Q j st.h st.n c) (fun m r st=>ad N st.w=[]/\ab h N st.h st.n/\∃k u out,k+m=l.length/\r.get 10=some (.int .i64 k)/\r.get 5=some u/\Own 4 114 N st.h st.n u out/\out.length=k/\(out=[]->u=.aa)/\(∀c∈out,∀y∈c,Y y)/\∀(j:Nat),j<k->∃c,out[j]?=some c/\Q j st.h st.n c) l.length ?_ ?_ ?_
 ·exact⟨by simp,ab.refl,0,.aa,[],by omega,by simp,by simp,Own.nil,rfl,fun _=>rfl,by simp,fun j hj=>by omega⟩
 ·rintro m r ⟨H,n1,W⟩ hr fI ⟨hW,hK,k,u,out,hk,eM,h5,ho,iN,ym,hY,d_⟩
  simp only at hW hK ho d_
  rw[bA]
  cases m with
  |zero=>
   have At:k=l.length:=by omega
   subst At
   simp[A.pQ,hr,fI,eM,hW,hK]
   exact⟨u,h5,out,ho,iN,d_⟩
  |succ m=>
   have aD:k<l.length:=by omega
   obtain⟨x,hx⟩:=bV aD
   obtain⟨i,o,cc,e,rw,q1,q2,q3,q4⟩:=(hs.ae hK).at hx
   have cK:(k:Int)<(l.length:Int):=by omega
   have kA:=hK
   simp[A.pQ,hr,eM,h5,cK,hlen,q1,q3,q4]
   refine BD (hf k x hx _ _ kA) ?_
   rintro _ h3 n3 k3 ⟨c,rfl,c1,c2,cY,c3⟩
   have iX:=k3.le
   have kn:=hK.le
   have kB:=kA.trans k3
   have b1:∀v:List V,(V.agg v).cells=v:=fun _=>rfl
   have b2:ag [(.int .i64 0),.aa,(.int .i64 0),.aa] 0 c=c:=by unfold ag;rw[c1];simp
   simp[-V.cells, -V.one,b1,b2,c1,c2]
   have uB:Own 4 114 N (h3.set n3 (.cells c 114 true)) (n3+1) u out:=(ho.ae ((ab.refl).trans k3)).ae (ab.refl.new _)
   obtain⟨v',h',w',f1,f2,f3,f4,fD,f5⟩:=zy (Y:=Y) (x:=c) (u:=.slice n3 0 1 (some 1) 4) (bytes:=64) (w:=W) uB ym hY (by omega) (by decide) c1 (by simp only[eC,St.row,T.ai,if_true];unfold aJ;simp[c1];exact eF (by omega)) (by omega)
   rw[f1]
   have iV:¬n1<N:=by omega
   have f6:ad N w'=[]:=by rw[f2];simp[hW]
   have kz:=(kB.new (.cells c 114 true)).then f3
   have k4:ab h3 n3 (h3.set n3 (.cells c 114 true)) (n3+1):=ab.refl.new _
   have Es:Q k (h3.set n3 (.cells c 114 true)) (n3+1) c:=hQ _ _ _ _ _ _ .aa c3 k4.upd nz.nil
   simp(disch:=first|(simp;done)|omega|(simp only[bl,bG,bh];omega)|rfl) [fI,eM,f6]
   refine⟨m,by omega,kz,k+1,by omega,by simp,out++[c],f5,by simp[iN],by simp,fun c' hc z hz=>?_,fun j hj=>?_⟩
   ·rcases oF.1 hc with hc|hc
    ·exact hY c' hc z hz
    ·simp only[vM]at hc;subst hc;exact cY z hz
   by_cases rl:j<k
   ·obtain⟨c,g1,g2⟩:=d_ j rl
    exact⟨c,by rw[lX (by omega)];exact g1,hQ _ _ _ _ _ _ _ (hQ _ _ _ _ _ _ .aa g2 (((ab.refl).trans k3).trans k4).upd nz.nil) f4 fD⟩
   ·obtain rfl:j=k:=by omega
    exact⟨c,by rw[pX (by omega),iN];simp,hQ _ _ _ _ _ _ _ Es f4 fD⟩
 ·rintro _ r ⟨H,n1,W⟩ hr ⟨rfl,hW,hK,u,out,h5,ho,iN,d_⟩
  simp only at hW hK ho d_
  simp[h5,aA,hW,hK]
  exact⟨out,ho,iN,d_⟩
def A.pR:aq:=sr [bi 11 .lss 10 9]
 (.seq (cd 11
 (.skip)
 (.exit 0))
 (.seq (.block 1 (sr [ia 12 3 8 10,lN 13 3 12,⟨(some 5),.alloc [(.int .i64 0),(.str []),.aa] 90,none⟩,⟨none,.store 3 (.tmp 5) (.tmp 13),none⟩]
 (sr [fa 14 1 5,ld 15 14,c1 16 146 15,⟨(some 6),.alloc [(.int .i64 0),.aa,(.int .i64 0),.aa] 114,none⟩,⟨none,.store 4 (.tmp 6) (.tmp 16),none⟩]
 (.aV [mv 17 3,fa 18 0 5,ld 19 18,mv 20 3,fa 21 0 5,ld 22 21,⟨(some 23),.lookup (.int .i64) .aa (.tmp 20) (.tmp 22) false,none⟩,fa 24 2 5,ld 25 24,⟨(some 26),.bM 185 [] [(.tmp 6)],none⟩,c2 27 184 25 26,⟨(some 28),.aO 97 1 1 [.aa] [(0,1,(.tmp 27))],none⟩,⟨(some 29),.append 1 24 97 [.aa] (.tmp 23) (.tmp 28),none⟩,⟨none,.ot (.int .i64) (.tmp 17) (.tmp 19) (.tmp 29),none⟩] [0,0,2,0,0,16,56,0,128,0,896,1920,4088,8191]))))
 (.aM [bc 30 .add 10 1,mv 10 30])))
def A.b115:aq:=sr [⟨(some 2),.aY (.const .bH),none⟩]
 (sr [⟨(some 7),.qu,none⟩,mv 3 7]
 (.seq (sr [mv 8 0,ln 9 8,mc 10 0]
 (.block 0 (.loop A.pR)))
 (sr [mv 31 3,mv 2 31]
 (.ret))))
theorem A.c115:A.F 115=some ⟨32,[.tmp 2],A.b115⟩:=by kernel_rfl
def A.k115:=@A.kk 115 _ _ _ A.c115 rfl
def A.b185:aq:=sr [⟨(some 3),.alloc [(.int .i64 0),.aa,(.int .i64 0),.aa] 114,none⟩]
 (.seq (.aV [mv 4 0,c1 5 146 4,lN 6 4 1,c2 7 186 5 6,⟨none,.store 4 (.tmp 3) (.tmp 7),none⟩] [0,1,0,7,15])
 (.ret))
theorem A.c185:A.F 185=some ⟨8,[.cell 3 (some 4)],A.b185⟩:=by kernel_rfl
def A.k185:=@A.kk 185 _ _ _ A.c185 rfl
theorem Yk4{f:V}{l:List a_}(F:a_->Rat)(hs:Sl h N v (strs l))(hl:l.length<1000000000)(hf:∀s∈l,∀h' n',ab h N h' n'->jU A.C f [.str s] h' n' (fun x h2 n2=>Fc h2 n2 x (F s))):Fn A.C 184 [v,f] h N (fun u h' n'=>fK h' n' u (l.map F)):=by
 have key:=Yf5 (f:=f) (Q:=fun j h n c=>∀q,(l.map F)[j]?=some q->eG h n c q) NW (fun j h n h' n' c u hq k hd q wy=>(hq q wy).bY k hd) hs (by rw[yY];omega) ?_
 ·intro w
  refine(key w).mono fun u st=>?_
  rintro⟨q1,q2,out,o1,o2,o3⟩
  exact⟨q1,q2,V7 o1 (by simpa[strs]using o2) fun j hj=>o3 j (by simp at hj;rw[yY];omega)⟩
 ·intro j x hx h' n' hk
  obtain⟨s,Wb⟩:=bV (l:=l) (k:=j) (by have:=mM hx;rw[yY]at this;omega)
  rw[Du Wb]at hx
  obtain rfl:V.str s=x:=by simpa using hx
  refine fun w=>(hf s (du Wb) h' n' hk w).mono fun y st=>?_
  rintro⟨q1,q2,q3⟩
  obtain⟨c,rfl,hc⟩:=q3.c
  refine⟨q1,q2,c,rfl,hc.len.1,hc.len.2,hc.EI,fun q hq=>?_⟩
  simp[Wb]at hq
  rw[<-hq]
  exact hc
theorem Yib{s:a_}(hc:bk s=0)(hl:s.length<=24):Fn A.C 146 [.str s] h N (fun x h' n'=>Fc h' n' x (gg s)):=by
 obtain⟨t1,t2,t3⟩:=FF hc
 have l1:(aK (gg s).num).length<=100000:=by
  have:(aK (gg s).num).length<=(ak (gg s).num.natAbs).length+1:=by unfold aK;split<;>simp
  omega
 have sh:=Yln (q:=gg s) (h:=h) (N:=N) l1 (by omega)
 rw[t1]at sh
 exact sh
theorem N6{c:List V}(h:c.length=4):aJ c 0 4=some c:=by unfold aJ;rw[h];simp;exact eF (by omega)
theorem Kl{c:List V}(h:c.length=4):ag [V.int .i64 0,.aa,.int .i64 0,.aa] 0 c=c:=by unfold ag;rw[h];simp
theorem Ynn{B:Nat}{s:a_}{d:List V}{q:Rat}{e:TypeId}{rw:Bool}(hB:h.get B=some (.cells d e rw))(NQ:B<N)(hd:eG h N d q)(h0:q≠0)(hq:Qb 100 q)(hs:bk s=0)(hl:s.length<=24):jU A.C (.func 185 [] [.ptr B 0]) [.str s] h N (fun z h' n'=>Fc h' n' z (gg s/q)):=by
 intro w
 obtain⟨d1,d2⟩:=hd.len
 have jP:∀c:List V,(V.agg c).cells=c:=fun _=>rfl
 have s1:=N6 d1
 have lC:=SS hs hl
 have w1:=lC.wE
 have w2:=hq.wE
 have w3:=(Hn hq h0).wE
 have kB:ab h N (h.set N (.cells [.int .i64 0,.aa,.int .i64 0,.aa] 114 true)) (N+1):=ab.refl.new _
 have gN:(h.set N (.cells [.int .i64 0,.aa,.int .i64 0,.aa] 114 true)).get N=some (.cells [.int .i64 0,.aa,.int .i64 0,.aa] 114 true):=by rw[T.ai,aF rfl]
 have gB:=(kB.get B NQ).trans hB
 rw[aR,A.k185 (by simp)]
 simp[-V.cells, -V.one,A.b185]
 generalize h.set N (.cells [.int .i64 0,.aa,.int .i64 0,.aa] 114 true)=G at*
 refine ax (Yib hs hl) ?_
 rintro x H1 n1 k1 hx
 have Fi:=k1.le
 have K6:=(k1.get B (by omega)).trans gB
 have lB:B<n1:=by omega
 simp[-V.cells, -V.one,K6,lB,s1]
 refine ax (Ycw hx ((hd.ae kB).ae k1).fc h0 (by omega) (by omega) (by omega) (by omega) (by omega) (by omega)) ?_
 rintro _ H2 n2 k2 hz
 obtain⟨z,rfl,Am⟩:=hz.c
 obtain⟨z1,z2⟩:=Am.len
 have nw:=k2.le
 have g2:=(k2.get N (by omega)).trans ((k1.get N (by omega)).trans gN)
 have e4:=Kl z1
 have s2:=N6 z1
 have lt:N<n2:=by omega
 have lt1:N<n1:=by omega
 simp[-V.cells, -V.one,bW,jP,z1,z2,e4,s2,g2,lt,lt1,aA,dw.dB]
 exact⟨((kB.trans k1).trans k2).set (aS _),(Am.aE (e1:=114) (w1:=true) (c1:=z) g2 mD (by rw[z1];rfl)).fc⟩
structure EP (p:Pk) (S Z:Nat):Prop where
 lo:0<=p.act
 hi:p.act<Z
 num:bk p.am=0
 len:p.am.length<=24
 ne:gg p.am≠0
 sl:p.sl.length=S
 ok:AQ p.sl
theorem NV{h:T O}{n M:Nat}{w:List Nat}{ks:List (Int×V)}{a:Int}(g:h.get M=some (.map (rE ks))):LW ⟨h,n,w⟩ (.int .i64) .aa false (some (.map M)) (some (.int .i64 a))=some (wA ks a,⟨h,n,w⟩):=by
 have hf:(gU.int IntKind.i64).fits (V.int IntKind.i64 a)=true:=rfl
 show (if (gU.int IntKind.i64).fits (V.int IntKind.i64 a)=true then HX ⟨h,n,w⟩ (.int .i64) .aa false (.int .i64 a) (h.get M) else none)=_
 rw[aF hf,g,WS,UY]
 unfold wA
 cases hx:mY a ks 0 with
 |none=>rfl
 |some p=>rfl
theorem Yqo{h:T O}{n M:Nat}{w:List Nat}{ks:List (Int×V)}{a:Int}{x:V}(g:h.get M=some (.map (rE ks))):tY ⟨h,n,w⟩ (.int .i64) (some (.map M)) (some (.int .i64 a)) (some x)=some (.aZ [],⟨h.set M (.map (rE (wz a x ks))),n,M::w⟩):=by
 have hf:(gU.int IntKind.i64).fits (V.int IntKind.i64 a)=true:=rfl
 show (if (gU.int IntKind.i64).fits (V.int IntKind.i64 a)=true then Gg ⟨h,n,w⟩ (.int .i64) M (.int .i64 a) x (h.get M) else none)=_
 rw[aF hf]
 unfold Gg
 simp only[g,UY]
 cases hx:mY a ks 0 with
 |none=>simp only[HY,<-Zq2 hx];rfl
 |some p=>obtain⟨j,y⟩:=p;simp only[HY,<-Zq1 hx];rfl
theorem Zk5{l:List Pk}{S Z:Nat}(hs:nY h N v l)(hl:l.length<1000)(hG:∀p∈l,EP p S Z)(hS:S<1000):Fn A.C 115 [v] h N (fun x h' n'=>∃ks,x=.map N/\vA h' (N+1) n' N ks l):=by
 intro w
 have lg:=hs.len
 have kB:ab h N (h.set N (.map [])) (N+1):=ab.refl.new _
 rw[aR,A.k115 (by simp)]
 simp[A.b115,lg]
 refine bQ [(5,6),(10,30)] (fun e r st=>e=.exit 0/\ad N st.w=[]/\ab h N st.h st.n/\∃ks,vA st.h (N+1) st.n N ks l) (fun i r st=>ad N st.w=[]/\ab h N st.h st.n/\∃t ks,t+i=l.length/\r.get 10=some (.int .i64 t)/\vA st.h (N+1) st.n N ks (l.take t)) l.length ?_ ?_ ?_
 ·exact⟨by simp,kB,0,[],by omega,by simp,vA.nil (by simp) (by omega) (by show N+1<=N+1;omega)⟩
 ·rintro i r ⟨H,n,W⟩ hr hf ⟨hW,hK,t,ks,ht,eM,hM⟩
  simp only at hW hK hM
  have le:=hM.le
  rw[bA]
  cases i with
  |zero=>
   obtain rfl:t=l.length:=by omega
   rw[eF (aS _)]at hM
   simp[A.pR,hr,hf,eM,hW,hK]
   exact⟨ks,hM⟩
  |succ i=>
   have aD:t<l.length:=by omega
   have bm:(t:Int)<(l.length:Int):=by omega
   obtain⟨p,hp⟩:=bV aD
   have hg:=hG p (du hp)
   obtain⟨i1,o,y,e,rw,u,q1,q2,q3,q4,q5,q6,q7,q8⟩:=(hs.ae hK).at hp
   have ou:V.one u=true:=q8.form.one
   have jP:∀c:List V,(V.agg c).cells=c:=fun _=>rfl
   have cl:(ed p u).length=3:=rfl
   have c2:(ed p u).all V.one=true:=by simp[ed, -V.one,ou];exact⟨rfl,rfl⟩
   have e3:∀z:List V,z.length=3->ag [V.int .i64 0,.str [],.aa] 0 z=z:=fun z hz=>by unfold ag;rw[hz];simp
   have p0:(ed p u)[0]?=some (.int .i64 p.act):=rfl
   have p1:(ed p u)[1]?=some (.str p.am):=rfl
   have p2:(ed p u)[2]?=some u:=rfl
   simp[-V.cells, -V.one,A.pR,hr,eM,bm,lg,jP,cl,c2,e3,q1,q3,q4,bW]
   have kA:ab H n ((H.set n (.cells [.int .i64 0,.str [],.aa] 90 true)).set n (.cells (ed p u) 90 true)) (n+1):=(ab.refl.new _).set (aS _)
   have gA:((H.set n (.cells [.int .i64 0,.str [],.aa] 90 true)).set n (.cells (ed p u) 90 true)).get n=some (.cells (ed p u) 90 true):=by rw[T.ai,aF rfl]
   generalize (H.set n (.cells [.int .i64 0,.str [],.aa] 90 true)).set n (.cells (ed p u) 90 true)=G1 at*
   refine ax (Yib hg.num hg.len) ?_
   rintro _ H2 n2 k2 hx
   obtain⟨c,rfl,hc⟩:=hx.c
   obtain⟨c3,c4⟩:=hc.len
   have nw:=k2.le
   have e4:=Kl c3
   have Cz:=(k2.get n (by omega)).trans gA
   have kC:ab H2 n2 ((H2.set n2 (.cells [.int .i64 0,.aa,.int .i64 0,.aa] 114 true)).set n2 (.cells c 114 true)) (n2+1):=(ab.refl.new _).set (aS _)
   have gC:((H2.set n2 (.cells [.int .i64 0,.aa,.int .i64 0,.aa] 114 true)).set n2 (.cells c 114 true)).get n2=some (.cells c 114 true):=by rw[T.ai,aF rfl]
   have ft:¬n=n2:=by omega
   have ln3:n<n2+1:=by omega
   simp[-V.cells, -V.one,hr,jP,c3,c4,e4,bW,ft,ln3,Cz,p0]
   generalize (H2.set n2 (.cells [.int .i64 0,.aa,.int .i64 0,.aa] 114 true)).set n2 (.cells c 114 true)=G3 at*
   have gA3:=(kC.get n (by omega)).trans Cz
   have AT:=((hM.ae kA).ae k2).ae kC
   have gM:=AT.map
   have jG:=fun w=>NV (n:=n2+1) (w:=w) (a:=p.act) gM
   simp[-V.cells, -V.one,jG,gA3,ln3,p2]
   have gT:Qb 100 (gg p.am):=SS hg.num hg.len
   refine ax (Yk4 (fun s=>gg s/gg p.am) (((q8.ae kA).ae k2).ae kC) (by rw[hg.sl];omega) fun s iA h' n' eQ=>Ynn ((eQ.get n2 (by omega)).trans gC) (by have:=eQ.le;omega) ((hc.ae kC).ae eQ) hg.ne gT (hg.ok s iA).1 (hg.ok s iA).2) ?_
   rintro x H4 n4 k4 hx4
   have Kk:=k4.le
   have hx5:fK H4 n4 x ((ql p.sl).map fun y=>y/gg p.am):=by
    have e:(ql p.sl).map (fun y=>y/gg p.am)=p.sl.map fun s=>gg s/gg p.am:=by unfold ql;rw[List.map_map];rfl
    rw[e];exact hx4
   obtain⟨f1,f2,f3⟩:=hx5.1.form
   have kD:ab H4 n4 (H4.set n4 (.cells [x] 97 true)) (n4+1):=ab.refl.new _
   have vw:ag [V.aa] 0 [x]=[x]:=rfl
   obtain⟨v',h',w',j1,j2,j3,j4,j5,j6⟩:=vA.push (x:=.slice n4 0 1 (some 1) 1) (w:=[]) ((AT.ae k4).ae kD) (hx5.ae kD) (by simp[eC,St.row,aJ]) (by rw[fR];omega)
   have Nv:=fun w=>Yqo (n:=n4+1+1) (w:=w) (a:=p.act) (x:=v') j4
   have ar:=fun i hi=>(hM.yb p.act).row i hi
   simp[-V.cells, -V.one,vw,f1,f2,Cc,j1,Nv]
   have Wc:∀i∈ad (n4+1) w',N+1<=i/\i<n:=fun i hi=>by
    have:=(B0 hi).1
    rw[j6,uT]at this
    exact ar i this
   have hm:zQ (ad (n4+1) w') (some [n])=false:=by
    unfold zQ
    rw[List.any_eq_false]
    intro i hi
    have:=Wc i hi
    simp
    omega
   generalize ad (n4+1) w'=ww at*
   refine(DM (by simp[-ad];exact fun x hx=>by have:=Wc x hx;omega)).2 ?_
   simp(disch:=first|(simp;done)|omega|(simp only[bl,bG,bh];omega)|rfl) [-V.cells, -V.one,hf,eM]
   have kY:=(((((hK.trans kA).trans k2).trans kC).trans k4).trans kD)
   have kZ:ab h N h' (n4+1+1):=kY.then ⟨by have:=j3.le;omega,fun i hi=>j3.get i (by omega)⟩
   refine⟨i,by omega,B1 fun j hj=>?_,kZ.set (aS _),t+1,by omega,by simp,_,by rw[pV,hp];exact j5⟩
   have hNN:N<n4+1+1:=by omega
   simp only[hNN,if_true,oF,kb,List.not_mem_nil,or_false]at hj
   rcases hj with rfl|hj|rfl|rfl|hj
   ·exact aS _
   ·have:=Wc j hj
    omega
   ·omega
   ·omega
   ·exact ET hW j hj
 ·rintro _ r ⟨H,n,W⟩ hr ⟨rfl,hW,hK,ks,hM⟩
  simp only at hW hK hM
  simp[hr,aA,hW,hK]
  exact⟨ks,hM⟩
variable {N R:Nat} {h:T O} {l:List Rat} {u:V}
def A.pS:aq:=sr [bi 11 .lss 10 9]
 (.seq (cd 11
 (.skip)
 (.exit 0))
 (.seq (.block 1 (sr [ia 12 4 8 10,lN 13 4 12,⟨(some 7),.alloc [(.int .i64 0),.aa,(.int .i64 0),.aa] 114,none⟩,⟨none,.store 4 (.tmp 7) (.tmp 13),none⟩]
 (.aM [mv 14 5,mv 15 1,lN 16 4 7,⟨(some 17),.call (.tmp 15) [(.tmp 16)],none⟩,⟨(some 18),.aO 114 4 1 [(.int .i64 0),.aa,(.int .i64 0),.aa] [(0,4,(.tmp 17))],none⟩,⟨(some 19),.append 4 64 114 [(.int .i64 0),.aa,(.int .i64 0),.aa] (.tmp 14) (.tmp 18),none⟩,mv 5 19])))
 (.aM [bc 20 .add 10 1,mv 10 20])))
def A.b187:aq:=sr [mN 4]
 (sr [mN 5]
 (.seq (sr [mv 8 0,ln 9 8,mc 10 0]
 (.block 0 (.loop A.pS)))
 (sr [mv 21 5,mv 4 21]
 (.ret))))
theorem A.c187:A.F 187=some ⟨22,[.tmp 4],A.b187⟩:=by kernel_rfl
def A.k187:=@A.kk 187 _ _ _ A.c187 rfl
theorem Yf3{v f:V}{l:List (List V)}{Q:Nat->T O->Nat->List V->Prop}(Y:V->Prop)(hQ:∀j h n h' n' c u,Q j h n c->ff (fun i=>i∈cA u) h n h' n'->nz 114 Y h u->Q j h' n' c)(hs:Sn 4 h N v l)(hl:l.length<1000000000)(h1:∀(j:Nat) (x:List V),l[j]?=some x->x.length=4/\x.all V.one=true)(hf:∀(j:Nat) (x:List V),l[j]?=some x->∀h' n',ab h N h' n'->jU A.C f [(.agg x)] h' n' (fun u h2 n2=>∃c,u=(.agg c)/\c.length=4/\c.all V.one=true/\(∀q∈c,Y q)/\Q j h2 n2 c)):Fn A.C 187 [v,f] h N (fun u h' n'=>∃out,Own 4 114 N h' n' u out/\out.length=l.length/\∀(j:Nat),j<l.length->∃c,out[j]?=some c/\Q j h' n' c):=by
 intro w
 have hlen:=hs.len
 rw[aR,A.k187 (by simp)]
 simp[A.b187,hlen]
 refine bQ [(5,5),(7,7),(10,20)] (fun e r st=>e=.exit 0/\ad N st.w=[]/\ab h N st.h st.n/\∃u out,r.get 5=some u/\Own 4 114 N st.h st.n u out/\out.length=l.length/\∀(j:Nat),j<l.length->∃c,out[j]?=some c/\Q j st.h st.n c) (fun m r st=>ad N st.w=[]/\ab h N st.h st.n/\∃k u out,k+m=l.length/\r.get 10=some (.int .i64 k)/\r.get 5=some u/\Own 4 114 N st.h st.n u out/\out.length=k/\(out=[]->u=.aa)/\(∀c∈out,∀y∈c,Y y)/\∀(j:Nat),j<k->∃c,out[j]?=some c/\Q j st.h st.n c) l.length ?_ ?_ ?_
 ·exact⟨by simp,ab.refl,0,.aa,[],by omega,by simp,by simp,Own.nil,rfl,fun _=>rfl,by simp,fun j hj=>by omega⟩
 ·rintro m r ⟨H,n1,W⟩ hr fI ⟨hW,hK,k,u,out,hk,eM,h5,ho,iN,ym,hY,d_⟩
  simp only at hW hK ho d_
  rw[bA]
  cases m with
  |zero=>
   have At:k=l.length:=by omega
   subst At
   simp[A.pS,hr,fI,eM,hW,hK]
   exact⟨u,h5,out,ho,iN,d_⟩
  |succ m=>
   have aD:k<l.length:=by omega
   obtain⟨x,hx⟩:=bV aD
   obtain⟨i,o,cc,e,rw,q1,q2,q3,q4⟩:=(hs.ae hK).at hx
   have cK:(k:Int)<(l.length:Int):=by omega
   obtain⟨e1,e2⟩:=h1 k x hx
   have d1:¬i=n1:=by omega
   have d4:n1<n1+1:=by omega
   have kA:=(hK.new (.cells [(.int .i64 0),.aa,(.int .i64 0),.aa] 114 true)).set (i:=n1) (o:=.cells x 114 true) hK.le
   have e3:∀v:List V,(V.agg v).cells=v:=fun _=>rfl
   have e4:ag [(.int .i64 0),.aa,(.int .i64 0),.aa] 0 x=x:=by unfold ag;rw[e1];simp
   have e5:aJ x 0 4=some x:=by unfold aJ;rw[aF (by omega)];simp;exact eF (by omega)
   simp[-V.cells, -V.one,A.pS,hr,eM,h5,cK,hlen,q1,q3,q4,aU,bW,e3,e1,e2,e4,e5]
   refine BD (hf k x hx _ _ kA) ?_
   rintro _ h3 n3 k3 ⟨c,rfl,c1,c2,cY,c3⟩
   have iX:=k3.le
   have kn:=hK.le
   have kB:=kA.trans k3
   have b1:∀v:List V,(V.agg v).cells=v:=fun _=>rfl
   have b2:ag [(.int .i64 0),.aa,(.int .i64 0),.aa] 0 c=c:=by unfold ag;rw[c1];simp
   simp[-V.cells, -V.one,b1,b2,c1,c2]
   have uB:Own 4 114 N (h3.set n3 (.cells c 114 true)) (n3+1) u out:=(ho.ae (((ab.refl.new _).set (aS n1)).trans k3)).ae (ab.refl.new _)
   obtain⟨v',h',w',f1,f2,f3,f4,fD,f5⟩:=zy (Y:=Y) (x:=c) (u:=.slice n3 0 1 (some 1) 4) (bytes:=64) (w:=n1::W) uB ym hY (by omega) (by decide) c1 (by simp only[eC,St.row,T.ai,if_true];unfold aJ;simp[c1];exact eF (by omega)) (by omega)
   rw[f1]
   have iV:¬n1<N:=by omega
   have f6:ad N w'=[]:=by rw[f2];simp[ad,hW,iV]
   have kz:=(kB.new (.cells c 114 true)).then f3
   have k4:ab h3 n3 (h3.set n3 (.cells c 114 true)) (n3+1):=ab.refl.new _
   have Es:Q k (h3.set n3 (.cells c 114 true)) (n3+1) c:=hQ _ _ _ _ _ _ .aa c3 k4.upd nz.nil
   simp(disch:=first|(simp;done)|omega|rfl) [fI,eM,f6]
   refine⟨m,by omega,kz,k+1,by omega,by simp,out++[c],f5,by simp[iN],by simp,fun c' hc z hz=>?_,fun j hj=>?_⟩
   ·rcases oF.1 hc with hc|hc
    ·exact hY c' hc z hz
    ·simp only[vM]at hc;subst hc;exact cY z hz
   by_cases rl:j<k
   ·obtain⟨c,g1,g2⟩:=d_ j rl
    exact⟨c,by rw[lX (by omega)];exact g1,hQ _ _ _ _ _ _ _ (hQ _ _ _ _ _ _ .aa g2 ((((ab.refl.new _).set (aS n1)).trans k3).trans k4).upd nz.nil) f4 fD⟩
   ·obtain rfl:j=k:=by omega
    exact⟨c,by rw[pX (by omega),iN];simp,hQ _ _ _ _ _ _ _ Es f4 fD⟩
 ·rintro _ r ⟨H,n1,W⟩ hr ⟨rfl,hW,hK,u,out,h5,ho,iN,d_⟩
  simp only at hW hK ho d_
  simp[h5,aA,hW,hK]
  exact⟨out,ho,iN,d_⟩
theorem Yk2{v f:V}(F:Rat->Rat)(hs:nW h N v l)(hl:l.length<1000000000)(hf:∀q∈l,∀c h' n',ab h N h' n'->eG h' n' c q->jU A.C f [.agg c] h' n' (fun x h2 n2=>Fc h2 n2 x (F q))):Fn A.C 187 [v,f] h N (fun u h' n'=>fK h' n' u (l.map F)):=by
 obtain⟨cs,h1,h2,h3⟩:=hs
 have key:=Yf3 (f:=f) (Q:=fun j h n c=>∀q,(l.map F)[j]?=some q->eG h n c q) NW (fun j h n h' n' c u hq k hd q wy=>(hq q wy).bY k hd) h1 (by omega) (fun j x hx=>?_) ?_
 ·intro w
  refine(key w).mono fun u st=>?_
  rintro⟨q1,q2,out,o1,o2,o3⟩
  exact⟨q1,q2,V7 o1 (by simpa[h2]using o2) fun j hj=>o3 j (by simp at hj;omega)⟩
 ·obtain⟨q,hq⟩:=bV (l:=l) (k:=j) (by have:=mM hx;omega)
  obtain⟨c,g1,g2⟩:=h3 j q hq
  rw[hx]at g1
  obtain rfl:x=c:=by simpa using g1
  exact g2.len
 ·intro j x hx h' n' hk
  obtain⟨q,hq⟩:=bV (l:=l) (k:=j) (by have:=mM hx;omega)
  obtain⟨c,g1,g2⟩:=h3 j q hq
  rw[hx]at g1
  obtain rfl:x=c:=by simpa using g1
  refine fun w=>(hf q (du hq) x h' n' hk (g2.ae hk) w).mono fun y st=>?_
  rintro⟨q1,q2,q3⟩
  obtain⟨c,rfl,hc⟩:=q3.c
  refine⟨q1,q2,c,rfl,hc.len.1,hc.len.2,hc.EI,fun t ht=>?_⟩
  simp[hq]at ht
  rw[<-ht]
  exact hc
structure vD (h:T O) (N R:Nat) (m:List (List Rat)):Prop where
 lt:R<N
 ex:∃us:List V,h.get R=some (.cells us 97 true)/\us.length=m.length/\rD us/\us.all V.one=true/\∀(j:Nat) (l:List Rat),m[j]?=some l->∃u,us[j]?=some u/\fK h N u l
theorem fK.wM{us vs:List V}{e:TypeId}{b c:Bool}(s:fK h N u l)(g:h.get R=some (.cells us e b))(he:e≠114)(hn:rD us)(hl:vs.length=us.length):fK (h.set R (.cells vs e c)) N u l:=by
 have bJ:∀i∈cA u,i≠R:=fun i hi hc=>by
  obtain⟨z,w,hz⟩:=s.2 i hi
  rw[hc,g]at hz
  simp at hz
  exact he hz.2.1
 obtain⟨cs,h1,h2,h3⟩:=s.1
 have k:ff (fun i=>i=R) h N (h.set R (.cells vs e c)) N:=⟨aS _,fun i _ hi=>by rw[T.ai,au hi]⟩
 refine⟨⟨cs,h1.bY k bJ,h2,fun j q hq=>?_⟩,fun i hi=>?_⟩
 ·obtain⟨x,g1,g2⟩:=h3 j q hq
  exact⟨x,g1,g2.aE g hn hl⟩
 ·rw[T.ai,au (bJ i hi)]
  exact s.2 i hi
theorem vD.ae{h':T O}{N':Nat}{m:List (List Rat)}(s:vD h N R m)(k:ab h N h' N'):vD h' N' R m:=by
 obtain⟨us,g1,g2,g3,g4,g5⟩:=s.ex
 refine⟨eY s.lt k.le,us,(k.get R s.lt).trans g1,g2,g3,g4,fun j l hl=>?_⟩
 obtain⟨u,a1,a2⟩:=g5 j l hl
 exact⟨u,a1,a2.ae k⟩
theorem fK.nou(s:fK h N u l):(∀n,u≠.int .u64 n)/\V.one u=true/\V.cells u=[u]:=by
 obtain⟨a,b,c⟩:=s.1.form
 exact⟨c,a,b⟩
theorem vD.put{i:Nat}{m:List (List Rat)}(s:vD h N R m)(hu:fK h N u l)(hi:i<m.length):∃us,h.get R=some (.cells us 97 true)/\us.length=m.length/\vD (h.set R (.cells (us.set i u) 97 true)) N R (m.set i l):=by
 obtain⟨us,g1,g2,g3,g4,g5⟩:=s.ex
 refine⟨us,g1,g2,s.lt,us.set i u,by rw[T.ai,aF rfl],by simp[g2],fun x hx=>?_,?_,fun j r hr=>?_⟩
 ·rcases A8 hx with hx|rfl
  ·exact g3 x hx
  ·exact hu.nou.1
 ·rw[m8]
  intro x hx
  rcases A8 hx with hx|rfl
  ·exact m8.1 g4 x hx
  ·exact hu.nou.2.1
 ·by_cases e:j=i
  ·subst e
   rw[lW hi]at hr
   simp only[aj]at hr
   subst hr
   exact⟨u,by rw[lW (by omega)],hu.wM g1 (by decide) g3 (by simp)⟩
  ·rw[eI (Ne.symm e)]at hr ⊢
   obtain⟨u',a1,a2⟩:=g5 j r hr
   exact⟨u',a1,a2.wM g1 (by decide) g3 (by simp)⟩
end Go.Mx
