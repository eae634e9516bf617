/-reconstruct-/
import Derived.Test.YtlfdeoomaccciaaGreatDoorVbD
set_option linter.all false
namespace Go.Mx
noncomputable section
open Go Go.Proofs
variable {l:List aM} {m:List (List aM)} {n:Nat}
set_option maxHeartbeats 2000000
set_option maxRecDepth 1000000
def l9(l:List aM):List Rat:=l.map fw
def eP(m:List (List aM)):List (List Rat):=m.map l9
def A8:∀{l:List Int},cH l=0->∀x∈l,x=0
 |[],_,x,hx=>by simp at hx
 |y::l,h,x,hx=>by
  simp only[cH]at h
  split at h
  ·rename_i h0
   rcases kv.1 hx with rfl|hx
   ·exact h0
   ·exact A8 h x hx
  ·rename_i h0;exact absurd h h0
def wV(l:List aM):Prop:=∀s∈l,bf s=0/\s.length<=24
def wV.Hm(h:wV l):(l9 l).map aR=l:=by
 unfold l9
 rw[List.map_map]
 conv=>rhs;rw[<-List.map_id l]
 apply A6
 intro s hs
 exact(FR (h s hs).1).1
def wV.qb(h:wV l):∀q∈l9 l,Qb 100 q:=fun q hq=>by
 obtain⟨s,hs,rfl⟩:=fv.1 hq
 exact Va (h s hs).1 (h s hs).2
def wV.sl{h:T O}{N:Nat}{v:V}(hs:Sl h N v (strs l))(hl:wV l):Tx h N v (l9 l):=by
 unfold Tx tx
 rw[hl.Hm]
 exact hs
def iJ.rat{h:T O}{N:Nat}{v:V}(hs:iJ h N v m)(hm:∀r∈m,wV r):gj h N v (eP m):=by
 apply iJ.ya
 have:((eP m).map fun l=>l.map aR)=m:=by
  unfold eP
  rw[List.map_map]
  conv=>rhs;rw[<-List.map_id m]
  apply A6
  intro r hr
  exact(hm r hr).Hm
 rw[this]
 exact hs
def Yjx(h:pP l n=0)(hs:fW 6 l=true):l.length=n/\wV l:=by
 unfold pP at h
 split at h
 ·rename_i hn
  refine⟨hn,fun s jl=>?_⟩
  have h1:=A8 h _ (fv.2 ⟨s,jl,rfl⟩)
  have h2:l.all pC=true:=by
   unfold fW at hs
   rw[iy]at hs
   exact hs.2
  have h3:=l7.1 h2 s jl
  simp[pC]at h3
  exact⟨by omega,h3⟩
 ·exact absurd h (by decide)
def Zsh(h:fW n l=true):nW l.length n=true:=by
 unfold fW at h
 rw[iy]at h
 exact h.1
structure IX (m:List (List aM)) (n:Nat):Prop where
 pos:0<m.length
 le:m.length<=6
 n1:0<n
 n6:n<=6
 row:∀r∈m,r.length=n/\wV r
def IX.rat(h:IX m n):∀r∈eP m,r.length=n/\∀q∈r,Qb 100 q:=fun r hr=>by
 obtain⟨s,hs,rfl⟩:=fv.1 hr
 exact⟨by simp[l9,(h.row s hs).1],(h.row s hs).2.qb⟩
def Zpk(h:pR 6 6 m=true):nW m.length 6=true/\∀r∈m,fW 6 r=true:=by
 unfold pR at h
 rw[iy,l7]at h
 exact h
def Yrw(h:0<m.length):∃r∈m,dR m=r.length:=by
 obtain⟨r,hr⟩:=bh h
 exact⟨r,bU hr,by simp[dR,hr]⟩
def Zn5{k:Nat}(h:nW k 6=true)(h2:k<=64):k<=6:=by
 simp[nW]at h
 omega
def PH(h:fW 6 l=true):l.length<100000/\∀s∈l,s.length<=100000:=by
 refine⟨by have:=US (Zsh h) (by omega);omega,fun s hs=>?_⟩
 unfold fW at h
 rw[iy]at h
 have h3:=l7.1 h.2 s hs
 simp[pC]at h3
 omega
def U9(h:pR 6 6 m=true):m.length<100000/\∀r∈m,r.length<100000/\∀s∈r,s.length<=100000:=by
 obtain⟨s1,s2⟩:=Zpk h
 exact⟨by have:=US s1 (by omega);omega,fun r hr=>PH (s2 r hr)⟩
def Yoy{a b:List Rat}{j k:Nat}(ha:∀q∈a,Qb j q)(hb:∀q∈b,Qb k q)(hj:1<=j)(hk:1<=k)(hn:a.length<=n):Qb (n*(j+k+1)+1) (mm a b):=(RO ha hb hj hk a.length).mono (by have:=mr (j+k+1) hn;omega)
def Yct{a b:V}{x y:Int}{P:V->Int->Nat->Prop}(h0:P a x 0)(h1:x=0->P b y 1):∀(j:Nat) (f:V) (e:Int),[a,b][j]?=some f->[x,y][j]?=some e->(∀(i:Nat) (z:Int),i<j->[x,y][i]?=some z->z=0)->P f e j
 |0,f,e,hf,he,_=>by simp at hf he;subst hf he;exact h0
 |1,f,e,hf,he,hz=>by simp at hf he;subst hf he;exact h1 (hz 0 x (by omega) rfl)
 |j+2,f,e,hf,_,_=>by simp at hf
set_option maxHeartbeats 2000000
def Ypm{l:List aM}{z:Int}(h:cH (l.map (kL z))=0)(hs:fW 6 l=true):wV l:=fun s jl=>by
 have h1:=A8 h _ (fv.2 ⟨s,jl,rfl⟩)
 unfold fW at hs
 rw[iy]at hs
 have h3:=l7.1 hs.2 s jl
 simp[pC]at h3
 refine⟨?_,h3⟩
 unfold kL at h1
 split at h1
 ·assumption
 ·omega
set_option maxHeartbeats 2000000
def TP(e:Int)(l:List Rat)(v:V)(c:Int)(h:T O)(n:Nat):Prop:=(e≠0/\v=.aa/\c=e)\/(e=0/\((pO l=true/\v=.aa/\c=4)\/(pO l=false/\c=0/\Tx h n v l)))
def A.b150:=A.q Tryz.f150
def A.k150:=@A.kk 150 9 [.cell 2 (some 4)] A.b150 (by kernel_rfl) rfl
def A.b69:=A.q Tryz.f69
def A.k69:=@A.kk 69 9 [.cell 4 (some 4)] A.b69 (by kernel_rfl) rfl
def Yom{x:V}{q:Rat}{h:T O}{N:Nat}(hx:Fc h N x q)(l1:wl q.num<1000000000):Fn A.C 150 [x] h N (fun v h' n'=>Fc h' n' v (-q)):=by
 intro w
 rw[aN,A.k150 (by simp)]
 obtain⟨n1,u1,n2,u2,rfl,s1,s2⟩:=hx
 have o1:=dN s1
 have o2:=dN s2
 unfold V.one at o1 o2
 have kB:ab h N ((h.set N (.cells [.int .i64 n1,u1,.int .i64 n2,u2] 80 true)).set (N+1) (.cells [.int .i64 0,.aa,.int .i64 0,.aa] 80 true)) (N+2):=aL (aL ab.refl _) _
 simp[A.b150,aO,aD,ad,o1,o2]
 generalize jW:(h.set N (.cells [.int .i64 n1,u1,.int .i64 n2,u2] 80 true)).set (N+1) (.cells [.int .i64 0,.aa,.int .i64 0,.aa] 80 true)=hB at*
 have b1:hB.get N=some (.cells [.int .i64 n1,u1,.int .i64 n2,u2] 80 true):=by rw[<-jW];simp
 have b3:hB.get (N+1)=some (.cells [.int .i64 0,.aa,.int .i64 0,.aa] 80 true):=by rw[<-jW];simp
 refine aB (JZ (s1.ae kB) (by omega)) ?_
 rintro v5 h1 m1 k1 q1
 obtain⟨n3,u3,rfl⟩:∃n3 u3,v5=.agg [.int .i64 n3,u3]:=by
  rcases q1 with⟨rfl,_⟩|⟨_,_,_,_,rfl,_⟩<;>exact⟨_,_,rfl⟩
 have o3:=dN q1
 unfold V.one at o3
 have fk:=k1.le
 have f1:=(k1.get N (by omega)).trans b1
 have f3:=(k1.get (N+1) (by omega)).trans b3
 have e1:N<m1:=by omega
 have e2:N+1<m1:=by omega
 simp[f1,f3,e1,e2,aO,aD,ad,bD,o2,o3,ct.cv,aA]
 have kk:=kB.trans k1
 exact⟨kk.set (by omega),n3,u3,n2,u2,rfl,by rw[Rat.neg_num];exact q1.aI (i:=N+1) f3 oT rfl,by rw[Rat.neg_den];exact((s2.ae kB).ae k1).aI (i:=N+1) f3 oT rfl⟩
def Yol{x y:V}{p q:Rat}{h:T O}{N:Nat}(hx:Fc h N x p)(hy:Fc h N y q)(l1:wl p.num<1000000000)(l2:wl (p.den:Nat)<1000000000)(l3:wl q.num<1000000000)(l4:wl (q.den:Nat)<1000000000):Fn A.C 69 [x,y] h N (fun v h' n'=>Fc h' n' v (p-q)):=by
 intro w
 rw[aN,A.k69 (by simp)]
 have mG:=hx
 have xG:=hy
 obtain⟨n1,u1,n2,u2,rfl,s1,s2⟩:=hx
 obtain⟨n3,u3,n4,u4,rfl,s3,s4⟩:=hy
 have o1:=dN s1
 have o2:=dN s2
 have o3:=dN s3
 have o4:=dN s4
 unfold V.one at o1 o2 o3 o4
 have kB:ab h N (((h.set N (.cells [.int .i64 n1,u1,.int .i64 n2,u2] 80 true)).set (N+1) (.cells [.int .i64 n3,u3,.int .i64 n4,u4] 80 true)).set (N+2) (.cells [.int .i64 0,.aa,.int .i64 0,.aa] 80 true)) (N+3):=aL (aL (aL ab.refl _) _) _
 simp[A.b69,aO,aD,ad,o1,o2,o3,o4]
 generalize jW:((h.set N (.cells [.int .i64 n1,u1,.int .i64 n2,u2] 80 true)).set (N+1) (.cells [.int .i64 n3,u3,.int .i64 n4,u4] 80 true)).set (N+2) (.cells [.int .i64 0,.aa,.int .i64 0,.aa] 80 true)=hB at*
 have b1:hB.get N=some (.cells [.int .i64 n1,u1,.int .i64 n2,u2] 80 true):=by rw[<-jW];simp
 have b2:hB.get (N+1)=some (.cells [.int .i64 n3,u3,.int .i64 n4,u4] 80 true):=by rw[<-jW];simp
 have b3:hB.get (N+2)=some (.cells [.int .i64 0,.aa,.int .i64 0,.aa] 80 true):=by rw[<-jW];simp
 refine aB (Yom (xG.ae kB) l3) ?_
 rintro v5 h1 m1 k1 q1
 have fk:=k1.le
 have f1:=(k1.get N (by omega)).trans b1
 have f2:=(k1.get (N+1) (by omega)).trans b2
 have f3:=(k1.get (N+2) (by omega)).trans b3
 have e1:N<m1:=by omega
 have e2:N+1<m1:=by omega
 simp[f1,f2,e1,e2,aO,aD,ad]
 refine aB (Vd ((mG.ae kB).ae k1) q1 l1 l2 (by rw[Rat.neg_num,Nz];exact l3) (by rw[Rat.neg_den];exact l4)) ?_
 rintro v7 h3 m3 k3 hv
 rw[<-Rat.sub_eq_add_neg]at hv
 obtain⟨n5,u5,n6,u6,rfl,t1,t2⟩:=hv
 have o5:=dN t1
 have o6:=dN t2
 unfold V.one at o5 o6
 have iN:=k3.le
 have f5:=(k3.get (N+2) (by omega)).trans f3
 have e3:N+2<m3:=by omega
 simp[f5,e3,aO,aD,ad,bD,o5,o6,ct.cv,aA]
 have kk:=(kB.trans k1).trans k3
 exact⟨kk.set (by omega),n5,u5,n6,u6,rfl,t1.aI (i:=N+2) f5 oT rfl,t2.aI (i:=N+2) f5 oT rfl⟩
def Qb.B7{q:Rat}{k:Nat}(h:Qb k q):wl q.num<=k/\wl (q.den:Nat)<=k:=⟨uK h.1,uK (z:=(q.den:Int)) (k:=k) (by rw[dC];exact h.2)⟩
def A.b219:=A.q Tryz.f219
def A.k219:=@A.kk 219 8 [.cell 2 (some 4)] A.b219 (by kernel_rfl) rfl
def A.b148:=A.q Tryz.f148
def A.k148:=@A.kk 148 9 [.cell 4 (some 4)] A.b148 (by kernel_rfl) rfl
def A.b145:=A.q Tryz.f145
def A.k145:=@A.kk 145 10 [.tmp 3] A.b145 (by kernel_rfl) rfl
def A.b147:=A.q Tryz.f147
def A.k147:=@A.kk 147 7 [.cell 3 (some 4)] A.b147 (by kernel_rfl) rfl
def A.b149:=A.q Tryz.f149
def A.k149:=@A.kk 149 11 [.cell 5 (some 4)] A.b149 (by kernel_rfl) rfl
def Yoo{x:V}{q:Rat}{h:T O}{N:Nat}(hx:Fc h N x q)(h0:q≠0)(l1:wl q.num<1000000000)(l2:wl (q.den:Nat)<1000000000):Fn A.C 219 [x] h N (fun v h' n'=>Fc h' n' v q⁻¹):=by
 intro w
 rw[aN,A.k219 (by simp)]
 obtain⟨n1,u1,n2,u2,rfl,s1,s2⟩:=hx
 have o1:=dN s1
 have o2:=dN s2
 unfold V.one at o1 o2
 have kB:ab h N ((h.set N (.cells [.int .i64 n1,u1,.int .i64 n2,u2] 80 true)).set (N+1) (.cells [.int .i64 0,.aa,.int .i64 0,.aa] 80 true)) (N+2):=aL (aL ab.refl _) _
 simp[A.b219,aO,aD,ad,o1,o2]
 generalize jW:(h.set N (.cells [.int .i64 n1,u1,.int .i64 n2,u2] 80 true)).set (N+1) (.cells [.int .i64 0,.aa,.int .i64 0,.aa] 80 true)=hB at*
 have b3:hB.get (N+1)=some (.cells [.int .i64 0,.aa,.int .i64 0,.aa] 80 true):=by rw[<-jW];simp
 have hn:q.num≠0:=fun hc=>h0 (zL.1 hc)
 refine aB (Zk (s2.ae kB) (s1.ae kB) hn (by omega) (by omega)) ?_
 rintro v7 h3 m3 k3 hv
 rw[<-Zlm]at hv
 obtain⟨n5,u5,n6,u6,rfl,t1,t2⟩:=hv
 have o5:=dN t1
 have o6:=dN t2
 unfold V.one at o5 o6
 have iN:=k3.le
 have f5:=(k3.get (N+1) (by omega)).trans b3
 have e3:N+1<m3:=by omega
 simp[f5,e3,aO,aD,ad,bD,o5,o6,aA]
 have kk:=kB.trans k3
 exact⟨kk.set (by omega),n5,u5,n6,u6,rfl,t1.aI (i:=N+1) f5 oT rfl,t2.aI (i:=N+1) f5 oT rfl⟩
def Yop{x y:V}{p q:Rat}{h:T O}{N:Nat}(hx:Fc h N x p)(hy:Fc h N y q)(h0:q≠0)(l1:wl p.num<1000000000)(l2:wl (p.den:Nat)<1000000000)(l3:wl q.num<1000000000)(l4:wl (q.den:Nat)<1000000000)(l5:wl q⁻¹.num<1000000000)(l6:wl (q⁻¹.den:Nat)<1000000000):Fn A.C 148 [x,y] h N (fun v h' n'=>Fc h' n' v (p/q)):=by
 intro w
 rw[aN,A.k148 (by simp)]
 have mG:=hx
 have xG:=hy
 obtain⟨n1,u1,n2,u2,rfl,s1,s2⟩:=hx
 obtain⟨n3,u3,n4,u4,rfl,s3,s4⟩:=hy
 have o1:=dN s1
 have o2:=dN s2
 have o3:=dN s3
 have o4:=dN s4
 unfold V.one at o1 o2 o3 o4
 have kB:ab h N (((h.set N (.cells [.int .i64 n1,u1,.int .i64 n2,u2] 80 true)).set (N+1) (.cells [.int .i64 n3,u3,.int .i64 n4,u4] 80 true)).set (N+2) (.cells [.int .i64 0,.aa,.int .i64 0,.aa] 80 true)) (N+3):=aL (aL (aL ab.refl _) _) _
 simp[A.b148,aO,aD,ad,o1,o2,o3,o4]
 generalize jW:((h.set N (.cells [.int .i64 n1,u1,.int .i64 n2,u2] 80 true)).set (N+1) (.cells [.int .i64 n3,u3,.int .i64 n4,u4] 80 true)).set (N+2) (.cells [.int .i64 0,.aa,.int .i64 0,.aa] 80 true)=hB at*
 have b1:hB.get N=some (.cells [.int .i64 n1,u1,.int .i64 n2,u2] 80 true):=by rw[<-jW];simp
 have b2:hB.get (N+1)=some (.cells [.int .i64 n3,u3,.int .i64 n4,u4] 80 true):=by rw[<-jW];simp
 have b3:hB.get (N+2)=some (.cells [.int .i64 0,.aa,.int .i64 0,.aa] 80 true):=by rw[<-jW];simp
 refine aB (Yoo (xG.ae kB) h0 l3 l4) ?_
 rintro v5 h1 m1 k1 q1
 have fk:=k1.le
 have f1:=(k1.get N (by omega)).trans b1
 have f2:=(k1.get (N+1) (by omega)).trans b2
 have f3:=(k1.get (N+2) (by omega)).trans b3
 have e1:N<m1:=by omega
 have e2:N+1<m1:=by omega
 simp[f1,f2,e1,e2,aO,aD,ad]
 refine aB (RJ ((mG.ae kB).ae k1) q1 l1 l2 l5 l6) ?_
 rintro v7 h3 m3 k3 hv
 rw[<-Rat.div_def]at hv
 obtain⟨n5,u5,n6,u6,rfl,t1,t2⟩:=hv
 have o5:=dN t1
 have o6:=dN t2
 unfold V.one at o5 o6
 have iN:=k3.le
 have f5:=(k3.get (N+2) (by omega)).trans f3
 have e3:N+2<m3:=by omega
 simp[f5,e3,aO,aD,ad,bD,o5,o6,ct.cv,aA]
 have kk:=(kB.trans k1).trans k3
 exact⟨kk.set (by omega),n5,u5,n6,u6,rfl,t1.aI (i:=N+2) f5 oT rfl,t2.aI (i:=N+2) f5 oT rfl⟩
variable {N k:Nat} {h:T O} {rw:Bool}
def Vx{q:Rat}(h:Qb k q)(h0:q≠0):Qb k q⁻¹:=by
 have e:=Zlm q
 have h1:q.num≠0:=fun hc=>h0 (zL.1 hc)
 refine⟨?_,?_⟩
 ·rw[Rat.num_inv,uO,dC]
  have:q.num.sign.natAbs=1:=by
   rcases Int.lt_trichotomy q.num 0 with h2|h2|h2
   ·rw[Int.sign_eq_neg_one_of_neg h2];rfl
   ·exact absurd h2 h1
   ·rw[Int.sign_eq_one_of_pos h2];rfl
  rw[this,Nat.one_mul]
  exact h.2
 ·rw[Rat.den_inv,ak h1]
  exact h.1
def Yr9{p:Nat}{u:V}{l:List Rat}{e:TypeId}(hp:h.get p=some (.cells [.int .i64 k] e rw))(iH:p<N)(hu:lV h N u l)(hk:k<l.length):jg A.C (.func 145 [] [.ptr p 0]) [u] h N (fun x _ _=>x=.bool (decide (l[k]?.getD 0≠0))):=by
 intro w
 have l1:=hu.len
 have gH:(k:Int)<(l.length:Int):=by omega
 obtain⟨q,hq⟩:=bh hk
 obtain⟨i,o,cc,e,rw,c,q1,q2,q3,q4,q5⟩:=hu.at hq
 rw[hq]
 rw[aN,A.k145 (by simp)]
 simp[A.b145,hp,l1,hk,gH,q1,q3,q4,PT q4]
 refine aB (VC q5.fc) ?_
 rintro _ H2 n2 k2 rfl
 have hz:(dX q.num≠0)=(q≠0):=by
  have h1:=@zL q
  apply propext
  unfold dX
  constructor
  ·intro hh hc
   have:=h1.2 hc
   rw[this]at hh
   simp at hh
  ·intro hh hc
   apply hh
   apply h1.1
   split at hc
   ·omega
   ·split at hc<;>omega
 simp[aE,aA]
 refine⟨k2,?_⟩
 by_cases c0:q=0
 ·simp[c0,zL.2 rfl,dX]
 ·have:dX q.num≠0:=by rw[hz];exact c0
  simp[c0,this]
def Yr8{p:Nat}{c d:List V}{x q:Rat}{e:TypeId}{j:Nat}(hp:h.get p=some (.cells d e rw))(iH:p<N)(hc:fj h N c x)(hd:fj h N d q)(h0:q≠0)(hx:Qb j x)(hq:Qb k q)(hj:j<=500000000)(hk:k<=500000000):jg A.C (.func 147 [] [.ptr p 0]) [.agg c] h N (fun z h' n'=>Fc h' n' z (x/q)):=by
 intro w
 obtain⟨c1,c2⟩:=hc.len
 obtain⟨d1,d2⟩:=hd.len
 have w1:=hx.B7
 have w2:=hq.B7
 have w3:=(Vx hq h0).B7
 have mI:∀c:List V,(V.agg c).cells=c:=fun _=>rfl
 have s0:aD c 0 4=some c:=by unfold aD;rw[c1];simp;exact eZ (by omega)
 have s1:aD d 0 4=some d:=by unfold aD;rw[d1];simp;exact eZ (by omega)
 have kB:ab h N ((h.set N (.cells c 80 true)).set (N+1) (.cells zF 80 true)) (N+1+1):=(ab.refl.new _).new _
 unfold zF at kB
 have n1:¬p=N:=by omega
 have n2:¬p=N+1:=by omega
 have n3:¬N=N+1:=by omega
 rw[aN,A.k147 (by simp)]
 simp[-V.cells, -V.one,A.b147,hp,n1,n2,mI,c1,c2,d1,d2,s0,s1,n3]
 generalize hG:(h.set N (.cells c 80 true)).set (N+1) (.cells [.int .i64 0,.aa,.int .i64 0,.aa] 80 true)=G at*
 have g1:G.get (N+1)=some (.cells [.int .i64 0,.aa,.int .i64 0,.aa] 80 true):=by rw[<-hG];simp
 clear hG
 refine aB (Yop (hc.ae kB).fc (hd.ae kB).fc h0 (by omega) (by omega) (by omega) (by omega) (by omega) (by omega)) ?_
 rintro _ H2 m2 k2 hz
 obtain⟨z,rfl,yN⟩:=hz.c
 obtain⟨z1,z2⟩:=yN.len
 have kK:=k2.le
 have g2:=(k2.get (N+1) (by omega)).trans g1
 have e4:ad [V.int .i64 0,.aa,.int .i64 0,.aa] 0 z=z:=by unfold ad;rw[z1];simp[z1]
 have s2:aD z 0 4=some z:=by unfold aD;rw[z1];simp;exact eZ (by omega)
 have lt:N+1<m2:=by omega
 simp[-V.cells, -V.one,bD,mI,z1,z2,e4,s2,g2,aA]
 exact⟨(kB.trans k2).set (by omega),(yN.aI (e1:=80) (w1:=true) (c1:=z) g2 oT (by rw[z1];rfl)).fc⟩
def Yr7{p:Nat}{a b d:List V}{x y f:Rat}{e:TypeId}{i j:Nat}(hp:h.get p=some (.cells d e rw))(iH:p<N)(ha:fj h N a x)(hb:fj h N b y)(hd:fj h N d f)(hx:Qb i x)(hy:Qb j y)(hf:Qb k f)(hi:i<=450000000)(hj:j<=450000000)(hk:k<=450000000)(yr:1<=j)(bL:1<=k):jg A.C (.func 149 [] [.ptr p 0]) [.agg a,.agg b] h N (fun z h' n'=>Fc h' n' z (x-f*y)):=by
 intro w
 obtain⟨a1,a2⟩:=ha.len
 obtain⟨b1,b2⟩:=hb.len
 obtain⟨d1,d2⟩:=hd.len
 have w1:=hx.B7
 have w2:=hy.B7
 have w3:=hf.B7
 have w4:=(hf.mul hy).B7
 have mI:∀c:List V,(V.agg c).cells=c:=fun _=>rfl
 have s0:∀c:List V,c.length=4->aD c 0 4=some c:=fun c h=>by unfold aD;rw[h];simp;exact eZ (by omega)
 have sa:=s0 a a1
 have sb:=s0 b b1
 have sd:=s0 d d1
 have kB:ab h N (((h.set N (.cells a 80 true)).set (N+1) (.cells b 80 true)).set (N+1+1) (.cells zF 80 true)) (N+1+1+1):=((ab.refl.new _).new _).new _
 unfold zF at kB
 have n1:¬p=N:=by omega
 have n2:¬p=N+1:=by omega
 have n3:¬p=N+1+1:=by omega
 have n4:¬N=N+1:=by omega
 have n5:¬N=N+1+1:=by omega
 have lp:p<N+1+1+1:=by omega
 rw[aN,A.k149 (by simp)]
 simp[-V.cells, -V.one,A.b149,hp,n1,n2,n3,mI,a1,a2,b1,b2,d1,d2,sa,sb,sd,n4,n5,lp]
 generalize hG:((h.set N (.cells a 80 true)).set (N+1) (.cells b 80 true)).set (N+1+1) (.cells [.int .i64 0,.aa,.int .i64 0,.aa] 80 true)=G at*
 have g1:G.get (N+1+1)=some (.cells [.int .i64 0,.aa,.int .i64 0,.aa] 80 true):=by rw[<-hG];simp
 have g2:G.get N=some (.cells a 80 true):=by rw[<-hG];simp[n4,n5]
 have g3:G.get (N+1)=some (.cells b 80 true):=by rw[<-hG];simp
 clear hG
 refine aB (RJ (hd.ae kB).fc (hb.ae kB).fc (by omega) (by omega) (by omega) (by omega)) ?_
 rintro _ H2 m2 k2 hz
 have kK:=k2.le
 have lt:N+1+1<m2:=by omega
 simp[]
 refine aB (Yol ((ha.ae kB).ae k2).fc hz (by omega) (by omega) (by omega) (by omega)) ?_
 rintro _ H3 m3 k3 hv
 obtain⟨z,rfl,yN⟩:=hv.c
 obtain⟨z1,z2⟩:=yN.len
 have yM:=k3.le
 have g4:=(k3.get (N+1+1) (by omega)).trans ((k2.get (N+1+1) (by omega)).trans g1)
 have e4:ad [V.int .i64 0,.aa,.int .i64 0,.aa] 0 z=z:=by unfold ad;rw[z1];simp[z1]
 have s2:=s0 z z1
 have lt3:N+1+1<m3:=by omega
 simp[-V.cells, -V.one,bD,mI,z1,z2,e4,s2,g4,lp,lt,lt3,aA,ct.cv]
 exact⟨((kB.trans k2).trans k3).set (by omega),(yN.aI (e1:=80) (w1:=true) (c1:=z) g4 oT (by rw[z1];rfl)).fc⟩
variable {N R:Nat} {f u v:V} {h:T O} {l:List Rat}
def A.Pe:=A.q Tryz.f144
def A.sK:=A.ql A.Pe 0 []
def A.b144:=(fun x0=>A.qb A.Pe [x0]) A.sK
def A.k144:=@A.kk 144 19 [.tmp 4] A.b144 (by kernel_rfl) rfl
def Yoh(l:List V)(p:Nat->Bool)(hs:Sl h N v l)(hl:l.length<1152921504606846976)(hf:∀(j:Nat) (x:V),l[j]?=some x->∀h' n',ab h N h' n'->jg A.C f [x] h' n' (fun u _ _=>u=.bool (p j))):Fn A.C 144 [v,f] h N (fun u _ _=>u=.int .i64 (og p 0 l.length)):=by
 intro w
 have hlen:=hs.len
 rw[aN,A.k144 (by simp)]
 simp[A.b144,hlen]
 refine bG [(4,5),(8,18)] (fun e r st=>av N st.w=[]/\ab h N st.h st.n/\((e=.exit 0/\og p 0 l.length= -1)\/(e=.ret/\r.get 4=some (.int .i64 (og p 0 l.length))))) (fun m r st=>av N st.w=[]/\ab h N st.h st.n/\∃k,k+m=l.length/\r.get 8=some (.int .i64 k)/\og p 0 l.length=og p k m) l.length ?_ ?_ ?_
 ·exact⟨by simp,ab.refl,0,by omega,by simp,rfl⟩
 ·rintro m r ⟨H,n1,W⟩ hr cU ⟨hW,hK,k,hk,h8,hz⟩
  simp only at hW hK
  rw[bk]
  cases m with
  |zero=>
   have:k=l.length:=by omega
   subst this
   simp only[og]at hz
   simp[A.sK,hr,cU,h8,hW,hK,hz]
  |succ m=>
   have ax:k<l.length:=by omega
   obtain⟨c,hc⟩:=bh ax
   obtain⟨i,o,cc,e,rw,q1,q2,q3,q4⟩:=hs.at hc
   have q3:=(hK.get _ q2).trans q3
   have bL:(k:Int)<(l.length:Int):=by omega
   simp only[og]at hz
   simp[A.sK,hr,cU,h8,bL,ax,hlen,q1,q3,q4,hW]
   refine zz (hf k c hc _ _ hK) ?_
   rintro v h2 n2 k2 rfl
   have kk:=hK.trans k2
   cases hp:p k
   ·rw[hp]at hz
    simp(disch:=first|(simp;done)|omega|rfl) [hr,cU,h8,hW,kk]
    exact⟨m,by omega,k+1,by omega,by simp,by simpa using hz⟩
   ·rw[hp]at hz
    simp[hr,cU,h8,hW,kk]
    simpa using hz.symm
 ·rintro e r ⟨H,n1,W⟩ hr ⟨hW,hK,⟨rfl,hz⟩|⟨rfl,h4⟩⟩
  ·simp only at hW hK
   simp[hr,hz,aA,hW,hK]
  ·simp only at hW hK
   simp[hr,h4,aA,hW,hK]
def A.Pf:=A.q Tryz.f146
def A.sL:=A.ql A.Pf 0 []
def A.b146:=(fun x0=>A.qb A.Pf [x0]) A.sL
def A.k146:=@A.kk 146 22 [.tmp 4] A.b146 (by kernel_rfl) rfl
def Yif{l:List (List V)}{Q:Nat->T O->Nat->List V->Prop}(Y:V->Prop)(hQ:∀j h n h' n' c u,Q j h n c->dG (fun i=>i∈bZ u) h n h' n'->kl 80 Y h u->Q j h' n' c)(hs:Sn 4 h N v l)(hl:l.length<1000000000)(h1:∀(j:Nat) (x:List V),l[j]?=some x->x.length=4/\x.all V.one=true)(hf:∀(j:Nat) (x:List V),l[j]?=some x->∀h' n',ab h N h' n'->jg A.C f [(.agg x)] h' n' (fun u h2 n2=>∃c,u=(.agg c)/\c.length=4/\c.all V.one=true/\(∀q∈c,Y q)/\Q j h2 n2 c)):Fn A.C 146 [v,f] h N (fun u h' n'=>∃out,Own 4 80 N h' n' u out/\out.length=l.length/\∀(j:Nat),j<l.length->∃c,out[j]?=some c/\Q j h' n' c):=by
 intro w
 have hlen:=hs.len
 rw[aN,A.k146 (by simp)]
 simp[A.b146,hlen]
 refine bG [(5,5),(7,7),(10,20)] (fun e r st=>e=.exit 0/\av N st.w=[]/\ab h N st.h st.n/\∃u out,r.get 5=some u/\Own 4 80 N st.h st.n u out/\out.length=l.length/\∀(j:Nat),j<l.length->∃c,out[j]?=some c/\Q j st.h st.n c) (fun m r st=>av N st.w=[]/\ab h N st.h st.n/\∃k u out,k+m=l.length/\r.get 10=some (.int .i64 k)/\r.get 5=some u/\Own 4 80 N st.h st.n u out/\out.length=k/\(out=[]->u=.aa)/\(∀c∈out,∀y∈c,Y y)/\∀(j:Nat),j<k->∃c,out[j]?=some c/\Q j st.h st.n c) l.length ?_ ?_ ?_
 ·exact⟨by simp,ab.refl,0,.aa,[],by omega,by simp,by simp,Own.nil,rfl,fun _=>rfl,by simp,fun j hj=>by omega⟩
 ·rintro m r ⟨H,n1,W⟩ hr cU ⟨hW,hK,k,u,out,hk,fx,h5,ho,fy,qS,hY,cJ⟩
  simp only at hW hK ho cJ
  rw[bk]
  cases m with
  |zero=>
   have qT:k=l.length:=by omega
   subst qT
   simp[A.sL,hr,cU,fx,hW,hK]
   exact⟨u,h5,out,ho,fy,cJ⟩
  |succ m=>
   have ax:k<l.length:=by omega
   obtain⟨x,hx⟩:=bh ax
   obtain⟨i,o,cc,e,rw,q1,q2,q3,q4⟩:=(hs.ae hK).at hx
   have bL:(k:Int)<(l.length:Int):=by omega
   obtain⟨e1,e2⟩:=h1 k x hx
   have d1:¬i=n1:=by omega
   have d4:n1<n1+1:=by omega
   have kA:=(hK.new (.cells [(.int .i64 0),.aa,(.int .i64 0),.aa] 80 true)).set (i:=n1) (o:=.cells x 80 true) hK.le
   have e3:∀v:List V,(V.agg v).cells=v:=fun _=>rfl
   have e4:ad [(.int .i64 0),.aa,(.int .i64 0),.aa] 0 x=x:=by unfold ad;rw[e1];simp[e1]
   have e5:aD x 0 4=some x:=by unfold aD;rw[ay (by omega)];simp;exact eZ (by omega)
   simp[-V.cells, -V.one,A.sL,hr,cU,fx,h5,bL,ax,hlen,q1,q3,q4,aO,d1,bD,e3,e1,e2,e4,e5]
   refine zz (hf k x hx _ _ kA) ?_
   rintro _ h3 n3 k3 ⟨c,rfl,c1,c2,cY,c3⟩
   have iN:=k3.le
   have kn:=hK.le
   have kB:=kA.trans k3
   have b1:∀v:List V,(V.agg v).cells=v:=fun _=>rfl
   have b2:ad [(.int .i64 0),.aa,(.int .i64 0),.aa] 0 c=c:=by unfold ad;rw[c1];simp[c1]
   simp[-V.cells, -V.one,hr,cU,fx,h5,b1,b2,c1,c2]
   have sZ:Own 4 80 N (h3.set n3 (.cells c 80 true)) (n3+1) u out:=(ho.ae (((ab.refl.new _).set (aQ n1)).trans k3)).ae (ab.refl.new _)
   obtain⟨v',h',w',f1,f2,f3,f4,fD,f5⟩:=Cf (Y:=Y) (x:=c) (u:=.slice n3 0 1 (some 1) 4) (bytes:=64) (w:=n1::W) sZ qS hY (by omega) (by decide) c1 (by simp only[eA,St.row,T.ag,if_true];unfold aD;simp[c1];exact eZ (by omega)) (by omega)
   rw[f1]
   have fH:¬n1<N:=by omega
   have f6:av N w'=[]:=by rw[f2];simp[av,hW,fH]
   have kz:=(kB.new (.cells c 80 true)).then f3
   have k4:ab h3 n3 (h3.set n3 (.cells c 80 true)) (n3+1):=ab.refl.new _
   have xc:Q k (h3.set n3 (.cells c 80 true)) (n3+1) c:=hQ _ _ _ _ _ _ .aa c3 k4.upd kl.nil
   simp(disch:=first|(simp;done)|omega|rfl) [hr,cU,fx,f6]
   refine⟨m,by omega,kz,k+1,by omega,by simp,out++[c],f5,by simp[fy],by simp,fun c' hc z hz=>?_,fun j hj=>?_⟩
   ·rcases kh.1 hc with hc|hc
    ·exact hY c' hc z hz
    ·simp only[uz]at hc;subst hc;exact cY z hz
   by_cases p_:j<k
   ·obtain⟨c,g1,g2⟩:=cJ j p_
    exact⟨c,by rw[kJ (by omega)];exact g1,hQ _ _ _ _ _ _ _ (hQ _ _ _ _ _ _ .aa g2 ((((ab.refl.new _).set (aQ n1)).trans k3).trans k4).upd kl.nil) f4 fD⟩
   ·obtain rfl:j=k:=by omega
    exact⟨c,by rw[nU (by omega),fy];simp,hQ _ _ _ _ _ _ _ xc f4 fD⟩
 ·rintro _ r ⟨H,n1,W⟩ hr ⟨rfl,hW,hK,u,out,h5,ho,fy,cJ⟩
  simp only at hW hK ho cJ
  simp[hr,h5,aA,hW,hK]
  exact⟨out,ho,fy,cJ⟩
def Ynz(F:Rat->Rat)(hs:lV h N v l)(hl:l.length<1000000000)(hf:∀q∈l,∀c h' n',ab h N h' n'->fj h' n' c q->jg A.C f [.agg c] h' n' (fun x h2 n2=>Fc h2 n2 x (F q))):Fn A.C 146 [v,f] h N (fun u h' n'=>ec h' n' u (l.map F)):=by
 obtain⟨cs,h1,h2,h3⟩:=hs
 have key:=Yif (f:=f) (Q:=fun j h n c=>∀q,(l.map F)[j]?=some q->fj h n c q) NW (fun j h n h' n' c u hq k hd q kO=>(hq q kO).bz k hd) h1 (by omega) (fun j x hx=>?_) ?_
 ·intro w
  refine(key w).mono fun u st=>?_
  rintro⟨q1,q2,out,o1,o2,o3⟩
  exact⟨q1,q2,QU o1 (by simpa[h2]using o2) fun j hj=>o3 j (by simp at hj;omega)⟩
 ·obtain⟨q,hq⟩:=bh (l:=l) (k:=j) (by have:=f_ hx;omega)
  obtain⟨c,g1,g2⟩:=h3 j q hq
  rw[hx]at g1
  obtain rfl:x=c:=by simpa using g1
  exact g2.len
 ·intro j x hx h' n' hk
  obtain⟨q,hq⟩:=bh (l:=l) (k:=j) (by have:=f_ hx;omega)
  obtain⟨c,g1,g2⟩:=h3 j q hq
  rw[hx]at g1
  obtain rfl:x=c:=by simpa using g1
  refine fun w=>(hf q (bU hq) x h' n' hk (g2.ae hk) w).mono fun y st=>?_
  rintro⟨q1,q2,q3⟩
  obtain⟨c,rfl,hc⟩:=q3.c
  refine⟨q1,q2,c,rfl,hc.len.1,hc.len.2,hc.Hn,fun t ht=>?_⟩
  simp[hq]at ht
  rw[<-ht]
  exact hc
structure mj (h:T O) (N R:Nat) (m:List (List Rat)):Prop where
 lt:R<N
 ex:∃us:List V,h.get R=some (.cells us 73 true)/\us.length=m.length/\uJ us/\us.all V.one=true/\∀(j:Nat) (l:List Rat),m[j]?=some l->∃u,us[j]?=some u/\ec h N u l
def ec.bj{us vs:List V}{e:TypeId}{b c:Bool}(s:ec h N u l)(g:h.get R=some (.cells us e b))(he:e≠80)(hn:uJ us)(hl:vs.length=us.length):ec (h.set R (.cells vs e c)) N u l:=by
 have aW:∀i∈bZ u,i≠R:=fun i hi hc=>by
  obtain⟨z,w,hz⟩:=s.2 i hi
  rw[hc,g]at hz
  simp at hz
  exact he hz.2.1
 obtain⟨cs,h1,h2,h3⟩:=s.1
 have k:dG (fun i=>i=R) h N (h.set R (.cells vs e c)) N:=⟨aQ _,fun i _ hi=>by rw[T.ag,ak hi]⟩
 refine⟨⟨cs,h1.bz k aW,h2,fun j q hq=>?_⟩,fun i hi=>?_⟩
 ·obtain⟨x,g1,g2⟩:=h3 j q hq
  exact⟨x,g1,g2.aI g hn hl⟩
 ·rw[T.ag,ak (aW i hi)]
  exact s.2 i hi
def mj.ae{h':T O}{N':Nat}{m:List (List Rat)}(s:mj h N R m)(k:ab h N h' N'):mj h' N' R m:=by
 obtain⟨us,g1,g2,g3,g4,g5⟩:=s.ex
 refine⟨eY s.lt k.le,us,(k.get R s.lt).trans g1,g2,g3,g4,fun j l hl=>?_⟩
 obtain⟨u,a1,a2⟩:=g5 j l hl
 exact⟨u,a1,a2.ae k⟩
def ec.DR(s:ec h N u l):(∀n,u≠.int .u64 n)/\V.one u=true/\V.cells u=[u]:=by
 obtain⟨a,b,c⟩:=s.1.form
 exact⟨c,a,b⟩
def mj.put{i:Nat}{m:List (List Rat)}(s:mj h N R m)(hu:ec h N u l)(hi:i<m.length):∃us,h.get R=some (.cells us 73 true)/\us.length=m.length/\mj (h.set R (.cells (us.set i u) 73 true)) N R (m.set i l):=by
 obtain⟨us,g1,g2,g3,g4,g5⟩:=s.ex
 refine⟨us,g1,g2,s.lt,us.set i u,by rw[T.ag,ay rfl],by simp[g2],fun x hx=>?_,?_,fun j r hr=>?_⟩
 ·rcases A7 hx with hx|rfl
  ·exact g3 x hx
  ·exact hu.DR.1
 ·rw[l7]
  intro x hx
  rcases A7 hx with hx|rfl
  ·exact l7.1 g4 x hx
  ·exact hu.DR.2.1
 ·by_cases e:j=i
  ·subst e
   rw[gK hi]at hr
   simp only[aq]at hr
   subst hr
   exact⟨u,by rw[gK (by omega)],hu.bj g1 (by decide) g3 (by simp)⟩
  ·rw[dW (Ne.symm e)]at hr ⊢
   obtain⟨u',a1,a2⟩:=g5 j r hr
   exact⟨u',a1,a2.bj g1 (by decide) g3 (by simp)⟩
variable {N:Nat} {h:T O} {l:List aM} {m:List (List aM)} {u v:V}
def A.b57:=A.q Tryz.f57
def A.k57:=@A.kk 57 6 [.tmp 2] A.b57 (by kernel_rfl) rfl
def A.b112:=A.q Tryz.f112
def A.k112:=@A.kk 112 12 [.tmp 4] A.b112 (by kernel_rfl) rfl
def A.b110:=A.q Tryz.f110
def A.k110:=@A.kk 110 4 [.tmp 1] A.b110 (by kernel_rfl) rfl
def A.b111:=A.q Tryz.f111
def A.k111:=@A.kk 111 7 [.tmp 2] A.b111 (by kernel_rfl) rfl
def A.b37:=A.q Tryz.f37
def A.k37:=@A.kk 37 9 [.tmp 4] A.b37 (by kernel_rfl) rfl
def Yho{l:List (List aM)}(hs:iJ h N v l)(hl:l.length<100000)(hx:∀x∈l,x.length<100000/\∀s∈x,s.length<=100000):Fn A.C 57 [v] h N (fun u _ _=>u=.int .i64 (mb l 64 16)):=by
 intro w
 rw[aN,A.k57 (by simp)]
 simp[A.b57,ad]
 refine aB (Yhn (a:=64) (b:=16) hs hl hx) ?_
 rintro _ H2 n2 k2 rfl
 simp[aA]
 exact k2
def Zx5(h:mb m 64 16=0)(hs:pR 6 6 m=true):IX m (dR m):=by
 obtain⟨s1,s2⟩:=Zpk hs
 unfold mb at h
 split at h
 ·exact absurd h (by decide)
 split at h
 ·exact absurd h (by decide)
 rename_i h1 h2
 have hp:0<m.length:=by omega
 obtain⟨r0,ef,e0⟩:=Yrw hp
 refine⟨hp,Zn5 s1 (by omega),by omega,?_,fun r hr=>Yjx (A8 h _ (fv.2 ⟨r,hr,rfl⟩)) (s2 r hr)⟩
 rw[e0]
 exact Zn5 (Zsh (s2 r0 ef)) (by omega)
def Yq6{n:Nat}(ht:Sl h N v (strs l))(sP:l.length<100000)(Kw:∀s∈l,s.length<=100000):Fn A.C 112 [v,.int .i64 n] h N (fun z _ _=>z=.int .i64 (nY l n 1)):=by
 intro w
 have ll:=ht.len
 rw[wP]at ll
 have sg:∀w,A.C.call (.func 39 [] []) [.int .i64 1] ⟨h,N,w⟩=some (.func 113 [] [.ptr N 0],⟨h.set N (.cells [.int .i64 1] 3 true),N+1,w⟩):=fun w=>by
  apply Call.eq
  rw[aN,A.k39 (by simp)]
  simp[A.b39]
 have e1:((l.length:Int)=(n:Int))=(l.length=n):=by apply propext;omega
 rw[aN,A.k112 (by simp)]
 by_cases c:l.length=n
 ·subst c
  simp[A.b112,ll,aE,sg]
  have k1:ab h N (h.set N (.cells [.int .i64 1] 3 true)) (N+1):=ab.refl.new _
  refine aB (Yeo (kL 1) (ht.ae k1) sP fun s hs h' n' hk=>Zpj (z:=1) (e:=3) (rw:=true) (by rw[hk.get N (by omega)];simp) (by have:=hk.le;omega) (Kw s hs)) ?_
  rintro _ H2 n2 k2 rfl
  simp[aA,nY]
  exact k1.trans k2
 ·simp[A.b112,ll,aE,e1,c,aA,nY]
  exact ab.refl
def Ypf{q:Nat}{l:List aM}{eq:TypeId}{wq:Bool}(FT:h.get q=some (.cells [u] eq wq))(PE:q<N)(hs:iJ h N u m)(kg:m.length<100000)(df:∀x∈m,x.length<100000/\∀s∈x,s.length<=100000):jg A.C (.func 110 [] [.ptr q 0]) [] h N (fun z _ _=>z=.int .i64 (mb m 64 16)):=by
 intro w
 rw[aN,A.k110 (by simp)]
 simp[A.b110,FT]
 refine aB (Yho hs kg df) ?_
 rintro _ H2 n2 k2 rfl
 simp[aA]
 exact k2
def Ype{p q:Nat}{ep eq:TypeId}{wp wq:Bool}(nX:h.get p=some (.cells [v] ep wp))(hlp:p<N)(FT:h.get q=some (.cells [u] eq wq))(PE:q<N)(hs:iJ h N u m)(kg:m.length<100000)(df:∀x∈m,x.length<100000/\∀s∈x,s.length<=100000)(ht:Sl h N v (strs l))(sP:l.length<100000)(Kw:∀s∈l,s.length<=100000):jg A.C (.func 111 [] [.ptr p 0,.ptr q 0]) [] h N (fun z _ _=>z=.int .i64 (nY l m.length 1)):=by
 intro w
 have ml:=hs.len
 rw[aN,A.k111 (by simp)]
 simp[A.b111,FT,nX,ml]
 refine aB (Yq6 ht sP Kw) ?_
 rintro _ H2 n2 k2 rfl
 simp[aA]
 exact k2
def iJ.one(hm:iJ h N u m):V.one u=true/\V.cells u=[u]:=by
 obtain⟨us,⟨_,rfl|rfl⟩|⟨i,o,cp,c,e,rw,rfl,_⟩,_⟩:=hm<;>exact⟨rfl,rfl⟩
def B6(m:List (List aM))(l:List aM):Int:=cH [mb m 64 16,nY l m.length 1]
def Ysh(hm:iJ h N u m)(hl:Sl h N v (strs l))(m1:m.length<100000)(m2:∀x∈m,x.length<100000/\∀s∈x,s.length<=100000)(l1:l.length<100000)(l2:∀s∈l,s.length<=100000):Fn A.C 37 [u,v] h N (fun z _ _=>z=.int .i64 (B6 m l)):=by
 intro w
 have o2:=hl.form.one
 have o3:=hl.form.cells
 obtain⟨o4,o5⟩:=hm.one
 rw[aN,A.k37 (by simp)]
 unfold V.one at o2 o4
 unfold V.cells at o3 o5
 simp[A.b37,o2,o3,o4,o5,ad]
 generalize hH:((h.set N (.cells [u] 22 true)).set (N+1) (.cells [v] 23 true)).set (N+1+1) (.cells [.func 110 [] [.ptr N 0],.func 111 [] [.ptr (N+1) 0,.ptr N 0]] 67 true)=H
 have kB:ab h N H (N+1+1+1):=by rw[<-hH];exact((ab.refl.new _).new _).new _
 have g0:H.get N=some (.cells [u] 22 true):=by rw[<-hH];simp
 have g1:H.get (N+1)=some (.cells [v] 23 true):=by rw[<-hH];simp
 have g2:H.get (N+1+1)=some (.cells [.func 110 [] [.ptr N 0],.func 111 [] [.ptr (N+1) 0,.ptr N 0]] 67 true):=by rw[<-hH];simp
 clear hH
 have hs:Sl H (N+1+1+1) (.slice (N+1+1) 0 2 (some 2) 1) [.func 110 [] [.ptr N 0],.func 111 [] [.ptr (N+1) 0,.ptr N 0]]:=Sl.row (by omega) g2 rfl (fun k hk=>by simp at hk;omega)
 have key:=Zyf (l:=[mb m 64 16,nY l m.length 1]) hs rfl (by simp) (Yct (P:=fun f e _=>∀h' n',ab H (N+1+1+1) h' n'->jg A.C f [] h' n' (fun u _ _=>u=.int .i64 e)) (fun h' n' hk=>Ypf (l:=l) ((hk.get N (by omega)).trans g0) (by have:=hk.le;omega) ((hm.ae kB).ae hk) m1 m2) (fun hz h' n' hk=>Ype ((hk.get (N+1) (by omega)).trans g1) (by have:=hk.le;omega) ((hk.get N (by omega)).trans g0) (by have:=hk.le;omega) ((hm.ae kB).ae hk) m1 m2 ((hl.ae kB).ae hk) l1 l2))
 change Fn A.C 35 _ H _ (fun u _ _=>u=.int .i64 (B6 m l))at key
 refine aB key ?_
 rintro _ H2 n2 k2 rfl
 simp[aA]
 exact kB.trans k2
set_option maxHeartbeats 4000000
def Ykp{m:List (List aM)}{w:List aM}(h:B6 m w=0)(sm:pR 6 6 m=true)(sw:fW 6 w=true):IX m (dR m)/\w.length=m.length/\wV w:=by
 have h1:=A8 h (mb m 64 16) (by simp)
 have h2:=A8 h (nY w m.length 1) (by simp)
 refine⟨Zx5 h1 sm,?_⟩
 unfold nY at h2
 split at h2
 ·rename_i e
  exact⟨e,Ypm h2 sw⟩
 ·exact absurd h2 (by decide)
set_option maxHeartbeats 2000000
def Ykh{h:T O}{N:Nat}{w:List Nat}{i o:Nat}{cp:Option Nat}{c l:List V}{e:TypeId}{rw:Bool}(h3:h.get i=some (.cells c e rw))(h4:∀j,j<l.length->c[o+j]?=l[j]?)(h5:o+l.length<=c.length):eA ⟨h,N,w⟩ 1 (.slice i o l.length cp 1)=some (l.length,l):=by
 have:aD c o (l.length*1)=some l:=by
  unfold aD
  rw[ay (by omega),yZ]
  congr 1
  apply oe
  intro j
  by_cases hj:j<l.length
  ·rw[iM,ay hj,fg];exact h4 j hj
  ·rw[fl (by simp;omega),fl (by omega)]
 simp only[eA,if_true,St.row,h3,this]
end
end Go.Mx
