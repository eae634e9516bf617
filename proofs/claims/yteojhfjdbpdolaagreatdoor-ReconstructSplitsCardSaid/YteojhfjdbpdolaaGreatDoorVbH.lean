/-reconstruct-/
import Derived.Test.YteojhfjdbpdolaaGreatDoorVbD
set_option linter.all false
namespace Go.Mx
noncomputable section
open Go Go.Proofs
variable {l:List aQ} {m:List (List aQ)} {n:Nat}
set_option maxHeartbeats 2000000
set_option maxRecDepth 1000000
def px(l:List aQ):List Rat:=l.map wO
def lh(m:List (List aQ)):List (List Rat):=m.map px
def KV:∀{l:List Int},cF l=0->∀x∈l,x=0
 |[],_,x,hx=>by simp at hx
 |y::l,h,x,hx=>by
  simp only[cF]at h
  split at h
  ·rename_i h0
   rcases kW.1 hx with rfl|hx
   ·exact h0
   ·exact KV h x hx
  ·rename_i h0;exact absurd h h0
def yk(l:List aQ):Prop:=∀s∈l,cf s=0/\s.length<=24
def yk.B1(h:yk l):(px l).map aS=l:=by
 unfold px
 rw[List.map_map]
 conv=>rhs;rw[<-List.map_id l]
 apply zA
 intro s hs
 exact(UW (h s hs).1).1
def yk.qb(h:yk l):∀q∈px l,Qb 100 q:=fun q hq=>by
 obtain⟨s,hs,rfl⟩:=dt.1 hq
 exact Yua (h s hs).1 (h s hs).2
def yk.sl{h:T O}{N:Nat}{v:V}(hs:Sl h N v (strs l))(hl:yk l):Tx h N v (px l):=by
 unfold Tx tx
 rw[hl.B1]
 exact hs
def iV.rat{h:T O}{N:Nat}{v:V}(hs:iV h N v m)(hm:∀r∈m,yk r):iw h N v (lh m):=by
 apply iV.yB
 have:((lh m).map fun l=>l.map aS)=m:=by
  unfold lh
  rw[List.map_map]
  conv=>rhs;rw[<-List.map_id m]
  apply zA
  intro r hr
  exact(hm r hr).B1
 rw[this]
 exact hs
def Zy9(h:kK l n=0)(hs:gF 6 l=true):l.length=n/\yk l:=by
 unfold kK at h
 split at h
 ·rename_i hn
  refine⟨hn,fun s jq=>?_⟩
  have h1:=KV h _ (dt.2 ⟨s,jq,rfl⟩)
  have h2:l.all pJ=true:=by
   unfold gF at hs
   rw[iE]at hs
   exact hs.2
  have h3:=lB.1 h2 s jq
  simp[pJ]at h3
  exact⟨by omega,h3⟩
 ·exact absurd h (by decide)
def VZ(h:gF n l=true):mb l.length n=true:=by
 unfold gF at h
 rw[iE]at h
 exact h.1
structure IC (m:List (List aQ)) (n:Nat):Prop where
 pos:0<m.length
 le:m.length<=6
 n1:0<n
 n6:n<=6
 row:∀r∈m,r.length=n/\yk r
def IC.rat(h:IC m n):∀r∈lh m,r.length=n/\∀q∈r,Qb 100 q:=fun r hr=>by
 obtain⟨s,hs,rfl⟩:=dt.1 hr
 exact⟨by simp[px,(h.row s hs).1],(h.row s hs).2.qb⟩
def Zqf(h:pT 6 6 m=true):mb m.length 6=true/\∀r∈m,gF 6 r=true:=by
 unfold pT at h
 rw[iE,lB]at h
 exact h
def Ytl(h:0<m.length):∃r∈m,dS m=r.length:=by
 obtain⟨r,hr⟩:=bk h
 exact⟨r,cG hr,by simp[dS,hr]⟩
def Zou{k:Nat}(h:mb k 6=true)(h2:k<=64):k<=6:=by
 simp[mb]at h
 omega
def SF(h:gF 6 l=true):l.length<100000/\∀s∈l,s.length<=100000:=by
 refine⟨by have:=VS (VZ h) (by omega);omega,fun s hs=>?_⟩
 unfold gF at h
 rw[iE]at h
 have h3:=lB.1 h.2 s hs
 simp[pJ]at h3
 omega
def Zl0(h:pT 6 6 m=true):m.length<100000/\∀r∈m,r.length<100000/\∀s∈r,s.length<=100000:=by
 obtain⟨s1,s2⟩:=Zqf h
 exact⟨by have:=VS s1 (by omega);omega,fun r hr=>SF (s2 r hr)⟩
def KX{a b:List Rat}{j k:Nat}(ha:∀q∈a,Qb j q)(hb:∀q∈b,Qb k q)(hj:1<=j)(hk:1<=k)(hn:a.length<=n):Qb (n*(j+k+1)+1) (de a b):=(R5 ha hb hj hk a.length).mono (by have:=jB (j+k+1) hn;omega)
def Yox{a b:V}{x y:Int}{P:V->Int->Nat->Prop}(h0:P a x 0)(h1:x=0->P b y 1):∀(j:Nat) (f:V) (e:Int),[a,b][j]?=some f->[x,y][j]?=some e->(∀(i:Nat) (z:Int),i<j->[x,y][i]?=some z->z=0)->P f e j
 |0,f,e,hf,he,_=>by simp at hf he;subst hf he;exact h0
 |1,f,e,hf,he,hz=>by simp at hf he;subst hf he;exact h1 (hz 0 x (by omega) rfl)
 |j+2,f,e,hf,_,_=>by simp at hf
set_option maxHeartbeats 2000000
set_option maxHeartbeats 2000000
def TP(e:Int)(l:List Rat)(v:V)(c:Int)(h:T O)(n:Nat):Prop:=(e≠0/\v=.aa/\c=e)\/(e=0/\((fv l=true/\v=.aa/\c=4)\/(fv l=false/\c=0/\Tx h n v l)))
variable {N:Nat} {h:T O}
def A.b128:=A.q Tryz.f128
def A.k128:=@A.kk 128 9 [.cell 2 (some 4)] A.b128 (by kernel_rfl) rfl
def A.b51:=A.q Tryz.f51
def A.k51:=@A.kk 51 9 [.cell 4 (some 4)] A.b51 (by kernel_rfl) rfl
def Yqd{x:V}{q:Rat}(hx:Fc h N x q)(l1:wl q.num<1000000000):Fn A.C 128 [x] h N (fun v h' n'=>Fc h' n' v (-q)):=by
 intro w
 rw[aR,A.k128 (by simp)]
 obtain⟨n1,u1,n2,u2,rfl,s1,s2⟩:=hx
 have o1:=dZ s1
 have o2:=dZ s2
 unfold V.one at o1 o2
 have kB:ab h N ((h.set N (.cells [.int .i64 n1,u1,.int .i64 n2,u2] 89 true)).set (N+1) (.cells [.int .i64 0,.aa,.int .i64 0,.aa] 89 true)) (N+2):=aN (aN ab.refl _) _
 simp[A.b128,aO,aF,ad,o1,o2]
 generalize jS:(h.set N (.cells [.int .i64 n1,u1,.int .i64 n2,u2] 89 true)).set (N+1) (.cells [.int .i64 0,.aa,.int .i64 0,.aa] 89 true)=hB at*
 have b1:hB.get N=some (.cells [.int .i64 n1,u1,.int .i64 n2,u2] 89 true):=by rw[<-jS];simp
 have b3:hB.get (N+1)=some (.cells [.int .i64 0,.aa,.int .i64 0,.aa] 89 true):=by rw[<-jS];simp
 refine aA (JV (s1.ae kB) (by omega)) ?_
 rintro v5 h1 m1 k1 q1
 obtain⟨n3,u3,rfl⟩:∃n3 u3,v5=.agg [.int .i64 n3,u3]:=by
  rcases q1 with⟨rfl,_⟩|⟨_,_,_,_,rfl,_⟩<;>exact⟨_,_,rfl⟩
 have o3:=dZ q1
 unfold V.one at o3
 have fu:=k1.le
 have f1:=(k1.get N (by omega)).trans b1
 have f3:=(k1.get (N+1) (by omega)).trans b3
 have e1:N<m1:=by omega
 have e2:N+1<m1:=by omega
 simp[f1,f3,e1,e2,aO,aF,ad,bC,o2,o3,ct.cv,aE]
 have kk:=kB.trans k1
 exact⟨kk.set (by omega),n3,u3,n2,u2,rfl,by rw[Rat.neg_num];exact q1.aK (i:=N+1) f3 oK rfl,by rw[Rat.neg_den];exact((s2.ae kB).ae k1).aK (i:=N+1) f3 oK rfl⟩
def Yfz{x y:V}{p q:Rat}(hx:Fc h N x p)(hy:Fc h N y q)(l1:wl p.num<1000000000)(l2:wl (p.den:Nat)<1000000000)(l3:wl q.num<1000000000)(l4:wl (q.den:Nat)<1000000000):Fn A.C 51 [x,y] h N (fun v h' n'=>Fc h' n' v (p-q)):=by
 intro w
 rw[aR,A.k51 (by simp)]
 have mH:=hx
 have xH:=hy
 obtain⟨n1,u1,n2,u2,rfl,s1,s2⟩:=hx
 obtain⟨n3,u3,n4,u4,rfl,s3,s4⟩:=hy
 have o1:=dZ s1
 have o2:=dZ s2
 have o3:=dZ s3
 have o4:=dZ s4
 unfold V.one at o1 o2 o3 o4
 have kB:ab h N (((h.set N (.cells [.int .i64 n1,u1,.int .i64 n2,u2] 89 true)).set (N+1) (.cells [.int .i64 n3,u3,.int .i64 n4,u4] 89 true)).set (N+2) (.cells [.int .i64 0,.aa,.int .i64 0,.aa] 89 true)) (N+3):=aN (aN (aN ab.refl _) _) _
 simp[A.b51,aO,aF,ad,o1,o2,o3,o4]
 generalize jS:((h.set N (.cells [.int .i64 n1,u1,.int .i64 n2,u2] 89 true)).set (N+1) (.cells [.int .i64 n3,u3,.int .i64 n4,u4] 89 true)).set (N+2) (.cells [.int .i64 0,.aa,.int .i64 0,.aa] 89 true)=hB at*
 have b1:hB.get N=some (.cells [.int .i64 n1,u1,.int .i64 n2,u2] 89 true):=by rw[<-jS];simp
 have b2:hB.get (N+1)=some (.cells [.int .i64 n3,u3,.int .i64 n4,u4] 89 true):=by rw[<-jS];simp
 have b3:hB.get (N+2)=some (.cells [.int .i64 0,.aa,.int .i64 0,.aa] 89 true):=by rw[<-jS];simp
 refine aA (Yqd (xH.ae kB) l3) ?_
 rintro v5 h1 m1 k1 q1
 have fu:=k1.le
 have f1:=(k1.get N (by omega)).trans b1
 have f2:=(k1.get (N+1) (by omega)).trans b2
 have f3:=(k1.get (N+2) (by omega)).trans b3
 have e1:N<m1:=by omega
 have e2:N+1<m1:=by omega
 simp[f1,f2,e1,e2,aO,aF,ad]
 refine aA (Yf5 ((mH.ae kB).ae k1) q1 l1 l2 (by rw[Rat.neg_num,Nz];exact l3) (by rw[Rat.neg_den];exact l4)) ?_
 rintro v7 h3 m3 k3 hv
 rw[<-Rat.sub_eq_add_neg]at hv
 obtain⟨n5,u5,n6,u6,rfl,t1,t2⟩:=hv
 have o5:=dZ t1
 have o6:=dZ t2
 unfold V.one at o5 o6
 have jj:=k3.le
 have f5:=(k3.get (N+2) (by omega)).trans f3
 have e3:N+2<m3:=by omega
 simp[f5,e3,aO,aF,ad,bC,o5,o6,ct.cv,aE]
 have kk:=(kB.trans k1).trans k3
 exact⟨kk.set (by omega),n5,u5,n6,u6,rfl,t1.aK (i:=N+2) f5 oK rfl,t2.aK (i:=N+2) f5 oK rfl⟩
def Qb.DC{q:Rat}{k:Nat}(h:Qb k q):wl q.num<=k/\wl (q.den:Nat)<=k:=⟨zt h.1,zt (z:=(q.den:Int)) (k:=k) (by rw[dR];exact h.2)⟩
def Cg(a b:List Rat):List Rat:=ks (fun x y=>x-y) a b a.length
def Yj5{u v:V}{a b:List Rat}{j k:Nat}(hu:jz h N u a)(hv:jz h N v b)(gp:a.length<=b.length)(ha:∀q∈a,Qb j q)(hb:∀q∈b,Qb k q)(hj:j<=400000000)(hk:k<=400000000)(hl:a.length<1000000000):Fn A.C 50 [u,v,.func 51 [] []] h N (fun x h' n'=>fl h' n' x (Cg a b)):=
 Yfo (fun x y=>x-y) hu hv gp (fun x hx y hy h' n' ca cb _ q5 p5=>by
  have w1:=(ha x hx).DC
  have w3:=(hb y hy).DC
  exact(Yfz q5.fc p5.fc (by omega) (by omega) (by omega) (by omega))) hl
def A.b178:=A.q Tryz.f178
def A.k178:=@A.kk 178 8 [.cell 2 (some 4)] A.b178 (by kernel_rfl) rfl
def A.b118:=A.q Tryz.f118
def A.k118:=@A.kk 118 9 [.cell 4 (some 4)] A.b118 (by kernel_rfl) rfl
def A.b115:=A.q Tryz.f115
def A.k115:=@A.kk 115 10 [.tmp 3] A.b115 (by kernel_rfl) rfl
def A.b117:=A.q Tryz.f117
def A.k117:=@A.kk 117 7 [.cell 3 (some 4)] A.b117 (by kernel_rfl) rfl
def A.b119:=A.q Tryz.f119
def A.k119:=@A.kk 119 11 [.cell 5 (some 4)] A.b119 (by kernel_rfl) rfl
def Yqf{x:V}{q:Rat}{h:T O}{N:Nat}(hx:Fc h N x q)(h0:q≠0)(l1:wl q.num<1000000000)(l2:wl (q.den:Nat)<1000000000):Fn A.C 178 [x] h N (fun v h' n'=>Fc h' n' v q⁻¹):=by
 intro w
 rw[aR,A.k178 (by simp)]
 obtain⟨n1,u1,n2,u2,rfl,s1,s2⟩:=hx
 have o1:=dZ s1
 have o2:=dZ s2
 unfold V.one at o1 o2
 have kB:ab h N ((h.set N (.cells [.int .i64 n1,u1,.int .i64 n2,u2] 89 true)).set (N+1) (.cells [.int .i64 0,.aa,.int .i64 0,.aa] 89 true)) (N+2):=aN (aN ab.refl _) _
 simp[A.b178,aO,aF,ad,o1,o2]
 generalize jS:(h.set N (.cells [.int .i64 n1,u1,.int .i64 n2,u2] 89 true)).set (N+1) (.cells [.int .i64 0,.aa,.int .i64 0,.aa] 89 true)=hB at*
 have b3:hB.get (N+1)=some (.cells [.int .i64 0,.aa,.int .i64 0,.aa] 89 true):=by rw[<-jS];simp
 have hn:q.num≠0:=fun hc=>h0 (zE.1 hc)
 refine aA (Zy (s2.ae kB) (s1.ae kB) hn (by omega) (by omega)) ?_
 rintro v7 h3 m3 k3 hv
 rw[<-Zl7]at hv
 obtain⟨n5,u5,n6,u6,rfl,t1,t2⟩:=hv
 have o5:=dZ t1
 have o6:=dZ t2
 unfold V.one at o5 o6
 have jj:=k3.le
 have f5:=(k3.get (N+1) (by omega)).trans b3
 have e3:N+1<m3:=by omega
 simp[f5,e3,aO,aF,ad,bC,o5,o6,aE]
 have kk:=kB.trans k3
 exact⟨kk.set (by omega),n5,u5,n6,u6,rfl,t1.aK (i:=N+1) f5 oK rfl,t2.aK (i:=N+1) f5 oK rfl⟩
def Yqg{x y:V}{p q:Rat}{h:T O}{N:Nat}(hx:Fc h N x p)(hy:Fc h N y q)(h0:q≠0)(l1:wl p.num<1000000000)(l2:wl (p.den:Nat)<1000000000)(l3:wl q.num<1000000000)(l4:wl (q.den:Nat)<1000000000)(l5:wl q⁻¹.num<1000000000)(l6:wl (q⁻¹.den:Nat)<1000000000):Fn A.C 118 [x,y] h N (fun v h' n'=>Fc h' n' v (p/q)):=by
 intro w
 rw[aR,A.k118 (by simp)]
 have mH:=hx
 have xH:=hy
 obtain⟨n1,u1,n2,u2,rfl,s1,s2⟩:=hx
 obtain⟨n3,u3,n4,u4,rfl,s3,s4⟩:=hy
 have o1:=dZ s1
 have o2:=dZ s2
 have o3:=dZ s3
 have o4:=dZ s4
 unfold V.one at o1 o2 o3 o4
 have kB:ab h N (((h.set N (.cells [.int .i64 n1,u1,.int .i64 n2,u2] 89 true)).set (N+1) (.cells [.int .i64 n3,u3,.int .i64 n4,u4] 89 true)).set (N+2) (.cells [.int .i64 0,.aa,.int .i64 0,.aa] 89 true)) (N+3):=aN (aN (aN ab.refl _) _) _
 simp[A.b118,aO,aF,ad,o1,o2,o3,o4]
 generalize jS:((h.set N (.cells [.int .i64 n1,u1,.int .i64 n2,u2] 89 true)).set (N+1) (.cells [.int .i64 n3,u3,.int .i64 n4,u4] 89 true)).set (N+2) (.cells [.int .i64 0,.aa,.int .i64 0,.aa] 89 true)=hB at*
 have b1:hB.get N=some (.cells [.int .i64 n1,u1,.int .i64 n2,u2] 89 true):=by rw[<-jS];simp
 have b2:hB.get (N+1)=some (.cells [.int .i64 n3,u3,.int .i64 n4,u4] 89 true):=by rw[<-jS];simp
 have b3:hB.get (N+2)=some (.cells [.int .i64 0,.aa,.int .i64 0,.aa] 89 true):=by rw[<-jS];simp
 refine aA (Yqf (xH.ae kB) h0 l3 l4) ?_
 rintro v5 h1 m1 k1 q1
 have fu:=k1.le
 have f1:=(k1.get N (by omega)).trans b1
 have f2:=(k1.get (N+1) (by omega)).trans b2
 have f3:=(k1.get (N+2) (by omega)).trans b3
 have e1:N<m1:=by omega
 have e2:N+1<m1:=by omega
 simp[f1,f2,e1,e2,aO,aF,ad]
 refine aA (ZB ((mH.ae kB).ae k1) q1 l1 l2 l5 l6) ?_
 rintro v7 h3 m3 k3 hv
 rw[<-Rat.div_def]at hv
 obtain⟨n5,u5,n6,u6,rfl,t1,t2⟩:=hv
 have o5:=dZ t1
 have o6:=dZ t2
 unfold V.one at o5 o6
 have jj:=k3.le
 have f5:=(k3.get (N+2) (by omega)).trans f3
 have e3:N+2<m3:=by omega
 simp[f5,e3,aO,aF,ad,bC,o5,o6,ct.cv,aE]
 have kk:=(kB.trans k1).trans k3
 exact⟨kk.set (by omega),n5,u5,n6,u6,rfl,t1.aK (i:=N+2) f5 oK rfl,t2.aK (i:=N+2) f5 oK rfl⟩
variable {N k:Nat} {h:T O} {rw:Bool}
def US{q:Rat}(h:Qb k q)(h0:q≠0):Qb k q⁻¹:=by
 have e:=Zl7 q
 have h1:q.num≠0:=fun hc=>h0 (zE.1 hc)
 refine⟨?_,?_⟩
 ·rw[Rat.num_inv,u_,dR]
  have:q.num.sign.natAbs=1:=by
   rcases Int.lt_trichotomy q.num 0 with h2|h2|h2
   ·rw[Int.sign_eq_neg_one_of_neg h2];rfl
   ·exact absurd h2 h1
   ·rw[Int.sign_eq_one_of_pos h2];rfl
  rw[this,Nat.one_mul]
  exact h.2
 ·rw[Rat.den_inv,ak h1]
  exact h.1
def Yt0{p:Nat}{u:V}{l:List Rat}{e:TypeId}(hp:h.get p=some (.cells [.int .i64 k] e rw))(gw:p<N)(hu:jz h N u l)(hk:k<l.length):mJ A.C (.func 115 [] [.ptr p 0]) [u] h N (fun x _ _=>x=.bool (decide (l[k]?.getD 0≠0))):=by
 intro w
 have l1:=hu.len
 have gE:(k:Int)<(l.length:Int):=by omega
 obtain⟨q,hq⟩:=bk hk
 obtain⟨i,o,cc,e,rw,c,q1,q2,q3,q4,q5⟩:=hu.at hq
 rw[hq]
 rw[aR,A.k115 (by simp)]
 simp[A.b115,hp,l1,hk,gE,q1,q3,q4,PH q4]
 refine aA (Zyw q5.fc) ?_
 rintro _ H2 n2 k2 rfl
 have hz:(eF q.num≠0)=(q≠0):=by
  have h1:=@zE q
  apply propext
  unfold eF
  constructor
  ·intro hh hc
   have:=h1.2 hc
   rw[this]at hh
   simp at hh
  ·intro hh hc
   apply hh
   apply h1.1
   split at hc
   ·omega
   ·split at hc<;>omega
 simp[aG,aE]
 refine⟨k2,?_⟩
 by_cases c0:q=0
 ·simp[c0,zE.2 rfl,eF]
 ·have:eF q.num≠0:=by rw[hz];exact c0
  simp[c0,this]
def Ytz{p:Nat}{c d:List V}{x q:Rat}{e:TypeId}{j:Nat}(hp:h.get p=some (.cells d e rw))(gw:p<N)(hc:fE h N c x)(hd:fE h N d q)(h0:q≠0)(hx:Qb j x)(hq:Qb k q)(hj:j<=500000000)(hk:k<=500000000):mJ A.C (.func 117 [] [.ptr p 0]) [.agg c] h N (fun z h' n'=>Fc h' n' z (x/q)):=by
 intro w
 obtain⟨c1,c2⟩:=hc.len
 obtain⟨d1,d2⟩:=hd.len
 have w1:=hx.DC
 have w2:=hq.DC
 have w3:=(US hq h0).DC
 have mA:∀c:List V,(V.agg c).cells=c:=fun _=>rfl
 have s0:aF c 0 4=some c:=by unfold aF;rw[c1];simp;exact fe (by omega)
 have s1:aF d 0 4=some d:=by unfold aF;rw[d1];simp;exact fe (by omega)
 have kB:ab h N ((h.set N (.cells c 89 true)).set (N+1) (.cells zF 89 true)) (N+1+1):=(ab.refl.new _).new _
 unfold zF at kB
 have n1:¬p=N:=by omega
 have n2:¬p=N+1:=by omega
 have n3:¬N=N+1:=by omega
 rw[aR,A.k117 (by simp)]
 simp[-V.cells, -V.one,A.b117,hp,n1,n2,mA,c1,c2,d1,d2,s0,s1,n3]
 generalize hG:(h.set N (.cells c 89 true)).set (N+1) (.cells [.int .i64 0,.aa,.int .i64 0,.aa] 89 true)=G at*
 have g1:G.get (N+1)=some (.cells [.int .i64 0,.aa,.int .i64 0,.aa] 89 true):=by rw[<-hG];simp
 clear hG
 refine aA (Yqg (hc.ae kB).fc (hd.ae kB).fc h0 (by omega) (by omega) (by omega) (by omega) (by omega) (by omega)) ?_
 rintro _ H2 m2 k2 hz
 obtain⟨z,rfl,CW⟩:=hz.c
 obtain⟨z1,z2⟩:=CW.len
 have kX:=k2.le
 have g2:=(k2.get (N+1) (by omega)).trans g1
 have e4:ad [V.int .i64 0,.aa,.int .i64 0,.aa] 0 z=z:=by unfold ad;rw[z1];simp[z1]
 have s2:aF z 0 4=some z:=by unfold aF;rw[z1];simp;exact fe (by omega)
 have lt:N+1<m2:=by omega
 simp[-V.cells, -V.one,bC,mA,z1,z2,e4,s2,g2,aE]
 exact⟨(kB.trans k2).set (by omega),(CW.aK (e1:=89) (w1:=true) (c1:=z) g2 oK (by rw[z1];rfl)).fc⟩
def Yty{p:Nat}{a b d:List V}{x y f:Rat}{e:TypeId}{i j:Nat}(hp:h.get p=some (.cells d e rw))(gw:p<N)(ha:fE h N a x)(hb:fE h N b y)(hd:fE h N d f)(hx:Qb i x)(hy:Qb j y)(hf:Qb k f)(hi:i<=450000000)(hj:j<=450000000)(hk:k<=450000000)(CQ:1<=j)(bM:1<=k):mJ A.C (.func 119 [] [.ptr p 0]) [.agg a,.agg b] h N (fun z h' n'=>Fc h' n' z (x-f*y)):=by
 intro w
 obtain⟨a1,a2⟩:=ha.len
 obtain⟨b1,b2⟩:=hb.len
 obtain⟨d1,d2⟩:=hd.len
 have w1:=hx.DC
 have w2:=hy.DC
 have w3:=hf.DC
 have w4:=(hf.mul hy).DC
 have mA:∀c:List V,(V.agg c).cells=c:=fun _=>rfl
 have s0:∀c:List V,c.length=4->aF c 0 4=some c:=fun c h=>by unfold aF;rw[h];simp;exact fe (by omega)
 have sa:=s0 a a1
 have sb:=s0 b b1
 have sd:=s0 d d1
 have kB:ab h N (((h.set N (.cells a 89 true)).set (N+1) (.cells b 89 true)).set (N+1+1) (.cells zF 89 true)) (N+1+1+1):=((ab.refl.new _).new _).new _
 unfold zF at kB
 have n1:¬p=N:=by omega
 have n2:¬p=N+1:=by omega
 have n3:¬p=N+1+1:=by omega
 have n4:¬N=N+1:=by omega
 have n5:¬N=N+1+1:=by omega
 have lp:p<N+1+1+1:=by omega
 rw[aR,A.k119 (by simp)]
 simp[-V.cells, -V.one,A.b119,hp,n1,n2,n3,mA,a1,a2,b1,b2,d1,d2,sa,sb,sd,n4,n5,lp]
 generalize hG:((h.set N (.cells a 89 true)).set (N+1) (.cells b 89 true)).set (N+1+1) (.cells [.int .i64 0,.aa,.int .i64 0,.aa] 89 true)=G at*
 have g1:G.get (N+1+1)=some (.cells [.int .i64 0,.aa,.int .i64 0,.aa] 89 true):=by rw[<-hG];simp
 have g2:G.get N=some (.cells a 89 true):=by rw[<-hG];simp[n4,n5]
 have g3:G.get (N+1)=some (.cells b 89 true):=by rw[<-hG];simp
 clear hG
 refine aA (ZB (hd.ae kB).fc (hb.ae kB).fc (by omega) (by omega) (by omega) (by omega)) ?_
 rintro _ H2 m2 k2 hz
 have kX:=k2.le
 have lt:N+1+1<m2:=by omega
 simp[]
 refine aA (Yfz ((ha.ae kB).ae k2).fc hz (by omega) (by omega) (by omega) (by omega)) ?_
 rintro _ H3 m3 k3 hv
 obtain⟨z,rfl,CW⟩:=hv.c
 obtain⟨z1,z2⟩:=CW.len
 have B3:=k3.le
 have g4:=(k3.get (N+1+1) (by omega)).trans ((k2.get (N+1+1) (by omega)).trans g1)
 have e4:ad [V.int .i64 0,.aa,.int .i64 0,.aa] 0 z=z:=by unfold ad;rw[z1];simp[z1]
 have s2:=s0 z z1
 have lt3:N+1+1<m3:=by omega
 simp[-V.cells, -V.one,bC,mA,z1,z2,e4,s2,g4,lp,lt,lt3,aE,ct.cv]
 exact⟨((kB.trans k2).trans k3).set (by omega),(CW.aK (e1:=89) (w1:=true) (c1:=z) g4 oK (by rw[z1];rfl)).fc⟩
variable {N R:Nat} {f u v:V} {h:T O} {l:List Rat}
def A.Po:=A.q Tryz.f114
def A.sG:=A.ql A.Po 0 []
def A.b114:=(fun x0=>A.qb A.Po [x0]) A.sG
def A.k114:=@A.kk 114 19 [.tmp 4] A.b114 (by kernel_rfl) rfl
def Yp8(l:List V)(p:Nat->Bool)(hs:Sl h N v l)(hl:l.length<1152921504606846976)(hf:∀(j:Nat) (x:V),l[j]?=some x->∀h' n',ab h N h' n'->mJ A.C f [x] h' n' (fun u _ _=>u=.bool (p j))):Fn A.C 114 [v,f] h N (fun u _ _=>u=.int .i64 (nR p 0 l.length)):=by
 intro w
 have hlen:=hs.len
 rw[aR,A.k114 (by simp)]
 simp[A.b114,hlen]
 refine bL [(4,5),(8,18)] (fun e r st=>ax N st.w=[]/\ab h N st.h st.n/\((e=.exit 0/\nR p 0 l.length= -1)\/(e=.ret/\r.get 4=some (.int .i64 (nR p 0 l.length))))) (fun m r st=>ax N st.w=[]/\ab h N st.h st.n/\∃k,k+m=l.length/\r.get 8=some (.int .i64 k)/\nR p 0 l.length=nR p k m) l.length ?_ ?_ ?_
 ·exact⟨by simp,ab.refl,0,by omega,by simp,rfl⟩
 ·rintro m r ⟨H,n1,W⟩ hr c9 ⟨hW,hK,k,hk,h8,hz⟩
  simp only at hW hK
  rw[bl]
  cases m with
  |zero=>
   have:k=l.length:=by omega
   subst this
   simp only[nR]at hz
   simp[A.sG,hr,c9,h8,hW,hK,hz]
  |succ m=>
   have ay:k<l.length:=by omega
   obtain⟨c,hc⟩:=bk ay
   obtain⟨i,o,cc,e,rw,q1,q2,q3,q4⟩:=hs.at hc
   have q3:=(hK.get _ q2).trans q3
   have bM:(k:Int)<(l.length:Int):=by omega
   simp only[nR]at hz
   simp[A.sG,hr,c9,h8,bM,ay,hlen,q1,q3,q4,hW]
   refine CL (hf k c hc _ _ hK) ?_
   rintro v h2 n2 k2 rfl
   have kk:=hK.trans k2
   cases hp:p k
   ·rw[hp]at hz
    simp(disch:=first|(simp;done)|omega|rfl) [hr,c9,h8,hW,kk]
    exact⟨m,by omega,k+1,by omega,by simp,by simpa using hz⟩
   ·rw[hp]at hz
    simp[hr,c9,h8,hW,kk]
    simpa using hz.symm
 ·rintro e r ⟨H,n1,W⟩ hr ⟨hW,hK,⟨rfl,hz⟩|⟨rfl,h4⟩⟩
  ·simp only at hW hK
   simp[hr,hz,aE,hW,hK]
  ·simp only at hW hK
   simp[hr,h4,aE,hW,hK]
def A.Pp:=A.q Tryz.f116
def A.sH:=A.ql A.Pp 0 []
def A.b116:=(fun x0=>A.qb A.Pp [x0]) A.sH
def A.k116:=@A.kk 116 22 [.tmp 4] A.b116 (by kernel_rfl) rfl
def Yjv{l:List (List V)}{Q:Nat->T O->Nat->List V->Prop}(Y:V->Prop)(hQ:∀j h n h' n' c u,Q j h n c->eE (fun i=>i∈dh u) h n h' n'->nP 89 Y h u->Q j h' n' c)(hs:Sn 4 h N v l)(hl:l.length<1000000000)(h1:∀(j:Nat) (x:List V),l[j]?=some x->x.length=4/\x.all V.one=true)(hf:∀(j:Nat) (x:List V),l[j]?=some x->∀h' n',ab h N h' n'->mJ A.C f [(.agg x)] h' n' (fun u h2 n2=>∃c,u=(.agg c)/\c.length=4/\c.all V.one=true/\(∀q∈c,Y q)/\Q j h2 n2 c)):Fn A.C 116 [v,f] h N (fun u h' n'=>∃out,Own 4 89 N h' n' u out/\out.length=l.length/\∀(j:Nat),j<l.length->∃c,out[j]?=some c/\Q j h' n' c):=by
 intro w
 have hlen:=hs.len
 rw[aR,A.k116 (by simp)]
 simp[A.b116,hlen]
 refine bL [(5,5),(7,7),(10,20)] (fun e r st=>e=.exit 0/\ax N st.w=[]/\ab h N st.h st.n/\∃u out,r.get 5=some u/\Own 4 89 N st.h st.n u out/\out.length=l.length/\∀(j:Nat),j<l.length->∃c,out[j]?=some c/\Q j st.h st.n c) (fun m r st=>ax N st.w=[]/\ab h N st.h st.n/\∃k u out,k+m=l.length/\r.get 10=some (.int .i64 k)/\r.get 5=some u/\Own 4 89 N st.h st.n u out/\out.length=k/\(out=[]->u=.aa)/\(∀c∈out,∀y∈c,Y y)/\∀(j:Nat),j<k->∃c,out[j]?=some c/\Q j st.h st.n c) l.length ?_ ?_ ?_
 ·exact⟨by simp,ab.refl,0,.aa,[],by omega,by simp,by simp,Own.nil,rfl,fun _=>rfl,by simp,fun j hj=>by omega⟩
 ·rintro m r ⟨H,n1,W⟩ hr c9 ⟨hW,hK,k,u,out,hk,fF,h5,ho,gV,wo,hY,dm⟩
  simp only at hW hK ho dm
  rw[bl]
  cases m with
  |zero=>
   have AE:k=l.length:=by omega
   subst AE
   simp[A.sH,hr,c9,fF,hW,hK]
   exact⟨u,h5,out,ho,gV,dm⟩
  |succ m=>
   have ay:k<l.length:=by omega
   obtain⟨x,hx⟩:=bk ay
   obtain⟨i,o,cc,e,rw,q1,q2,q3,q4⟩:=(hs.ae hK).at hx
   have bM:(k:Int)<(l.length:Int):=by omega
   obtain⟨e1,e2⟩:=h1 k x hx
   have d1:¬i=n1:=by omega
   have d4:n1<n1+1:=by omega
   have kA:=(hK.new (.cells [(.int .i64 0),.aa,(.int .i64 0),.aa] 89 true)).set (i:=n1) (o:=.cells x 89 true) hK.le
   have e3:∀v:List V,(V.agg v).cells=v:=fun _=>rfl
   have e4:ad [(.int .i64 0),.aa,(.int .i64 0),.aa] 0 x=x:=by unfold ad;rw[e1];simp[e1]
   have e5:aF x 0 4=some x:=by unfold aF;rw[av (by omega)];simp;exact fe (by omega)
   simp[-V.cells, -V.one,A.sH,hr,c9,fF,h5,bM,ay,hlen,q1,q3,q4,aO,d1,bC,e3,e1,e2,e4,e5]
   refine CL (hf k x hx _ _ kA) ?_
   rintro _ h3 n3 k3 ⟨c,rfl,c1,c2,cY,c3⟩
   have jj:=k3.le
   have kn:=hK.le
   have kB:=kA.trans k3
   have b1:∀v:List V,(V.agg v).cells=v:=fun _=>rfl
   have b2:ad [(.int .i64 0),.aa,(.int .i64 0),.aa] 0 c=c:=by unfold ad;rw[c1];simp[c1]
   simp[-V.cells, -V.one,hr,c9,fF,h5,b1,b2,c1,c2]
   have uD:Own 4 89 N (h3.set n3 (.cells c 89 true)) (n3+1) u out:=(ho.ae (((ab.refl.new _).set (aM n1)).trans k3)).ae (ab.refl.new _)
   obtain⟨v',h',w',f1,f2,f3,f4,fD,f5⟩:=DN (Y:=Y) (x:=c) (u:=.slice n3 0 1 (some 1) 4) (bytes:=64) (w:=n1::W) uD wo hY (by omega) (by decide) c1 (by simp only[eL,St.row,T.ag,if_true];unfold aF;simp[c1];exact fe (by omega)) (by omega)
   rw[f1]
   have ij:¬n1<N:=by omega
   have f6:ax N w'=[]:=by rw[f2];simp[ax,hW,ij]
   have kz:=(kB.new (.cells c 89 true)).then f3
   have k4:ab h3 n3 (h3.set n3 (.cells c 89 true)) (n3+1):=ab.refl.new _
   have Dj:Q k (h3.set n3 (.cells c 89 true)) (n3+1) c:=hQ _ _ _ _ _ _ .aa c3 k4.upd nP.nil
   simp(disch:=first|(simp;done)|omega|rfl) [hr,c9,fF,f6]
   refine⟨m,by omega,kz,k+1,by omega,by simp,out++[c],f5,by simp[gV],by simp,fun c' hc z hz=>?_,fun j hj=>?_⟩
   ·rcases mE.1 hc with hc|hc
    ·exact hY c' hc z hz
    ·simp only[wR]at hc;subst hc;exact cY z hz
   by_cases pR:j<k
   ·obtain⟨c,g1,g2⟩:=dm j pR
    exact⟨c,by rw[iM (by omega)];exact g1,hQ _ _ _ _ _ _ _ (hQ _ _ _ _ _ _ .aa g2 ((((ab.refl.new _).set (aM n1)).trans k3).trans k4).upd nP.nil) f4 fD⟩
   ·obtain rfl:j=k:=by omega
    exact⟨c,by rw[kY (by omega),gV];simp,hQ _ _ _ _ _ _ _ Dj f4 fD⟩
 ·rintro _ r ⟨H,n1,W⟩ hr ⟨rfl,hW,hK,u,out,h5,ho,gV,dm⟩
  simp only at hW hK ho dm
  simp[hr,h5,aE,hW,hK]
  exact⟨out,ho,gV,dm⟩
def Ypm(F:Rat->Rat)(hs:jz h N v l)(hl:l.length<1000000000)(hf:∀q∈l,∀c h' n',ab h N h' n'->fE h' n' c q->mJ A.C f [.agg c] h' n' (fun x h2 n2=>Fc h2 n2 x (F q))):Fn A.C 116 [v,f] h N (fun u h' n'=>fl h' n' u (l.map F)):=by
 obtain⟨cs,h1,h2,h3⟩:=hs
 have key:=Yjv (f:=f) (Q:=fun j h n c=>∀q,(l.map F)[j]?=some q->fE h n c q) NW (fun j h n h' n' c u hq k hd q uL=>(hq q uL).cE k hd) h1 (by omega) (fun j x hx=>?_) ?_
 ·intro w
  refine(key w).mono fun u st=>?_
  rintro⟨q1,q2,out,o1,o2,o3⟩
  exact⟨q1,q2,Vl o1 (by simpa[h2]using o2) fun j hj=>o3 j (by simp at hj;omega)⟩
 ·obtain⟨q,hq⟩:=bk (l:=l) (k:=j) (by have:=iY hx;omega)
  obtain⟨c,g1,g2⟩:=h3 j q hq
  rw[hx]at g1
  obtain rfl:x=c:=by simpa using g1
  exact g2.len
 ·intro j x hx h' n' hk
  obtain⟨q,hq⟩:=bk (l:=l) (k:=j) (by have:=iY hx;omega)
  obtain⟨c,g1,g2⟩:=h3 j q hq
  rw[hx]at g1
  obtain rfl:x=c:=by simpa using g1
  refine fun w=>(hf q (cG hq) x h' n' hk (g2.ae hk) w).mono fun y st=>?_
  rintro⟨q1,q2,q3⟩
  obtain⟨c,rfl,hc⟩:=q3.c
  refine⟨q1,q2,c,rfl,hc.len.1,hc.len.2,hc.KH,fun t ht=>?_⟩
  simp[hq]at ht
  rw[<-ht]
  exact hc
structure lY (h:T O) (N R:Nat) (m:List (List Rat)):Prop where
 lt:R<N
 ex:∃us:List V,h.get R=some (.cells us 70 true)/\us.length=m.length/\tP us/\us.all V.one=true/\∀(j:Nat) (l:List Rat),m[j]?=some l->∃u,us[j]?=some u/\fl h N u l
def fl.bh{us vs:List V}{e:TypeId}{b c:Bool}(s:fl h N u l)(g:h.get R=some (.cells us e b))(he:e≠89)(hn:tP us)(hl:vs.length=us.length):fl (h.set R (.cells vs e c)) N u l:=by
 have aW:∀i∈dh u,i≠R:=fun i hi hc=>by
  obtain⟨z,w,hz⟩:=s.2 i hi
  rw[hc,g]at hz
  simp at hz
  exact he hz.2.1
 obtain⟨cs,h1,h2,h3⟩:=s.1
 have k:eE (fun i=>i=R) h N (h.set R (.cells vs e c)) N:=⟨aM _,fun i _ hi=>by rw[T.ag,ak hi]⟩
 refine⟨⟨cs,h1.cE k aW,h2,fun j q hq=>?_⟩,fun i hi=>?_⟩
 ·obtain⟨x,g1,g2⟩:=h3 j q hq
  exact⟨x,g1,g2.aK g hn hl⟩
 ·rw[T.ag,ak (aW i hi)]
  exact s.2 i hi
def lY.ae{h':T O}{N':Nat}{m:List (List Rat)}(s:lY h N R m)(k:ab h N h' N'):lY h' N' R m:=by
 obtain⟨us,g1,g2,g3,g4,g5⟩:=s.ex
 refine⟨eX s.lt k.le,us,(k.get R s.lt).trans g1,g2,g3,g4,fun j l hl=>?_⟩
 obtain⟨u,a1,a2⟩:=g5 j l hl
 exact⟨u,a1,a2.ae k⟩
def fl.B9(s:fl h N u l):(∀n,u≠.int .u64 n)/\V.one u=true/\V.cells u=[u]:=by
 obtain⟨a,b,c⟩:=s.1.form
 exact⟨c,a,b⟩
def lY.put{i:Nat}{m:List (List Rat)}(s:lY h N R m)(hu:fl h N u l)(hi:i<m.length):∃us,h.get R=some (.cells us 70 true)/\us.length=m.length/\lY (h.set R (.cells (us.set i u) 70 true)) N R (m.set i l):=by
 obtain⟨us,g1,g2,g3,g4,g5⟩:=s.ex
 refine⟨us,g1,g2,s.lt,us.set i u,by rw[T.ag,av rfl],by simp[g2],fun x hx=>?_,?_,fun j r hr=>?_⟩
 ·rcases F9 hx with hx|rfl
  ·exact g3 x hx
  ·exact hu.B9.1
 ·rw[lB]
  intro x hx
  rcases F9 hx with hx|rfl
  ·exact lB.1 g4 x hx
  ·exact hu.B9.2.1
 ·by_cases e:j=i
  ·subst e
   rw[gG hi]at hr
   simp only[al]at hr
   subst hr
   exact⟨u,by rw[gG (by omega)],hu.bh g1 (by decide) g3 (by simp)⟩
  ·rw[d_ (Ne.symm e)]at hr ⊢
   obtain⟨u',a1,a2⟩:=g5 j r hr
   exact⟨u',a1,a2.bh g1 (by decide) g3 (by simp)⟩
variable {d k:Nat} {m:List (List Rat)}
def nN(m:List (List Rat))(k:Nat):Nat->Nat->Nat
 |d,0=>d
 |d,n+1=>if (m[d]?.getD [])[k]?.getD 0≠0 then d else nN m k (d+1) n
def dJ(m:List (List Rat))(d k:Nat):Nat:=nN m k d (m.length-d)
def B4{m:List (List Rat)}{k:Nat}:∀{n d:Nat},d<=nN m k d n/\nN m k d n<=d+n
 |0,d=>by simp[nN]
 |n+1,d=>by
  unfold nN
  split
  ·omega
  ·have:=@B4 m k n (d+1)
   omega
def DM{m:List (List Rat)}{k:Nat}:∀{n d:Nat},nN m k d n<d+n->(m[nN m k d n]?.getD [])[k]?.getD 0≠0
 |0,d,h=>by simp[nN]at h
 |n+1,d,h=>by
  unfold nN at h ⊢
  split
  ·assumption
  ·rename_i hc
   rw[ak hc]at h
   exact DM (by omega)
def pj(r p:List Rat)(k:Nat):List Rat:=ks (fun x y=>x-r[k]?.getD 0*y) r p r.length
def b_(m:List (List Rat))(d k t:Nat):List (List Rat):=(List.range m.length).map fun i=>if i<t/\i≠d then pj (m[i]?.getD []) (m[d]?.getD []) k else m[i]?.getD []
def bP(m:List (List Rat))(d p:Nat):List (List Rat):=(m.set d (m[p]?.getD [])).set p (m[d]?.getD [])
def eZ(m:List (List Rat))(d k:Nat):List (List Rat):=m.set d ((m[d]?.getD []).map fun x=>x/(m[d]?.getD [])[k]?.getD 0)
def fT(s:List (List Rat)×Nat×List Nat)(k:Nat):List (List Rat)×Nat×List Nat:=
 if dJ s.1 s.2.1 k<s.1.length then (b_ (eZ (bP s.1 s.2.1 (dJ s.1 s.2.1 k)) s.2.1 k) s.2.1 k s.1.length,s.2.1+1,s.2.2++[k]) else s
def aD(m:List (List Rat))(n:Nat):List (List Rat)×Nat×List Nat:=(List.range n).foldl fT (m,0,[])
def ta{n:Nat}:aD m (n+1)=fT (aD m n) n:=by simp[aD,List.range_succ]
def yF{t:Nat}:(b_ m d k t).length=m.length:=by simp[b_]
def DJ{t i:Nat}(h:i<m.length):(b_ m d k t)[i]?=some (if i<t/\i≠d then pj (m[i]?.getD []) (m[d]?.getD []) k else m[i]?.getD []):=by simp[b_,h]
def Ytx:b_ m d k 0=m:=by
 apply lA
 intro i
 by_cases h:i<m.length
 ·rw[DJ h];simp[cy h]
 ·rw[eJ (by rw[yF];omega),eJ (by omega)]
def Ytw{t:Nat}(h:d<m.length):(b_ m d k t)[d]?=m[d]?:=by
 rw[DJ h,cy h];simp
def UL{t:Nat}(h:t<m.length)(hd:t≠d):b_ m d k (t+1)=(b_ m d k t).set t (pj (m[t]?.getD []) (m[d]?.getD []) k):=by
 apply lA
 intro i
 by_cases hi:i<m.length
 ·by_cases e:i=t
  ·subst e
   rw[gG (by rw[yF];exact h),DJ hi,av ⟨by omega,hd⟩]
  ·rw[d_ (Ne.symm e),DJ hi,DJ hi]
   congr 1
   by_cases e2:i<t
   ·simp[e2,show i<t+1 by omega]
   ·simp[e2,show ¬i<t+1 by omega]
 ·rw[eJ (by rw[yF];omega),eJ (by rw[wM,yF];omega)]
def Zyx:b_ m d k (d+1)=b_ m d k d:=by
 unfold b_
 apply zA
 intro i _
 by_cases e:i=d
 ·subst e;simp
 ·by_cases e2:i<d
  ·simp[e,e2,show i<d+1 by omega]
  ·simp[e2,show ¬i<d+1 by omega]
def Ycv{r p:List Rat}(h:r[k]?.getD 0=0):pj r p k=r:=by
 apply lA
 intro i
 by_cases hi:i<r.length
 ·unfold pj
  rw[I4 hi,h,Rat.zero_mul,Rat.sub_eq_add_neg,Rat.neg_zero,Rat.add_zero,cy hi]
  rfl
 ·rw[eJ (by unfold pj;rw[zy];omega),eJ (by omega)]
def O4{r p:List Rat}:(pj r p k).length=r.length:=by unfold pj;rw[zy]
variable {K d i k n:Nat} {m:List (List Rat)} {r:List Rat}
def bg(m:List (List Rat))(n:Nat):Prop:=∀r∈m,r.length=n
def bg.at(h:bg m n)(hi:i<m.length):(m[i]?.getD []).length=n:=by
 rw[cy hi]
 exact h _ (List.getElem_mem hi)
def bg.set(h:bg m n)(hr:r.length=n):bg (m.set i r) n:=fun x hx=>by
 rcases F9 hx with hx|rfl
 ·exact h x hx
 ·exact hr
def bg.zC{p:Nat}(h:bg m n)(hd:d<m.length)(hp:p<m.length):bg (bP m d p) n:=(h.set (h.at hp)).set (h.at hd)
def bg.FF(h:bg m n)(hd:d<m.length):bg (eZ m d k) n:=h.set (by rw[dL];exact h.at hd)
def bg.elm{t:Nat}(h:bg m n):bg (b_ m d k t) n:=fun r hr=>by
 unfold b_ at hr
 obtain⟨i,hi,rfl⟩:=dt.1 hr
 have hi:=u9.1 hi
 split
 ·rw[O4];exact h.at hi
 ·exact h.at hi
def mD{p:Nat}:(bP m d p).length=m.length:=by simp[bP]
def zD:(eZ m d k).length=m.length:=by simp[eZ]
def Ynu{s:List (List Rat)×Nat×List Nat}:(fT s k).1.length=s.1.length:=by
 unfold fT
 split
 ·simp only[yF,zD,mD]
 ·rfl
def Yr7{s:List (List Rat)×Nat×List Nat}(h:bg s.1 n)(hd:s.2.1<=s.1.length):bg (fT s k).1 n/\(fT s k).2.1<=s.1.length/\s.2.1<=(fT s k).2.1:=by
 unfold fT
 have hle:=@B4 s.1 k (s.1.length-s.2.1) s.2.1
 split
 ·rename_i hp
  have dp:s.2.1<s.1.length:=by unfold dJ at hp;omega
  exact⟨((h.zC dp hp).FF (by rw[mD];exact dp)).elm,by simp only;omega,by simp⟩
 ·exact⟨h,hd,aM _⟩
def cB(m:List (List Rat))(K:Nat):Prop:=∀r∈m,∀q∈r,Qb K q
def cB.mono{L:Nat}(h:cB m K)(hk:K<=L):cB m L:=fun r hr q hq=>(h r hr q hq).mono hk
def cB.at{m:List (List Rat)}{K i:Nat}(h:cB m K):∀q∈m[i]?.getD [],Qb K q:=fun q hq=>by
 cases hr:m[i]? with
 |none=>rw[hr]at hq;simp at hq
 |some r=>rw[hr]at hq;exact h r (cG hr) q hq
def cB.set(h:cB m K)(hr:∀q∈r,Qb K q):cB (m.set i r) K:=fun x hx=>by
 rcases F9 hx with hx|rfl
 ·exact h x hx
 ·exact hr
def cB.zC{p:Nat}(h:cB m K):cB (bP m d p) K:=(h.set h.at).set h.at
def UT(h:cB m K)(hK:1<=K)(hp:(m[d]?.getD [])[k]?.getD 0≠0):∀q∈(m[d]?.getD []).map (fun x=>x/(m[d]?.getD [])[k]?.getD 0),Qb (2*K) q:=fun q hq=>by
 obtain⟨x,hx,rfl⟩:=dt.1 hq
 have h1:=h.at (i:=d) x hx
 have h2:=US (yi (fun q hq=>h.at (i:=d) q hq) hK k) hp
 rw[Rat.div_def,show 2*K=K+K by omega]
 exact h1.mul h2
def Yns{p:List Rat}(hr:∀q∈r,Qb K q)(hp:∀q∈p,Qb (2*K) q)(hK:1<=K):∀q∈pj r p k,Qb (4*K+1) q:=fun q hq=>by
 unfold pj ks at hq
 obtain⟨i,_,rfl⟩:=dt.1 hq
 have h1:=yi hr hK i
 have h2:=(yi hr hK k).mul (yi hp (by omega) i)
 have h3:Qb (K+2*K) (-(r[k]?.getD 0*p[i]?.getD 0)):=⟨by rw[Rat.neg_num,xY];exact h2.1,by rw[Rat.neg_den];exact h2.2⟩
 have h4:=h1.add h3
 rw[<-Rat.sub_eq_add_neg]at h4
 exact h4.mono (by omega)
def Yr8{s:List (List Rat)×Nat×List Nat}(h:cB s.1 K)(hK:1<=K):cB (fT s k).1 (4*K+1):=by
 unfold fT
 split
 ·rename_i hp
  have hle:=@B4 s.1 k (s.1.length-s.2.1) s.2.1
  have dp:s.2.1<s.1.length:=by unfold dJ at hp;omega
  have aW:=@DM s.1 k (s.1.length-s.2.1) s.2.1 (by unfold dJ at hp;omega)
  have yI:=h.zC (d:=s.2.1) (p:=dJ s.1 s.2.1 k)
  have aq:(bP s.1 s.2.1 (dJ s.1 s.2.1 k))[s.2.1]?.getD []=s.1[dJ s.1 s.2.1 k]?.getD []:=by
   unfold bP
   by_cases e:dJ s.1 s.2.1 k=s.2.1
   ·rw[e,gG (by simp;omega)];rfl
   ·rw[d_ e,gG dp];rfl
  have pN:((bP s.1 s.2.1 (dJ s.1 s.2.1 k))[s.2.1]?.getD [])[k]?.getD 0≠0:=by rw[aq];exact aW
  have A7:=UT yI hK pN
  intro r hr
  unfold b_ at hr
  obtain⟨i,hi,rfl⟩:=dt.1 hr
  have hi:=u9.1 hi
  rw[zD,mD]at hi
  have Fq:(eZ (bP s.1 s.2.1 (dJ s.1 s.2.1 k)) s.2.1 k)[s.2.1]?.getD []=((bP s.1 s.2.1 (dJ s.1 s.2.1 k))[s.2.1]?.getD []).map (fun x=>x/((bP s.1 s.2.1 (dJ s.1 s.2.1 k))[s.2.1]?.getD [])[k]?.getD 0):=by
   unfold eZ
   rw[gG (by rw[mD];exact dp)]
   rfl
  split
  ·rename_i hc
   have Pq:(eZ (bP s.1 s.2.1 (dJ s.1 s.2.1 k)) s.2.1 k)[i]?.getD []=(bP s.1 s.2.1 (dJ s.1 s.2.1 k))[i]?.getD []:=by
    unfold eZ
    rw[d_ (Ne.symm hc.2)]
   rw[Fq,Pq]
   exact Yns yI.at A7 hK
  ·by_cases e:i=s.2.1
   ·rw[e,Fq]
    exact fun q hq=>(A7 q hq).mono (by omega)
   ·unfold eZ
    rw[d_ (Ne.symm e)]
    exact fun q hq=>(yI.at q hq).mono (by omega)
 ·exact h.mono (by omega)
def A.b37:=A.q Tryz.f37
def A.k37:=@A.kk 37 6 [.tmp 2] A.b37 (by kernel_rfl) rfl
def Yi4{h:T O}{N:Nat}{v:V}{l:List (List aQ)}(hs:iV h N v l)(hl:l.length<100000)(hx:∀x∈l,x.length<100000/\∀s∈x,s.length<=100000):Fn A.C 37 [v] h N (fun u _ _=>u=.int .i64 (lS l 64 16)):=by
 intro w
 rw[aR,A.k37 (by simp)]
 simp[A.b37,ad]
 refine aA (Yi3 (a:=64) (b:=16) hs hl hx) ?_
 rintro _ H2 n2 k2 rfl
 simp[aE]
 exact k2
def VY{m:List (List aQ)}(h:lS m 64 16=0)(hs:pT 6 6 m=true):IC m (dS m):=by
 obtain⟨s1,s2⟩:=Zqf hs
 unfold lS at h
 split at h
 ·exact absurd h (by decide)
 split at h
 ·exact absurd h (by decide)
 rename_i h1 h2
 have hp:0<m.length:=by omega
 obtain⟨r0,iS,e0⟩:=Ytl hp
 refine⟨hp,Zou s1 (by omega),by omega,?_,fun r hr=>Zy9 (KV h _ (dt.2 ⟨r,hr,rfl⟩)) (s2 r hr)⟩
 rw[e0]
 exact Zou (VZ (s2 r0 iS)) (by omega)
def iV.one{h:T O}{N:Nat}{u:V}{m:List (List aQ)}(hm:iV h N u m):V.one u=true/\V.cells u=[u]:=by
 obtain⟨us,⟨_,rfl|rfl⟩|⟨i,o,cp,c,e,rw,rfl,_⟩,_⟩:=hm<;>exact⟨rfl,rfl⟩
set_option maxHeartbeats 4000000
set_option maxHeartbeats 2000000
def Yl1{h:T O}{N:Nat}{w:List Nat}{i o:Nat}{cp:Option Nat}{c l:List V}{e:TypeId}{rw:Bool}(h3:h.get i=some (.cells c e rw))(h4:∀j,j<l.length->c[o+j]?=l[j]?)(h5:o+l.length<=c.length):eL ⟨h,N,w⟩ 1 (.slice i o l.length cp 1)=some (l.length,l):=by
 have:aF c o (l.length*1)=some l:=by
  unfold aF
  rw[av (by omega),yZ]
  congr 1
  apply lA
  intro j
  by_cases hj:j<l.length
  ·rw[iz,av hj,ff];exact h4 j hj
  ·rw[eJ (by simp;omega),eJ (by omega)]
 simp only[eL,if_true,St.row,h3,this]
end
end Go.Mx
