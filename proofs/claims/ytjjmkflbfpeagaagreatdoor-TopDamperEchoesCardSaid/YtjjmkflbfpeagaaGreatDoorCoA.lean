/-num-/
import Derived.Test.YtjjmkflbfpeagaaGreatDoorNdC
set_option linter.all false
namespace Go.Mx
noncomputable section
open Go Go.Proofs
set_option maxRecDepth 1000000
def A.b82:=A.q Tryz.f82
def A.k82:=@A.kk 82 9 [.cell 2 (some 4)] A.b82 (by kernel_rfl) rfl
def A.b35:=A.q Tryz.f35
def A.k35:=@A.kk 35 9 [.cell 4 (some 4)] A.b35 (by kernel_rfl) rfl
def Mw{x:V}{q:Rat}{h:T O}{N:Nat}(hx:Fc h N x q)(l1:wl q.num<1000000000):Fn A.C 82 [x] h N (fun v h' n'=>Fc h' n' v (-q)):=by
 intro w
 rw[aQ,A.k82 (by simp)]
 obtain⟨n1,u1,n2,u2,rfl,s1,s2⟩:=hx
 have o1:=cP s1
 have o2:=cP s2
 unfold V.one at o1 o2
 have kB:ad h N ((h.set N (.cells [.int .i64 n1,u1,.int .i64 n2,u2] 72 true)).set (N+1) (.cells [.int .i64 0,.aa,.int .i64 0,.aa] 72 true)) (N+2):=aG (aG ad.refl _) _
 simp[A.b82,aL,aM,o1,o2]
 generalize fV:(h.set N (.cells [.int .i64 n1,u1,.int .i64 n2,u2] 72 true)).set (N+1) (.cells [.int .i64 0,.aa,.int .i64 0,.aa] 72 true)=hB at*
 have b1:hB.get N=some (.cells [.int .i64 n1,u1,.int .i64 n2,u2] 72 true):=by rw[<-fV];simp
 have b3:hB.get (N+1)=some (.cells [.int .i64 0,.aa,.int .i64 0,.aa] 72 true):=by rw[<-fV];simp
 refine au (FZ (s1.ae kB) (by omega)) ?_
 rintro v5 h1 m1 k1 q1
 obtain⟨n3,u3,rfl⟩:∃n3 u3,v5=.agg [.int .i64 n3,u3]:=by
  rcases q1 with⟨rfl,_⟩|⟨_,_,_,_,rfl,_⟩<;>exact⟨_,_,rfl⟩
 have o3:=cP q1
 unfold V.one at o3
 have eS:=k1.le
 have f1:=(k1.get N (by omega)).trans b1
 have f3:=(k1.get (N+1) (by omega)).trans b3
 have e1:N<m1:=by omega
 have e2:N+1<m1:=by omega
 simp[f1,f3,e1,e2,aL,aM,ag,bS,o2,o3,cD.cG,aA]
 have kk:=kB.trans k1
 exact⟨kk.set (by omega),n3,u3,n2,u2,rfl,by rw[Rat.neg_num];exact q1.aC (i:=N+1) f3 ki rfl,by rw[Rat.neg_den];exact((s2.ae kB).ae k1).aC (i:=N+1) f3 ki rfl⟩
def My{x y:V}{p q:Rat}{h:T O}{N:Nat}(hx:Fc h N x p)(hy:Fc h N y q)(l1:wl p.num<1000000000)(l2:wl (p.den:Nat)<1000000000)(l3:wl q.num<1000000000)(l4:wl (q.den:Nat)<1000000000):Fn A.C 35 [x,y] h N (fun v h' n'=>Fc h' n' v (p-q)):=by
 intro w
 rw[aQ,A.k35 (by simp)]
 have oR:=hx
 have tR:=hy
 obtain⟨n1,u1,n2,u2,rfl,s1,s2⟩:=hx
 obtain⟨n3,u3,n4,u4,rfl,s3,s4⟩:=hy
 have o1:=cP s1
 have o2:=cP s2
 have o3:=cP s3
 have o4:=cP s4
 unfold V.one at o1 o2 o3 o4
 have kB:ad h N (((h.set N (.cells [.int .i64 n1,u1,.int .i64 n2,u2] 72 true)).set (N+1) (.cells [.int .i64 n3,u3,.int .i64 n4,u4] 72 true)).set (N+2) (.cells [.int .i64 0,.aa,.int .i64 0,.aa] 72 true)) (N+3):=aG (aG (aG ad.refl _) _) _
 simp[A.b35,aL,aM,o1,o2,o3,o4]
 generalize fV:((h.set N (.cells [.int .i64 n1,u1,.int .i64 n2,u2] 72 true)).set (N+1) (.cells [.int .i64 n3,u3,.int .i64 n4,u4] 72 true)).set (N+2) (.cells [.int .i64 0,.aa,.int .i64 0,.aa] 72 true)=hB at*
 have b1:hB.get N=some (.cells [.int .i64 n1,u1,.int .i64 n2,u2] 72 true):=by rw[<-fV];simp
 have b2:hB.get (N+1)=some (.cells [.int .i64 n3,u3,.int .i64 n4,u4] 72 true):=by rw[<-fV];simp
 have b3:hB.get (N+2)=some (.cells [.int .i64 0,.aa,.int .i64 0,.aa] 72 true):=by rw[<-fV];simp
 refine au (Mw (tR.ae kB) l3) ?_
 rintro v5 h1 m1 k1 q1
 have eS:=k1.le
 have f1:=(k1.get N (by omega)).trans b1
 have f2:=(k1.get (N+1) (by omega)).trans b2
 have f3:=(k1.get (N+2) (by omega)).trans b3
 have e1:N<m1:=by omega
 have e2:N+1<m1:=by omega
 simp
 refine au (HN ((oR.ae kB).ae k1) q1 l1 l2 (by rw[Rat.neg_num,HO];exact l3) (by rw[Rat.neg_den];exact l4)) ?_
 rintro v7 h3 m3 k3 hv
 rw[<-Rat.sub_eq_add_neg]at hv
 obtain⟨n5,u5,n6,u6,rfl,t1,t2⟩:=hv
 have o5:=cP t1
 have o6:=cP t2
 unfold V.one at o5 o6
 have mm:=k3.le
 have f5:=(k3.get (N+2) (by omega)).trans f3
 have e3:N+2<m3:=by omega
 simp[f5,e3,aL,aM,ag,bS,o5,o6,cD.cG,aA]
 have kk:=(kB.trans k1).trans k3
 exact⟨kk.set (by omega),n5,u5,n6,u6,rfl,t1.aC (i:=N+2) f5 ki rfl,t2.aC (i:=N+2) f5 ki rfl⟩
def Qb.iF{q:Rat}{k:Nat}(h:Qb k q):wl q.num<=k/\wl (q.den:Nat)<=k:=⟨Mz h.1,Mz (z:=(q.den:Int)) (k:=k) (by rw[ed];exact h.2)⟩
def A.b133:=A.q Tryz.f133
def A.k133:=@A.kk 133 8 [.cell 2 (some 4)] A.b133 (by kernel_rfl) rfl
def A.b78:=A.q Tryz.f78
def A.k78:=@A.kk 78 9 [.cell 4 (some 4)] A.b78 (by kernel_rfl) rfl
def Yk9{x:V}{q:Rat}{h:T O}{N:Nat}(hx:Fc h N x q)(h0:q≠0)(l1:wl q.num<1000000000)(l2:wl (q.den:Nat)<1000000000):Fn A.C 133 [x] h N (fun v h' n'=>Fc h' n' v q⁻¹):=by
 intro w
 rw[aQ,A.k133 (by simp)]
 obtain⟨n1,u1,n2,u2,rfl,s1,s2⟩:=hx
 have o1:=cP s1
 have o2:=cP s2
 unfold V.one at o1 o2
 have kB:ad h N ((h.set N (.cells [.int .i64 n1,u1,.int .i64 n2,u2] 72 true)).set (N+1) (.cells [.int .i64 0,.aa,.int .i64 0,.aa] 72 true)) (N+2):=aG (aG ad.refl _) _
 simp[A.b133,aL,aM,o1,o2]
 generalize fV:(h.set N (.cells [.int .i64 n1,u1,.int .i64 n2,u2] 72 true)).set (N+1) (.cells [.int .i64 0,.aa,.int .i64 0,.aa] 72 true)=hB at*
 have b3:hB.get (N+1)=some (.cells [.int .i64 0,.aa,.int .i64 0,.aa] 72 true):=by rw[<-fV];simp
 have hn:q.num≠0:=fun hc=>h0 (HP.1 hc)
 refine au (Qw (s2.ae kB) (s1.ae kB) hn (by omega) (by omega)) ?_
 rintro v7 h3 m3 k3 hv
 rw[<-inv_divInt]at hv
 obtain⟨n5,u5,n6,u6,rfl,t1,t2⟩:=hv
 have o5:=cP t1
 have o6:=cP t2
 unfold V.one at o5 o6
 have mm:=k3.le
 have f5:=(k3.get (N+1) (by omega)).trans b3
 have e3:N+1<m3:=by omega
 simp[f5,aL,aM,ag,bS,o5,o6,aA]
 have kk:=kB.trans k3
 exact⟨kk.set (by omega),n5,u5,n6,u6,rfl,t1.aC (i:=N+1) f5 ki rfl,t2.aC (i:=N+1) f5 ki rfl⟩
def Ylb{x y:V}{p q:Rat}{h:T O}{N:Nat}(hx:Fc h N x p)(hy:Fc h N y q)(h0:q≠0)(l1:wl p.num<1000000000)(l2:wl (p.den:Nat)<1000000000)(l3:wl q.num<1000000000)(l4:wl (q.den:Nat)<1000000000)(l5:wl q⁻¹.num<1000000000)(l6:wl (q⁻¹.den:Nat)<1000000000):Fn A.C 78 [x,y] h N (fun v h' n'=>Fc h' n' v (p/q)):=by
 intro w
 rw[aQ,A.k78 (by simp)]
 have oR:=hx
 have tR:=hy
 obtain⟨n1,u1,n2,u2,rfl,s1,s2⟩:=hx
 obtain⟨n3,u3,n4,u4,rfl,s3,s4⟩:=hy
 have o1:=cP s1
 have o2:=cP s2
 have o3:=cP s3
 have o4:=cP s4
 unfold V.one at o1 o2 o3 o4
 have kB:ad h N (((h.set N (.cells [.int .i64 n1,u1,.int .i64 n2,u2] 72 true)).set (N+1) (.cells [.int .i64 n3,u3,.int .i64 n4,u4] 72 true)).set (N+2) (.cells [.int .i64 0,.aa,.int .i64 0,.aa] 72 true)) (N+3):=aG (aG (aG ad.refl _) _) _
 simp[A.b78,aL,aM,o1,o2,o3,o4]
 generalize fV:((h.set N (.cells [.int .i64 n1,u1,.int .i64 n2,u2] 72 true)).set (N+1) (.cells [.int .i64 n3,u3,.int .i64 n4,u4] 72 true)).set (N+2) (.cells [.int .i64 0,.aa,.int .i64 0,.aa] 72 true)=hB at*
 have b1:hB.get N=some (.cells [.int .i64 n1,u1,.int .i64 n2,u2] 72 true):=by rw[<-fV];simp
 have b2:hB.get (N+1)=some (.cells [.int .i64 n3,u3,.int .i64 n4,u4] 72 true):=by rw[<-fV];simp
 have b3:hB.get (N+2)=some (.cells [.int .i64 0,.aa,.int .i64 0,.aa] 72 true):=by rw[<-fV];simp
 refine au (Yk9 (tR.ae kB) h0 l3 l4) ?_
 rintro v5 h1 m1 k1 q1
 have eS:=k1.le
 have f1:=(k1.get N (by omega)).trans b1
 have f2:=(k1.get (N+1) (by omega)).trans b2
 have f3:=(k1.get (N+2) (by omega)).trans b3
 have e1:N<m1:=by omega
 have e2:N+1<m1:=by omega
 simp
 refine au (HQ ((oR.ae kB).ae k1) q1 l1 l2 l5 l6) ?_
 rintro v7 h3 m3 k3 hv
 rw[<-Rat.div_def]at hv
 obtain⟨n5,u5,n6,u6,rfl,t1,t2⟩:=hv
 have o5:=cP t1
 have o6:=cP t2
 unfold V.one at o5 o6
 have mm:=k3.le
 have f5:=(k3.get (N+2) (by omega)).trans f3
 have e3:N+2<m3:=by omega
 simp[f5,e3,aL,aM,ag,bS,o5,o6,cD.cG,aA]
 have kk:=(kB.trans k1).trans k3
 exact⟨kk.set (by omega),n5,u5,n6,u6,rfl,t1.aC (i:=N+2) f5 ki rfl,t2.aC (i:=N+2) f5 ki rfl⟩
def A.b64:=A.q Tryz.f64
def A.k64:=@A.kk 64 14 [.tmp 2] A.b64 (by kernel_rfl) rfl
def A.WM:=A.q Tryz.f46
def A.oS:=A.ql A.WM 0 []
def A.b46:=(fun x0=>A.qb A.WM [x0]) A.oS
def A.k46:=@A.kk 46 19 [.tmp 2] A.b46 (by kernel_rfl) rfl
def A.b48:=A.q Tryz.f48
def A.k48:=@A.kk 48 15 [.tmp 6] A.b48 (by kernel_rfl) rfl
def A.b47:=A.q Tryz.f47
def A.k47:=@A.kk 47 12 [.tmp 2] A.b47 (by kernel_rfl) rfl
def Ac{q:Rat}:cY q.num<0↔q<0:=by
 have:q<0↔q.num<0:=by
  rw[Rat.lt_iff];simp
 rw[this];unfold cY;split
 ·simp[*]
 ·split<;>simp[*]<;>omega
def iG(s:aU):Int:=if aN s=0 then (if bu s<0 then 3 else 0) else (aN s:Nat)
def yV{q:Rat}{k:Nat}(hq:Qb k q)(hk:k<=90000){h:T O}{N:Nat}:Fn A.C 66 [.str (av q)] h N (fun v h' n'=>Fc h' n' v q):=
 WN (by have:=Ad hq.1;omega) (by
  have:=Ad (z:=(q.den:Int)) (k:=k) (by simpa using hq.2)
  unfold aK at this;rw[aq (by omega)]at this;simp at this;omega)
def MA{s:aU}{n:Nat}(hl:s.length<=n)(hn:n<=20000){h:T O}{N:Nat}:Fn A.C 64 [.str s] h N (fun u _ _=>u=.int .i64 (iG s)):=by
 intro w
 rw[aQ,A.k64 (by simp)]
 simp(disch:=first|(simp;done)|omega|rfl) [-getElem?_pos,A.b64]
 refine au (Qx (by omega)) ?_
 rintro _ h1 n1 k1 rfl
 by_cases c:aN s=0
 ·have hq:=F0 c hl
  have e:=(q8 c).1
  have c':=c
  unfold iG
  rw[aJ c]
  generalize bu s=q at*
  subst e
  simp(disch:=first|(simp;done)|omega|rfl) [-getElem?_pos,c',aW]
  refine au (yV hq (by omega)) ?_
  rintro v h2 n2 k2 hv
  simp(disch:=first|(simp;done)|omega|rfl) [-getElem?_pos,]
  refine au (WO hv) ?_
  rintro _ h3 n3 k3 rfl
  by_cases hz:q<0
  ·have:=Ac.2 hz
   simp(disch:=first|(simp;done)|omega|rfl) [-getElem?_pos,this,xa,aA,hz]
   exact(k1.trans k2).trans k3
  ·have:¬cY q.num<0:=fun hc=>hz (Ac.1 hc)
   simp(disch:=first|(simp;done)|omega|rfl) [-getElem?_pos,this,xa,aA,hz]
   exact(k1.trans k2).trans k3
 ·have c':¬((aN s:Nat):Int)=0:=by omega
  simp(disch:=first|(simp;done)|omega|rfl) [-getElem?_pos,c',aW,iG,c,aA]
  exact k1
def Zxh{h:T O}{N:Nat}{v:V}{l:List Int}{w:List Nat}(hs:Sl h N v (dI l))(hl:l.length<1000):A.C.call (.func 46 [] []) [v] ⟨h,N,w⟩=some (.int .i64 (cN l),⟨h,N,w⟩):=by
 apply Call.eq
 have hlen:=hs.len
 rw[f_]at hlen
 rw[aQ,A.k46 (by simp)]
 simp(disch:=first|(simp;done)|omega|rfl) [-getElem?_pos,A.b46]
 refine cX [(2,18)] (fun e r st=>st=⟨h,N,[]⟩/\((e=.exit 0/\cN l=0)\/(e=.ret/\r.get 2=some (.int .i64 (cN l))))) (fun m r st=>st=⟨h,N,[]⟩/\∃k,k+m=l.length/\r.get 3=some (.int .i64 k)/\cN l=cN (l.drop k)) l.length ?_ ?_ ?_
 ·exact⟨rfl,0,by omega,by simp,by simp⟩
 ·rintro m r _ hr hf ⟨rfl,k,hk,h7,hz⟩
  rw[cm]
  cases m with
  |zero=>
   obtain rfl:k=l.length:=by omega
   rw[vS,cN]at hz
   simp(disch:=first|(simp;done)|omega|rfl) [-getElem?_pos,A.oS,hr,hf,h7,hlen,hz]
  |succ m=>
   have aO:k<l.length:=by omega
   obtain⟨c,hc⟩:=eA aO
   obtain⟨i,o,cc,e,rw,q1,q2,q3,q4⟩:=hs.at (fU hc)
   rw[qm hc,cN]at hz
   have ew:(k:Int)<(l.length:Int):=by omega
   by_cases h0:c=0
   ·rw[aJ h0]at hz
    simp(disch:=first|(simp;done)|omega|rfl) [-getElem?_pos,A.oS,hr,hf,h7,ew,aO,hlen,q1,q3,q4,aW,h0]
    exact⟨m,by omega,k+1,by omega,by simp,hz⟩
   ·rw[aq h0]at hz
    simp(disch:=first|(simp;done)|omega|rfl) [-getElem?_pos,A.oS,hr,hf,h7,ew,aO,hlen,q1,q3,q4,aW,h0,hz]
 ·rintro _ r _ hr ⟨rfl,⟨rfl,hz⟩|⟨rfl,h2⟩⟩
  ·simp(disch:=first|(simp;done)|omega|rfl) [-getElem?_pos,hr,hz]
  ·simp(disch:=first|(simp;done)|omega|rfl) [-getElem?_pos,hr,h2]
def WQ{h:T O}{N i:Nat}{w:List Nat}{a0 a1:Int}(hi:i<N):A.C.call (.func 46 [] []) [.slice i 0 2 (some 2) 1] ⟨h.set i (.cells [.int .i64 a0,.int .i64 a1] 3 true),N,w⟩=some (.int .i64 (cN [a0,a1]),⟨h.set i (.cells [.int .i64 a0,.int .i64 a1] 3 true),N,w⟩):=
 Zxh (l:=[a0,a1]) (Sl.row (e:=3) (rw:=true) (cp:=some 2) hi (by simp[dI]) rfl (by simp)) (by simp)
def Zxg{x lo hi:Int}{st:St}:A.C.call (.func 48 [] []) [.int .i64 x,.int .i64 lo,.int .i64 hi] st=some (.int .i64 (if x<lo\/hi<x then 3 else 0),st):=by
 apply Call.eq
 rw[aQ,A.k48 (by simp)]
 by_cases h1:x<lo
 ·simp(disch:=first|(simp;done)|omega|rfl) [-getElem?_pos,A.b48,h1]
 ·by_cases h2:hi<x<;>simp(disch:=first|(simp;done)|omega|rfl) [-getElem?_pos,A.b48,h1,h2]
def Qy{s:aU}(hl:s.length<9223372036854775808){h:T O}{N:Nat}:Fn A.C 47 [.str s] h N (fun u _ _=>u=.int .i64 (iG s)):=by
 intro w
 rw[aQ,A.k47 (by simp)]
 simp(disch:=first|(simp;done)|omega|rfl) [-getElem?_pos,A.b47]
 refine au (Qz hl) ?_
 rintro _ h1 n1 k1 rfl
 by_cases c:aN s=0
 ·have e:=(q8 c).1
  have c':=c
  unfold iG
  rw[aJ c]
  generalize bu s=q at*
  subst e
  have hs:=fun st=>HR (q:=q) (st:=st)
  by_cases hz:q<0
  ·have:=Ac.2 hz
   simp(disch:=first|(simp;done)|omega|rfl) [-getElem?_pos,this,c',aW,hs,aA,hz]
   exact k1
  ·have:¬cY q.num<0:=fun hc=>hz (Ac.1 hc)
   simp(disch:=first|(simp;done)|omega|rfl) [-getElem?_pos,this,c',aW,hs,aA,hz]
   exact k1
 ·have c':¬((aN s:Nat):Int)=0:=by omega
  simp(disch:=first|(simp;done)|omega|rfl) [-getElem?_pos,c',aW,iG,c,aA]
  exact k1
variable {N:Nat} {d:Int} {g l:aU} {h:T O}
def A.b25:=A.q Tryz.f25
def A.k25:=@A.kk 25 30 [.tmp 2] A.b25 (by kernel_rfl) rfl
def A.b17:=A.q Tryz.f17
def A.k17:=@A.kk 17 27 [.tmp 2] A.b17 (by kernel_rfl) rfl
def A.b16:=A.q Tryz.f16
def A.k16:=@A.kk 16 19 [.tmp 2] A.b16 (by kernel_rfl) rfl
def A.b45:=A.q Tryz.f45
def A.k45:=@A.kk 45 9 [.tmp 4] A.b45 (by kernel_rfl) rfl
def A.b14:=A.q Tryz.f14
def A.k14:=@A.kk 14 9 [.tmp 4] A.b14 (by kernel_rfl) rfl
def CS{i:Nat}{w:List Nat}{a0 a1 a2:Int}(hi:i<N):A.C.call (.func 24 [] []) [.slice i 0 3 (some 3) 1] ⟨h.set i (.cells [.int .i64 a0,.int .i64 a1,.int .i64 a2] 29 true),N,w⟩=some (.int .i64 (cN [a0,a1,a2]),⟨h.set i (.cells [.int .i64 a0,.int .i64 a1,.int .i64 a2] 29 true),N,w⟩):=
 WR (l:=[a0,a1,a2]) (Sl.row (e:=29) (rw:=true) (cp:=some 3) hi (by simp[dI]) rfl (by simp)) (by simp)
def Yfb{a b:Rat}{j k:Nat}(ha:Qb j a)(hb:Qb k b)(hj:j<=400000000)(hk:k<=400000000)(hl:(av b).length<1000000000):Fn A.C 45 [.str (av a),.str (av b)] h N (fun u _ _=>u=.str (av (a-b))):=by
 intro w
 have hn:=fun st=>WS (q:=b) (st:=st) hl
 rw[aQ,A.k45 (by simp)]
 simp[A.b45,hn]
 refine au (Yl5 (a:=a) (b:= -b) ha hb.neg hj hk) ?_
 rintro _ H1 n1 k1 rfl
 rw[<-Rat.sub_eq_add_neg]
 simp[aA]
 exact k1
def QA{a b:Rat}{j k:Nat}(ha:Qb j a)(hb:Qb k b)(hj:j<=400000000)(hk:k<=400000000)(hl:(av b).length<1000000000):Fn A.C 14 [.str (av a),.str (av b)] h N (fun u _ _=>u=.int .i64 (cY (a-b).num)):=by
 intro w
 rw[aQ,A.k14 (by simp)]
 simp[A.b14]
 refine au (Yfb ha hb hj hk hl) ?_
 rintro _ H1 n1 k1 rfl
 have hs:=fun st=>HR (q:=a-b) (st:=st)
 simp[hs,aA]
 exact k1
def WT{z:Int}:cY z > 0↔0<z:=by
 unfold cY;split
 ·constructor<;>intro<;>omega
 ·split<;>constructor<;>intro<;>omega
def WU{q:Rat}:0<q.num↔0<q:=by rw[Rat.lt_iff (a:=0)];simp
def QC:av 1=[49]:=by decide+kernel
def kj(g l p:aU)(d:Int):Int:=if cN [iG g,iG l]=0 then (if 1<bu l then 3 else cN [iG p,if d<0\/6<d then 3 else 0]) else cN [iG g,iG l]
def CT{a b:Int}(h:cN [a,b]=0):a=0/\b=0:=by
 unfold cN at h
 split at h
 ·rename_i ha;unfold cN at h;split at h
  ·exact⟨ha,by assumption⟩
  ·omega
 ·omega
def xb{s:aU}(h:iG s=0):aN s=0/\¬bu s<0:=by
 unfold iG at h
 split at h
 ·rename_i c;split at h
  ·omega
  ·exact⟨c,by assumption⟩
 ·omega
def WV{p:aU}{n:Nat}(hg:g.length<=n)(hl:l.length<=n)(hp:p.length<=n)(hn:n<=20000){h:T O}{N:Nat}:Fn A.C 25 [.agg [.str g,.str l,.str p,.int .i64 d]] h N (fun u _ _=>u=.int .i64 (kj g l p d)):=by
 intro w
 rw[aQ,A.k25 (by simp)]
 have kB:=aG (ad.refl (h:=h) (n:=N)) (.cells [.str g,.str l,.str p,.int .i64 d] 24 true)
 simp(disch:=first|(simp;done)|omega|rfl) [-getElem?_pos,A.b25]
 have b0:(h.set N (.cells [.str g,.str l,.str p,.int .i64 d] 24 true)).get N=some (.cells [.str g,.str l,.str p,.int .i64 d] 24 true):=by simp
 generalize h.set N (.cells [.str g,.str l,.str p,.int .i64 d] 24 true)=hB at*
 refine au (MA hg hn) ?_
 rintro _ h1 n1 k1 rfl
 have e1:=k1.le
 have f1:=(k1.get N (by omega)).trans b0
 have g1:N<n1:=by omega
 simp(disch:=first|(simp;done)|omega|rfl) [-getElem?_pos,f1,g1]
 refine au (MA hl hn) ?_
 rintro _ h2 n2 k2 rfl
 have e2:=k2.le
 have f2:=(k2.get N (by omega)).trans f1
 have g2:N<n2:=by omega
 have hi:n2<n2+1:=by omega
 have kC:=((kB.trans k1).trans k2).trans (aG (ad.refl (h:=h2) (n:=n2)) (.cells [.int .i64 (iG g),.int .i64 (iG l)] 29 true))
 simp(disch:=first|(simp;done)|omega|rfl) [-getElem?_pos,f2,g2,ag,cD.cG,WX hi]
 by_cases c:cN [iG g,iG l]=0
 ·have c0:=CT c
  obtain⟨q0,q1⟩:=xb c0.2
  have hq:=F0 q0 hl
  have e:=(q8 q0).1
  have f3:(h2.set n2 (.cells [.int .i64 (iG g),.int .i64 (iG l)] 29 true)).get N=some (.cells [.str g,.str l,.str p,.int .i64 d] 24 true):=by
   rw[T.ai,aq (by omega)];exact f2
  generalize h2.set n2 (.cells [.int .i64 (iG g),.int .i64 (iG l)] 29 true)=h3 at*
  have e3:=kC.le
  have g3:N<n2+1:=by omega
  simp(disch:=first|(simp;done)|omega|rfl) [-getElem?_pos,c,aW,f3,g3]
  unfold kj
  rw[aJ c]
  generalize bu l=q at*
  subst e
  refine au (yV hq (by omega)) ?_
  rintro v4 h4 n4 k4 CU
  simp(disch:=first|(simp;done)|omega|rfl) [-getElem?_pos,]
  refine au (BB (z:=1) (by omega) (by omega)) ?_
  rintro v5 h5 n5 k5 MB
  have wq:=hq.iF
  have w1:=(Qb.int (z:=1) (k:=1) (by decide) (by decide)).iF
  simp(disch:=first|(simp;done)|omega|rfl) [-getElem?_pos,]
  refine au (WY (CU.ae k5) MB (by omega) (by omega) (by omega) (by omega)) ?_
  rintro _ h6 n6 k6 rfl
  have ec:(cY (q.num*(((1:Int):Rat).den:Nat)-((1:Int):Rat).num*(q.den:Nat)) > 0)↔1<q:=by
   have h1:1<q↔((1:Int):Rat).num*(q.den:Nat)<q.num*(((1:Int):Rat).den:Nat):=by
    rw[Rat.lt_iff];rfl
   rw[h1];unfold cY;split
   ·constructor<;>intro<;>omega
   ·split<;>constructor<;>intro<;>omega
  generalize cY (q.num*(((1:Int):Rat).den:Nat)-((1:Int):Rat).num*(q.den:Nat))=cz at*
  have kD:=((kC.trans k4).trans k5).trans k6
  have e4:=k4.le
  have e5:=k5.le
  have e6:=k6.le
  have f6:=(((k4.trans k5).trans k6).get N (by omega)).trans f3
  have g6:N<n6:=by omega
  have hi6:=fun (m:Nat)=>q9 m
  by_cases cc:1<q
  ·have xc:0<cz:=ec.2 cc
   simp(disch:=first|(simp;done)|omega|rfl) [-getElem?_pos,f6,g6,xc,xa]
   refine au (MA hp hn) ?_
   rintro _ h7 n7 k7 rfl
   have e7:=k7.le
   have f7:=(k7.get N (by omega)).trans f6
   have g7:N<n7:=by omega
   have BC:n7<n7+1:=by omega
   simp(disch:=first|(simp;done)|omega|rfl) [-getElem?_pos,f7,g7,QD,ag,cD.cG,CS BC,aA,cc,cN]
   exact(kD.trans k7).trans (aG (ad.refl) _)
  ·have xc:¬0<cz:=fun h=>cc (ec.1 h)
   simp(disch:=first|(simp;done)|omega|rfl) [-getElem?_pos,f6,g6,xc,xa]
   refine au (MA hp hn) ?_
   rintro _ h7 n7 k7 rfl
   have e7:=k7.le
   have f7:=(k7.get N (by omega)).trans f6
   have g7:N<n7:=by omega
   have BC:n7<n7+1:=by omega
   simp(disch:=first|(simp;done)|omega|rfl) [-getElem?_pos,f7,g7,QD,ag,cD.cG,CS BC,aA,cc]
   exact⟨(kD.trans k7).trans (aG (ad.refl) _),by simp[cN]⟩
 ·simp(disch:=first|(simp;done)|omega|rfl) [-getElem?_pos,c,aW,kj,aA]
  exact kC
def Yjq{p:aU}(hg:g.length<100000)(hl:l.length<100000)(hp:p.length<100000){h:T O}{N:Nat}:Fn A.C 17 [.agg [.str g,.str l,.str p,.int .i64 d]] h N (fun u _ _=>u=.int .i64 (kj g l p d)):=by
 intro w
 rw[aQ,A.k17 (by simp)]
 have kB:=aG (ad.refl (h:=h) (n:=N)) (.cells [.str g,.str l,.str p,.int .i64 d] 25 true)
 simp(disch:=first|(simp;done)|omega|rfl) [-getElem?_pos,A.b17]
 have b0:(h.set N (.cells [.str g,.str l,.str p,.int .i64 d] 25 true)).get N=some (.cells [.str g,.str l,.str p,.int .i64 d] 25 true):=by simp
 generalize h.set N (.cells [.str g,.str l,.str p,.int .i64 d] 25 true)=hB at*
 refine au (Qy (by omega)) ?_
 rintro _ h1 n1 k1 rfl
 have e1:=k1.le
 have f1:=(k1.get N (by omega)).trans b0
 have g1:N<n1:=by omega
 simp(disch:=first|(simp;done)|omega|rfl) [-getElem?_pos,f1,g1]
 refine au (Qy (by omega)) ?_
 rintro _ h2 n2 k2 rfl
 have e2:=k2.le
 have f2:=(k2.get N (by omega)).trans f1
 have g2:N<n2:=by omega
 have hi:n2<n2+1:=by omega
 have kC:=((kB.trans k1).trans k2).trans (aG (ad.refl (h:=h2) (n:=n2)) (.cells [.int .i64 (iG g),.int .i64 (iG l)] 3 true))
 simp(disch:=first|(simp;done)|omega|rfl) [-getElem?_pos,f2,g2,ag,cD.cG,WQ hi]
 by_cases c:cN [iG g,iG l]=0
 ·have c0:=CT c
  obtain⟨q0,q1⟩:=xb c0.2
  have hq:=F0 q0 (aR _)
  have e:=(q8 q0).1
  have f3:(h2.set n2 (.cells [.int .i64 (iG g),.int .i64 (iG l)] 3 true)).get N=some (.cells [.str g,.str l,.str p,.int .i64 d] 25 true):=by
   rw[T.ai,aq (by omega)];exact f2
  generalize h2.set n2 (.cells [.int .i64 (iG g),.int .i64 (iG l)] 3 true)=h3 at*
  have e3:=kC.le
  have g3:N<n2+1:=by omega
  simp(disch:=first|(simp;done)|omega|rfl) [-getElem?_pos,c,aW,f3,g3]
  unfold kj
  rw[aJ c]
  generalize bu l=q at*
  subst e
  have hc:=QA (a:=q) (b:=1) (k:=1) (h:=h3) (N:=n2+1) hq (by unfold Qb;decide) (by have:=hl;have:=Ad hq.1;omega) (by decide) (by rw[QC];decide)
  rw[QC]at hc
  refine au hc ?_
  rintro _ h6 n6 k6 rfl
  have e6:=k6.le
  have f6:=(k6.get N (by omega)).trans f3
  have g6:N<n6:=by omega
  by_cases cc:1<q
  ·have xc:0<cY (q-1).num:=WT.2 (WU.2 (by have:=cc;rw[Rat.sub_eq_add_neg];rw[Rat.lt_iff_sub_pos]at this;simpa[Rat.sub_eq_add_neg]using this))
   simp(disch:=first|(simp;done)|omega|rfl) [-getElem?_pos,f6,g6,xc,aA,cc]
   exact kC.trans k6
  ·have xc:¬0<cY (q-1).num:=fun h=>cc (by have:=WU.1 (WT.1 h);rw[Rat.lt_iff_sub_pos];exact this)
   simp(disch:=first|(simp;done)|omega|rfl) [-getElem?_pos,f6,g6,xc]
   refine au (Qy (by omega)) ?_
   rintro _ h7 n7 k7 rfl
   have e7:=k7.le
   have f7:=(k7.get N (by omega)).trans f6
   have g7:N<n7:=by omega
   have BC:n7<n7+1:=by omega
   simp(disch:=first|(simp;done)|omega|rfl) [-getElem?_pos,f7,g7,Zxg,ag,cD.cG,WQ BC,aA,cc]
   exact(((kC.trans k6)).trans k7).trans (aG (ad.refl) _)
 ·simp(disch:=first|(simp;done)|omega|rfl) [-getElem?_pos,c,aW,kj,aA]
  exact kC
def WZ{p:aU}(hg:g.length<9223372036854775808)(hl:l.length<9223372036854775808)(hp:p.length<9223372036854775808):Fn A.C 16 [.agg [.str g,.str l,.str p,.int .i64 d]] h N (fun u _ _=>u=.bool (decide (g.length<=40/\l.length<=40/\p.length<=40))):=by
 intro w
 rw[aQ,A.k16 (by simp)]
 by_cases c1:g.length<=40
 ·have d1:(g.length:Int)<=40:=by omega
  by_cases c2:l.length<=40
  ·have d2:(l.length:Int)<=40:=by omega
   by_cases c3:p.length<=40
   ·have d3:(p.length:Int)<=40:=by omega
    simp(disch:=first|(simp;done)|omega|rfl) [-getElem?_pos,A.b16,d1,d2,d3,c1,c2,c3,aA]
    exact aG (ad.refl) _
   ·have d3:¬(p.length:Int)<=40:=by omega
    simp(disch:=first|(simp;done)|omega|rfl) [-getElem?_pos,A.b16,d1,d2,d3,c1,c2,c3,aA]
    exact aG (ad.refl) _
  ·have d2:¬(l.length:Int)<=40:=by omega
   simp(disch:=first|(simp;done)|omega|rfl) [-getElem?_pos,A.b16,d1,d2,c1,c2,aA]
   exact aG (ad.refl) _
 ·have d1:¬(g.length:Int)<=40:=by omega
  simp(disch:=first|(simp;done)|omega|rfl) [-getElem?_pos,A.b16,d1,c1,aA]
  exact aG (ad.refl) _
variable {N R:Nat} {h:T O} {l:List Rat}
def Zs0{cs:List (List V)}{c B:List V}{j:Nat}(h4:∀x∈cs,x.length=4)(hj:j<cs.length)(hc:c.length=4):ag (cs.flatten++B) (j*4) c=(cs.set j c).flatten++B:=by
 obtain⟨x,hx⟩:=eA hj
 have e:cs=cs.take j++x::cs.drop (j+1):=by
  have:=yW j cs
  rw[qm hx]at this
  exact this.symm
 have hl:(cs.take j).flatten.length=j*4:=by
  rw[u9 (z:=4) (fun y hy=>h4 y (Ae hy)),jH,nU (by omega)]
 have hs:cs.set j c=cs.take j++c::cs.drop (j+1):=by rw[List.set_eq_take_append_cons_drop,aJ hj]
 rw[hs]
 conv=>lhs;rw[e]
 simp only[List.flatten_append,List.flatten_cons,qs]
 rw[MC hl (h4 x (fW hx)) hc]
structure jA (h:T O) (N R:Nat) (l:List Rat) (m:Nat):Prop where
 lt:R<N
 ex:∃cs:List (List V),h.get R=some (.cells (cs.flatten++df zF m) 72 true)/\cs.length=l.length/\∀(j:Nat) (q:Rat),l[j]?=some q->∃c,cs[j]?=some c/\dX h N c q
def jA.ae{h':T O}{N' m:Nat}(s:jA h N R l m)(k:ad h N h' N'):jA h' N' R l m:=by
 obtain⟨cs,g1,g2,g3⟩:=s.ex
 refine⟨ic s.lt k.le,cs,(k.get R s.lt).trans g1,g2,fun j q hq=>?_⟩
 obtain⟨c,a,b⟩:=g3 j q hq
 exact⟨c,a,b.ae k⟩
def jA.HS{cs:List (List V)}(g2:cs.length=l.length)(g3:∀(j:Nat) (q:Rat),l[j]?=some q->∃c,cs[j]?=some c/\dX h N c q):(∀c∈cs,c.length=4)/\q_ cs.flatten/\cs.flatten.all V.one=true:=QE (l:=l) (by omega) fun j q _ hq=>g3 j q hq
def jA.next{m:Nat}{c:List V}{q:Rat}(s:jA h N R l (m+1))(hc:dX h N c q):∃X,h.get R=some (.cells X 72 true)/\l.length*4+4<=X.length/\jA (h.set R (.cells (ag X (l.length*4) c) 72 true)) N R (l++[q]) m:=by
 obtain⟨cs,g1,g2,g3⟩:=s.ex
 obtain⟨f1,f2,_⟩:=jA.HS g2 g3
 have nW:=u9 f1
 obtain⟨e1,_⟩:=hc.len
 have iP:ag (cs.flatten++df zF (m+1)) (l.length*4) c=(cs++[c]).flatten++df zF m:=by
  rw[F3,MC (n:=4) (by rw[nW,g2]) rfl e1,MD,qs]
 have BD:q_ (cs.flatten++df zF (m+1)):=f2.app HT
 have xd:((cs++[c]).flatten++df zF m).length=(cs.flatten++df zF (m+1)).length:=by
  rw[F3,MD];simp[e1,zF];omega
 refine⟨_,g1,by rw[iy,nW,g2,W8];omega,s.lt,cs++[c],by rw[T.ai,aJ rfl,iP],by simp[g2],fun j r hr=>?_⟩
 rw[iP]
 by_cases e:j<l.length
 ·rw[nj e]at hr
  obtain⟨x,a,b⟩:=g3 j r hr
  exact⟨x,by rw[nj (by omega)];exact a,b.aC g1 BD xd⟩
 ·have hj:j=l.length:=by have:=uZ hr;simp at this;omega
  subst hj
  rw[qu (aR _)]at hr
  simp at hr
  subst hr
  exact⟨c,by rw[qu (by omega),g2];simp,hc.aC g1 BD xd⟩
def jA.put{j:Nat}{c:List V}{q:Rat}(s:jA h N R l 0)(hc:dX h N c q)(hj:j<l.length):∃X,h.get R=some (.cells X 72 true)/\j*4+4<=X.length/\jA (h.set R (.cells (ag X (j*4) c) 72 true)) N R (l.set j q) 0:=by
 obtain⟨cs,g1,g2,g3⟩:=s.ex
 obtain⟨f1,f2,_⟩:=jA.HS g2 g3
 have nW:=u9 f1
 obtain⟨e1,_⟩:=hc.len
 have iP:ag (cs.flatten++df zF 0) (j*4) c=(cs.set j c).flatten++df zF 0:=Zs0 f1 (by omega) e1
 have BD:q_ (cs.flatten++df zF 0):=f2.app HT
 have xd:((cs.set j c).flatten++df zF 0).length=(cs.flatten++df zF 0).length:=by
  rw[iy,iy,nW,u9 (z:=4) fun x hx=>?_,CV]
  rcases BE hx with hx|rfl
  ·exact f1 x hx
  ·exact e1
 refine⟨_,g1,by rw[iy,nW];omega,s.lt,cs.set j c,by rw[T.ai,aJ rfl,iP],by simp[g2],fun i r hr=>?_⟩
 rw[iP]
 by_cases e:i=j
 ·subst e
  rw[nF hj]at hr
  simp only[ak]at hr
  subst hr
  exact⟨c,by rw[nF (by omega)],hc.aC g1 BD xd⟩
 ·rw[eB (Ne.symm e)]at hr ⊢
  obtain⟨x,a,b⟩:=g3 i r hr
  exact⟨x,a,b.aC g1 BD xd⟩
def jA.W9(s:jA h N R l 0):mq h N (.slice R 0 l.length (some l.length) 4) l:=by
 obtain⟨cs,g1,g2,g3⟩:=s.ex
 obtain⟨f1,f2,_⟩:=jA.HS g2 g3
 have hz:df zF 0=[]:=by simp[df]
 rw[hz,yX]at g1
 refine⟨⟨cs,.inr ⟨R,0,some l.length,cs.flatten,_,true,by rw[g2],s.lt,g1,fun j x hj=>by rw[vW];exact ME f1 hj,by rw[u9 f1];omega,fun k hk=>by simp at hk;omega⟩,g2,g3⟩,fun i hi=>?_⟩
 simp[eL]at hi
 subst hi
 exact⟨_,_,g1⟩
end
end Go.Mx
