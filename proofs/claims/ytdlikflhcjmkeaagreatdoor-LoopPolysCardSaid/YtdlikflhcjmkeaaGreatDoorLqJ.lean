/-lensletlaw06-/
import Derived.Test.YtdlikflhcjmkeaaGreatDoorLqH
set_option linter.all false
namespace Go.Mx
open Go Go.Proofs
variable {N:Nat} {a b:List Str} {bad:Int} {h:T O} {s:Str}
set_option maxHeartbeats 4000000
set_option maxRecDepth 1000000
noncomputable def A.b18:=A.q Tryz.f18
def A.c18:A.F 18=some ⟨7,[.tmp 4],A.b18⟩:=by kernel_rfl
def A.k18:=@A.kk 18 _ _ _ A.c18 rfl
def A.b6:Zaz:=sr [ge 6 (.mov (.const (.bool false)))]
 (.seq (sr [ge 20 (.call (fq 7) []),ge 21 (.un .not (tq 20)),mv 22 21,mh 23 0 22,gz 24 22 (.call (fq 8) [tq 23,.const (.int .i64 9),.const (.int .i64 13)]),gz 25 22 (.un .not (tq 24)),pt 26 22 25,mv 27 26,mh 28 1 27,gz 29 27 (.call (fq 8) [tq 28,.const (.int .i64 9),.const (.int .i64 13)]),gz 30 27 (.un .not (tq 29)),pt 31 27 30,mv 32 31,mh 33 2 32,gz 34 32 (.len 0 (tq 33)),gz 35 32 (.bin .gtr (.node []) false (tq 34) (kq 40)),pt 36 32 35]
 (cd 36
 (sr [ge 37 (.call (fq 7) []),mv 6 37]
 (.ret))
 (.skip)))
 (sr [mv 38 0,c1 39 9 38,mv 7 39]
 (.seq (sr [mv 40 0,c1 41 12 40,c1 42 42 41,mv 43 7,ge 44 (.bin .neq (.prim .int) false (tq 42) (tq 43))]
 (cd 44
 (sr [ge 6 (.mov (.const (.bool false)))]
 (.ret))
 (.skip)))
 (sr [mv 46 0,c1 47 12 46,mv 48 1,c1 49 12 48,c2 50 43 47 49,mv 45 50,xt 51 45 0,xt 52 45 1,mv 8 51,mv 9 52]
 (sr [mv 54 0,c1 55 12 54,mv 56 2,c2 57 44 55 56,mv 53 57,xt 58 53 0,xt 59 53 1,mv 10 58,mv 11 59]
 (sr [mv 61 0,c1 62 12 61,mv 63 2,c2 64 45 62 63,mv 60 64,xt 65 60 0,xt 66 60 1,mv 12 65,mv 13 66]
 (sr [mv 67 7,mv 68 1,c1 69 9 68,mv 70 0,ln 71 70,mv 72 1,ln 73 72,bi 74 .add 71 73,bc 75 .sub 74 2,bc 76 .gtr 75 12,ge 77 (.call (fq 18) [tq 76,.const (.int .i64 5)]),ge 78 (.bslice 3 1 3 [.int .i64 0,.int .i64 0,.int .i64 0] [(0,1,(tq 67)),(1,1,(tq 69)),(2,1,(tq 77))]),c1 79 16 78,mv 14 79]
 (sr [mv 80 7,mv 81 2,c1 82 46 81,ge 83 (.bslice 3 1 2 [.int .i64 0,.int .i64 0] [(0,1,(tq 80)),(1,1,(tq 82))]),c1 84 16 83,mv 15 84]
 (sr [mv 85 15,mv 16 85]
 (sr [mN 17,mN 18]
 (sr [ge 19 (.mov (.const (.str [])))]
 (.seq (sr [mv 86 14,ei 87 86 0]
 (cd 87
 (.reg [mv 88 0,mv 89 1,c2 90 47 88 89,mv 17 90])
 (.skip)))
 (.seq (sr [mv 91 15,ei 92 91 0]
 (cd 92
 (sr [mv 93 0,mv 94 2,c2 95 48 93 94,mv 19 95]
 (.reg [mv 96 2,c1 97 49 96,ge 98 (.call (fq 18) [tq 97,.const (.int .i64 6)]),mv 16 98]))
 (.skip)))
 (.seq (sr [mv 99 16,ei 100 99 0]
 (cd 100
 (.reg [mv 101 0,mv 102 2,c2 103 50 101 102,mv 18 103])
 (.skip)))
 (sr [mv 104 8,mv 105 9,mv 106 14,mv 107 17,ge 108 (.call (fq 29) [tq 104,tq 105,tq 106,tq 107]),mv 109 108,mg 110 10 109,mg 111 11 109,mg 112 15 109,mg 113 19 109,gy 114 109 (.call (fq 23) [tq 110,tq 111,tq 112,tq 113]),pf 115 109 114,mv 116 115,mg 117 12 116,mg 118 13 116,mg 119 16 116,mg 120 18 116,gy 121 116 (.call (fq 29) [tq 117,tq 118,tq 119,tq 120]),pf 122 116 121,mv 6 122]
 (.ret))))))))))))))))
def A.c6:A.F 6=some ⟨123,[.tmp 6],A.b6⟩:=by kernel_rfl
def A.k6:=@A.kk 6 _ _ _ A.c6 rfl
def Yuf{b:Bool}{e:Int}{st:St}:A.C.call (.func 18 [] []) [.bool b,.int .i64 e] st=some (.int .i64 (if b=true then e else 0),st):=by
 apply Call.eq
 rw[Zab,A.k18 (by simp)]
 cases b<;>simp(disch:=first|(simp;done)|omega|rfl) [-getElem?_pos,A.b18]
def Yvn{i:Nat}{w:List Nat}{a0 a1 a2:Int}(hi:i<N):A.C.call (.func 16 [] []) [.slice i 0 3 (some 3) 1] ⟨h.set i (.cells [.int .i64 a0,.int .i64 a1,.int .i64 a2] 3 true),N,w⟩=some (.int .i64 (Zau [a0,a1,a2]),⟨h.set i (.cells [.int .i64 a0,.int .i64 a1,.int .i64 a2] 3 true),N,w⟩):=
 Zwd (l:=[a0,a1,a2]) (Sl.row (e:=3) (rw:=true) (cp:=some 3) hi (by simp[dI]) rfl (by simp)) (by simp)
def Yt8{h0:T O}{n0:Nat}{m v:V}{e:V}{l:List Rat}{w:List Nat}(hx:Ywc h0 n0 (.tup [m,e]) bad l)(kk:Keeps h0 n0 h N)(hv:bad=0→Tx h N v l)(hl:l.length<100000)(hq:bad=0→∀q∈l,(Zaq q).length<1000000000):A.C.call (.func 29 [] []) [m,e,.int .i64 bad,v] ⟨h,N,w⟩=some (.bool true,⟨h,N,w⟩):=by
 rcases hx with⟨c,hx⟩|⟨c,⟨hb,hx⟩|⟨hb,y,hx,hy⟩⟩
 ·simp only[V.tup.injEq,Yqu,and_true]at hx
  obtain⟨rfl,rfl⟩:=hx
  exact Yh0 c
 ·simp only[V.tup.injEq,Yqu,and_true]at hx
  obtain⟨rfl,rfl⟩:=hx
  subst c
  exact Yhz (hv rfl) hl (hq rfl) hb
 ·simp only[V.tup.injEq,Yqu,and_true]at hx
  obtain⟨rfl,rfl⟩:=hx
  subst c
  exact Ydv (hy.keep kk).1 (hv rfl) hl (hq rfl) hb
def Yuh{m e:V}{q:Rat}{st:St}(hx:Ywe (.tup [m,e]) bad q)(hs:bad=0→s=Zaq q)(hq:bad=0→(Zaq q).length<1000000000):A.C.call (.func 23 [] []) [m,e,.int .i64 bad,.str s] st=some (.bool true,st):=by
 rcases hx with⟨c,hx⟩|⟨c,hx⟩
 ·simp only[V.tup.injEq,Yqu,and_true]at hx
  obtain⟨rfl,rfl⟩:=hx
  exact Zzz c
 ·subst c
  rw[hs rfl]
  by_cases cb:Zrn q=true
  ·rw[Yqi cb]at hx
   simp only[V.tup.injEq,Yqu,and_true]at hx
   obtain⟨rfl,rfl⟩:=hx
   exact Yii (hq rfl) cb
  ·rw[Yqe cb]at hx
   simp only[V.tup.injEq,Yqu,and_true]at hx
   obtain⟨rfl,rfl⟩:=hx
   exact Yd9 (hq rfl) (by simpa using cb)
def Ywc.two{x:V}{l:List Rat}(s:Ywc h N x bad l):∃a b,x=.tup [a,b]:=by
 rcases s with⟨_,h⟩|⟨_,⟨_,h⟩|⟨_,y,h,_⟩⟩<;>exact⟨_,_,h⟩
def Ywe.two{x:V}{q:Rat}(s:Ywe x bad q):∃a b,x=.tup [a,b]:=by
 rcases s with⟨_,h⟩|⟨_,h⟩
 ·exact⟨_,_,h⟩
 ·split at h<;>exact⟨_,_,h⟩
def Yuv{l:List Str}(h:Yub 9 13 l=true):l.length≤15∧∀s∈l,s.length≤40:=by
 simp only[Yub,Yq1,Yrs]at h
 refine⟨?_,fun s hs=>by simpa[Yvf]using h.2 s hs⟩
 have:=h.1
 simp[Yvw]at this
 omega
def Ywb(h:Yvk a b=0):Znj a=0∧Znj b=0:=by
 unfold Yvk at h
 rw[Yut]at h
 split at h
 ·rename_i c;exact Zio c
 ·rename_i c;exact absurd h c
def Ywd(h:vaE a s=0):Znj a=0∧chkNum s=0:=by
 obtain⟨h1,h2⟩:=Zio h
 exact⟨h1,by omega⟩
def Yul:scE a s=if vaE a s=0 then (if s=[48] then 6 else 0) else vaE a s:=Yut
def Yv0(h:Yvk a b=0)(fa:∀s∈a,s.length≤40)(fb:∀s∈b,s.length≤40):∀q∈Yvv (rats a) (rats b),(Zaq q).length<1000000000:=fun q hq=>by
 obtain⟨ca,cb⟩:=Ywb h
 obtain⟨a0,a1,a2,_⟩:=Yui ca
 obtain⟨b0,b1,b2,_⟩:=Yui cb
 have lra:=@Yt6 a
 have lrb:=@Yt6 b
 have:=Zly (Yum (Yt9 a2 fa) (Yt9 b2 fb) (by omega) (Yqg _) q hq)
 have ht13:(rats a).length*(4*40+4+(4*40+4)+1)≤13*(4*40+4+(4*40+4)+1):=Yqz _ (by omega)
 omega
def Yv7(h:vaE a s=0)(fa:∀s∈a,s.length≤40)(fs:s.length≤40):(Zaq (Yuz (rats a) (ratS s))).length<1000000000:=by
 obtain⟨ca,cs⟩:=Ywd h
 obtain⟨a0,a1,a2,_⟩:=Yui ca
 have lra:=@Yt6 a
 have:=Zly (Yuk (Yt9 a2 fa) (Ze6 cs fs) (Yqg (rats a).length))
 have ht13:(rats a).length*(4*40+4+(4*40+4)+1)≤13*(4*40+4+(4*40+4)+1):=Yqz _ (by omega)
 unfold Yuz
 omega
def Yv8(h:vaE a s=0)(fa:∀s∈a,s.length≤40)(fs:s.length≤40):∀q∈Yuw (rats a) (ratS s),(Zaq q).length<1000000000:=fun q hq=>by
 obtain⟨ca,cs⟩:=Ywd h
 obtain⟨a0,a1,a2,_⟩:=Yui ca
 have lra:=@Yt6 a
 have:=Zly (Yvt (Yt9 a2 fa) (Ze6 cs fs) q hq)
 have ht13:(rats a).length*(4*40+4)≤13*(4*40+4):=Yqz _ (by omega)
 omega
def Yvo{u v:V}(hu:Sl h N u (strs a))(hv:Sl h N v (strs b))(hP:P10 h N)(la:a.length<9223372036854775808)(lb:b.length<9223372036854775808)(ls:s.length<9223372036854775808):Fn A.C 6 [u,v,.str s] h N (fun x _ _=>x=.bool true):=by
 intro w
 have hA:=fun w=>Zro (w:=w) hP
 have hS1:∀w,A.C.call (.func 8 [] []) [u,.int .i64 9,.int .i64 13] ⟨h,N,w⟩=some (.bool (Yub 9 13 a),⟨h,N,w⟩):=fun w=>Yuo (n:=9) (lim:=13) hu la (by decide)
 have hS2:∀w,A.C.call (.func 8 [] []) [v,.int .i64 9,.int .i64 13] ⟨h,N,w⟩=some (.bool (Yub 9 13 b),⟨h,N,w⟩):=fun w=>Yuo (n:=9) (lim:=13) hv lb (by decide)
 rw[Zab,A.k6 (by simp)]
 by_cases ca:Yub 9 13 a=true
 ·by_cases cb:Yub 9 13 b=true
  ·by_cases cs:s.length≤40
   ·have cs':¬40<(s.length:Int):=by omega
    obtain⟨la,fa⟩:=Yuv ca
    obtain⟨lb,fb⟩:=Yuv cb
    simp(disch:=first|(simp;done)|omega|rfl) [-getElem?_pos,A.b6,hA,hS1,hS2,ca,cb,cs']
    refine Zaa (Yvu hu (by omega) fun s hs=>by have:=fa s hs;omega) ?_
    rintro _ h1 n1 k1 rfl
    simp(disch:=first|(simp;done)|omega|rfl) [-getElem?_pos,]
    refine Zaa (Yud (hu.keep k1) (by omega)) ?_
    rintro x2 h2 n2 k2 hx2
    simp(disch:=first|(simp;done)|omega|rfl) [-getElem?_pos,]
    refine Zaa (Yuy hx2 (by omega) fun s hs=>by have:=fa s hs;omega) ?_
    rintro _ h3 n3 k3 rfl
    have K3:=(k1.trans k2).trans k3
    simp(disch:=first|(simp;done)|omega|rfl) [-getElem?_pos,Zak]
    refine Zaa (Yud (hu.keep K3) (by omega)) ?_
    rintro x4 h4 n4 k4 hx4
    simp(disch:=first|(simp;done)|omega|rfl) [-getElem?_pos,]
    refine Zaa (Yud ((hv.keep K3).keep k4) (by omega)) ?_
    rintro x5 h5 n5 k5 hx5
    have K5:=(K3.trans k4).trans k5
    simp(disch:=first|(simp;done)|omega|rfl) [-getElem?_pos,]
    refine Zaa (Yvz (hx4.keep k5) hx5 (hP.keep K5) (by omega) (by omega) fa fb) ?_
    rintro x6 h6 n6 k6 hx6
    obtain⟨m6,e6,rfl⟩:=hx6.two
    have K6:=K5.trans k6
    simp(disch:=first|(simp;done)|omega|rfl) [-getElem?_pos,]
    refine Zaa (Yud (hu.keep K6) (by omega)) ?_
    rintro x7 h7 n7 k7 hx7
    have K7:=K6.trans k7
    simp(disch:=first|(simp;done)|omega|rfl) [-getElem?_pos,]
    refine Zaa (Yvy hx7 (hP.keep K7) (by omega) fa cs) ?_
    rintro x8 h8 n8 k8 hx8
    obtain⟨m8,e8,rfl⟩:=hx8.two
    have K8:=K7.trans k8
    simp(disch:=first|(simp;done)|omega|rfl) [-getElem?_pos,]
    refine Zaa (Yud (hu.keep K8) (by omega)) ?_
    rintro x9 h9 n9 k9 hx9
    have K9:=K8.trans k9
    simp(disch:=first|(simp;done)|omega|rfl) [-getElem?_pos,]
    refine Zaa (Ywa hx9 (hP.keep K9) (by omega) fa cs) ?_
    rintro x10 h10 n10 k10 hx10
    obtain⟨m10,e10,rfl⟩:=hx10.two
    have K10:=K9.trans k10
    simp(disch:=first|(simp;done)|omega|rfl) [-getElem?_pos,]
    refine Zaa (Yvu (hv.keep K10) (by omega) fun s hs=>by have:=fb s hs;omega) ?_
    rintro _ h11 n11 k11 rfl
    have K11:=K10.trans k11
    have hlu:=hu.len
    rw[Zt1]at hlu
    have hlv:=hv.len
    rw[Zt1]at hlv
    have hi:n11<n11+1:=by omega
    have e14:(if (12:Int)<(a.length:Int)+(b.length:Int)-2 then (5:Int) else 0)=if 14<a.length+b.length then 5 else 0:=by
     by_cases c:14<a.length+b.length
     ·rw[Yqi c,Yqi (by omega)]
     ·rw[Yqe c,Yqe (by omega)]
    simp(disch:=first|(simp;done)|omega|rfl) [-getElem?_pos,hlu,hlv,Yuf,e14,splice,Zam.chk,Yvn hi]
    have kF:Keeps h N (h11.set n11 (.cells [.int .i64 (Znj a),.int .i64 (Znj b),.int .i64 (if 14<a.length+b.length then 5 else 0)] 3 true)) (n11+1):=K11.trans (kset Keeps.refl _)
    have kF6:Keeps h6 n6 (h11.set n11 (.cells [.int .i64 (Znj a),.int .i64 (Znj b),.int .i64 (if 14<a.length+b.length then 5 else 0)] 3 true)) (n11+1):=(((((k7.trans k8).trans k9).trans k10).trans k11)).trans (kset Keeps.refl _)
    have kF10:Keeps h10 n10 (h11.set n11 (.cells [.int .i64 (Znj a),.int .i64 (Znj b),.int .i64 (if 14<a.length+b.length then 5 else 0)] 3 true)) (n11+1):=k11.trans (kset Keeps.refl _)
    generalize h11.set n11 (.cells [.int .i64 (Znj a),.int .i64 (Znj b),.int .i64 (if 14<a.length+b.length then 5 else 0)] 3 true)=H12 at*
    refine Zaa (Yvj (by omega)) ?_
    rintro _ h13 n13 k13 rfl
    have hi13:n13<n13+1:=by omega
    simp(disch:=first|(simp;done)|omega|rfl) [-getElem?_pos,splice,Zam.chk,Zue hi13]
    have kG:=k13.trans (kset (Keeps.refl (h:=h13) (n:=n13)) (.cells [.int .i64 (Znj a),.int .i64 ((chkNum s:Nat):Int)] 3 true))
    generalize h13.set n13 (.cells [.int .i64 (Znj a),.int .i64 ((chkNum s:Nat):Int)] 3 true)=H14 at*
    have KG:=kF.trans kG
    have kG6:=kF6.trans kG
    have kG10:=kF10.trans kG
    rw[show Zau [Znj a,Znj b,if 14<a.length+b.length then 5 else 0]=Yvk a b from rfl,show Zau [Znj a,((chkNum s:Nat):Int)]=vaE a s from rfl]
    have hq1:Yvk a b=0→∀q∈Yvv (rats a) (rats b),(Zaq q).length<1000000000:=fun h=>Yv0 h fa fb
    have hq2:vaE a s=0→(Zaq (Yuz (rats a) (ratS s))).length<1000000000:=fun h=>Yv7 h fa cs
    have hq3:scE a s=0→∀q∈Yuw (rats a) (ratS s),(Zaq q).length<1000000000:=fun h=>Yv8 (by
     rw[Yul]at h;split at h
     ·assumption
     ·exact h) fa cs
    have hl1:(Yvv (rats a) (rats b)).length<100000:=by unfold Yvv;rw[Yt7,Yt6,Yt6];omega
    have hl3:(Yuw (rats a) (ratS s)).length<100000:=by rw[Yua,Yt6];omega
    by_cases c1:Yvk a b=0
    ·obtain⟨ca1,cb1⟩:=Ywb c1
     obtain⟨a0,a1,a2,_⟩:=Yui ca1
     obtain⟨b0,b1,b2,_⟩:=Yui cb1
     have lra:=@Yt6 a
     have lrb:=@Yt6 b
     have hua:Tx H14 (n13+1) u (rats a):=by
      have:=hu.keep KG
      rw[Yuc a2]at this
      exact this
     have hvb:Tx H14 (n13+1) v (rats b):=by
      have:=hv.keep KG
      rw[Yuc b2]at this
      exact this
     simp(disch:=first|(simp;done)|omega|rfl) [-getElem?_pos,c1,Zak]
     refine Zaa (Yvl hua hvb (Yt9 a2 fa) (Yt9 b2 fb) (by omega) (by omega) (by omega) (by omega)) ?_
     rintro pv H nH kH hpv
     replace hpv:Yvk a b=0→Tx H nH pv (Yvv (rats a) (rats b)):=fun _=>hpv.1
     have kk6:=kG6.trans kH
     have kk10:=kG10.trans kH
     have KH:=KG.trans kH
     clear a0 a1 a2 b0 b1 b2 lra lrb hua hvb
     rw[c1]at hx6 hq1 hpv
     by_cases c2:vaE a s=0
     ·obtain⟨ca2,cs2⟩:=Ywd c2
      obtain⟨a0,a1,a2,_⟩:=Yui ca2
      have qa:=Yt9 a2 fa
      have qs:=Ze6 cs2 cs
      have es:=(Zco cs2).1
      have hus:Tx H nH u (rats a):=by
       have:=hu.keep KH
       rw[Yuc a2]at this
       exact this
      have lra:=@Yt6 a
      have hz:s=[48]↔ratS s=0:=by
       constructor
       ·intro hc;rw[←es,←Yhh]at hc;exact Yc7 hc
       ·intro hc;rw[←es,hc,Yhh]
      have hv0:=Yvh hus qa qs (by omega)
      rw[es]at hv0
      have iz:=fun st=>Yug (q:=ratS s) (st:=st)
      rw[es]at iz
      simp(disch:=first|(simp;done)|omega|rfl) [-getElem?_pos,c2,Zak]
      rw[c2]at hx8 hq2
      refine Zaa hv0 ?_
      rintro _ H2 m2 j2 rfl
      by_cases c3:ratS s=0
      ·have e3:scE a s=6:=by rw[Yul,Yqi c2,Yqi (hz.2 c3)]
       rw[e3]at hx10 hq3
       have kk6:=kk6.trans j2
       have kk10:=kk10.trans j2
       have hpv:=fun h=>(hpv h).keep j2
       have KH:=KH.trans j2
       simp only[decide_eq_true c3]at iz
       simp(disch:=first|(simp;done)|omega|rfl) [-getElem?_pos,iz,Yuf,Zak]
       have r1:=fun w=>Yt8 (w:=w) hx6 kk6 hpv hl1 hq1
       have r2:=fun st=>Yuh (st:=st) hx8 (fun _=>rfl) hq2
       have r3:=fun w=>Yt8 (w:=w) hx10 kk10 (v:=.nilslice) (fun h=>by cases h) hl3 hq3
       simp(disch:=first|(simp;done)|omega|rfl) [-getElem?_pos,r1,r2,r3,Ret]
       exact KH
      ·have e3:scE a s=0:=by rw[Yul,Yqi c2,Yqe fun h=>c3 (hz.1 h)]
       rw[e3]at hx10 hq3
       simp only[decide_eq_false c3]at iz
       simp(disch:=first|(simp;done)|omega|rfl) [-getElem?_pos,iz,Yuf,Zak]
       have hs0:=Yvi (hus.keep j2) qa qs (by omega) (by decide) (by decide)
       rw[es]at hs0
       refine Zaa hs0 ?_
       rintro sv H3 m3 j3 hsv
       have jj:=j2.trans j3
       have kk6:=kk6.trans jj
       have kk10:=kk10.trans jj
       have hpv:=fun h=>(hpv h).keep jj
       have KH:=KH.trans jj
       have r1:=fun w=>Yt8 (w:=w) hx6 kk6 hpv hl1 hq1
       have r2:=fun st=>Yuh (st:=st) hx8 (fun _=>rfl) hq2
       have r3:=fun w=>Yt8 (w:=w) hx10 kk10 (fun _=>hsv.1) hl3 hq3
       simp(disch:=first|(simp;done)|omega|rfl) [-getElem?_pos,r1,r2,r3,Ret]
       exact KH
     ·have e3:scE a s=vaE a s:=by rw[Yul,Yqe c2]
      rw[e3]at hx10 hq3
      simp(disch:=first|(simp;done)|omega|rfl) [-getElem?_pos,c2,Zak]
      have r1:=fun w=>Yt8 (w:=w) hx6 kk6 hpv hl1 hq1
      have r2:=fun st=>Yuh (st:=st) hx8 (s:=[]) (fun h=>absurd h c2) hq2
      have r3:=fun w=>Yt8 (w:=w) hx10 kk10 (v:=.nilslice) (fun h=>absurd h c2) hl3 hq3
      simp(disch:=first|(simp;done)|omega|rfl) [-getElem?_pos,r1,r2,r3,Ret]
      exact KH
    ·obtain⟨pv,hpw⟩:∃pv:V,pv=.nilslice:=⟨_,rfl⟩
     obtain⟨H,hH⟩:∃H,H=H14:=⟨_,rfl⟩
     obtain⟨nH,hnH⟩:∃n,n=n13+1:=⟨_,rfl⟩
     rw[←hH,←hnH]at KG kG6 kG10
     rw[←hH,←hnH]
     have hpv:Yvk a b=0→Tx H nH .nilslice (Yvv (rats a) (rats b)):=fun h=>absurd h c1
     have kk6:=kG6
     have kk10:=kG10
     have KH:=KG
     clear hH hnH hpw
     simp(disch:=first|(simp;done)|omega|rfl) [-getElem?_pos,c1,Zak]
     by_cases c2:vaE a s=0
     ·obtain⟨ca2,cs2⟩:=Ywd c2
      obtain⟨a0,a1,a2,_⟩:=Yui ca2
      have qa:=Yt9 a2 fa
      have qs:=Ze6 cs2 cs
      have es:=(Zco cs2).1
      have hus:Tx H nH u (rats a):=by
       have:=hu.keep KH
       rw[Yuc a2]at this
       exact this
      have lra:=@Yt6 a
      have hz:s=[48]↔ratS s=0:=by
       constructor
       ·intro hc;rw[←es,←Yhh]at hc;exact Yc7 hc
       ·intro hc;rw[←es,hc,Yhh]
      have hv0:=Yvh hus qa qs (by omega)
      rw[es]at hv0
      have iz:=fun st=>Yug (q:=ratS s) (st:=st)
      rw[es]at iz
      simp(disch:=first|(simp;done)|omega|rfl) [-getElem?_pos,c2,Zak]
      rw[c2]at hx8 hq2
      refine Zaa hv0 ?_
      rintro _ H2 m2 j2 rfl
      by_cases c3:ratS s=0
      ·have e3:scE a s=6:=by rw[Yul,Yqi c2,Yqi (hz.2 c3)]
       rw[e3]at hx10 hq3
       have kk6:=kk6.trans j2
       have kk10:=kk10.trans j2
       have hpv:=fun h=>(hpv h).keep j2
       have KH:=KH.trans j2
       simp only[decide_eq_true c3]at iz
       simp(disch:=first|(simp;done)|omega|rfl) [-getElem?_pos,iz,Yuf,Zak]
       have r1:=fun w=>Yt8 (w:=w) hx6 kk6 hpv hl1 hq1
       have r2:=fun st=>Yuh (st:=st) hx8 (fun _=>rfl) hq2
       have r3:=fun w=>Yt8 (w:=w) hx10 kk10 (v:=.nilslice) (fun h=>by cases h) hl3 hq3
       simp(disch:=first|(simp;done)|omega|rfl) [-getElem?_pos,r1,r2,r3,Ret]
       exact KH
      ·have e3:scE a s=0:=by rw[Yul,Yqi c2,Yqe fun h=>c3 (hz.1 h)]
       rw[e3]at hx10 hq3
       simp only[decide_eq_false c3]at iz
       simp(disch:=first|(simp;done)|omega|rfl) [-getElem?_pos,iz,Yuf,Zak]
       have hs0:=Yvi (hus.keep j2) qa qs (by omega) (by decide) (by decide)
       rw[es]at hs0
       refine Zaa hs0 ?_
       rintro sv H3 m3 j3 hsv
       have jj:=j2.trans j3
       have kk6:=kk6.trans jj
       have kk10:=kk10.trans jj
       have hpv:=fun h=>(hpv h).keep jj
       have KH:=KH.trans jj
       have r1:=fun w=>Yt8 (w:=w) hx6 kk6 hpv hl1 hq1
       have r2:=fun st=>Yuh (st:=st) hx8 (fun _=>rfl) hq2
       have r3:=fun w=>Yt8 (w:=w) hx10 kk10 (fun _=>hsv.1) hl3 hq3
       simp(disch:=first|(simp;done)|omega|rfl) [-getElem?_pos,r1,r2,r3,Ret]
       exact KH
     ·have e3:scE a s=vaE a s:=by rw[Yul,Yqe c2]
      rw[e3]at hx10 hq3
      simp(disch:=first|(simp;done)|omega|rfl) [-getElem?_pos,c2,Zak]
      have r1:=fun w=>Yt8 (w:=w) hx6 kk6 hpv hl1 hq1
      have r2:=fun st=>Yuh (st:=st) hx8 (s:=[]) (fun h=>absurd h c2) hq2
      have r3:=fun w=>Yt8 (w:=w) hx10 kk10 (v:=.nilslice) (fun h=>absurd h c2) hl3 hq3
      simp(disch:=first|(simp;done)|omega|rfl) [-getElem?_pos,r1,r2,r3,Ret]
      exact KH
   ·have cs':40<(s.length:Int):=by omega
    simp(disch:=first|(simp;done)|omega|rfl) [-getElem?_pos,A.b6,hA,hS1,hS2,ca,cb,cs',Ret]
    exact Keeps.refl
  ·simp(disch:=first|(simp;done)|omega|rfl) [-getElem?_pos,A.b6,hA,hS1,hS2,ca,cb,Ret]
   exact Keeps.refl
 ·simp(disch:=first|(simp;done)|omega|rfl) [-getElem?_pos,A.b6,hA,hS1,hS2,ca,Ret]
  exact Keeps.refl
end Go.Mx
