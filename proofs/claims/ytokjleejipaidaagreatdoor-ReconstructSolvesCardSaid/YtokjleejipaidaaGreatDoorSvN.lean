/-lensletref05-/
import Derived.Test.YtokjleejipaidaaGreatDoorSvJ
import Derived.Deep.Slices
import Derived.Lib.LaidTab
import Derived.LaidSub
import Derived.ChangeShapes
import Derived.WideShapes
set_option linter.all false
namespace Go.Mx
noncomputable section
open Go Go.Proofs
variable {N:Nat} {h:T O} {v:V}
set_option maxRecDepth 1000000
def A.w6:=A.q Tryz.f6
def A.yv:=A.ql A.w6 1 []
def A.Bo:=(fun x0=>A.ql A.w6 0 [x0]) A.yv
def A.b6:=(fun x0=>A.qb A.w6 [x0]) A.Bo
def A.k6:=@A.kk 6 32 [.tmp 4] A.b6 (by kernel_rfl) rfl
def PX(n:Nat)(x:List aQ):Bool:=x.all fun s=>decide (s.length<=n)
def K4(n:Nat)(l:List (List aQ)):Bool:=l.all (PX n)
def Ylb{n:Nat}{w:List Nat}{l:List (List aQ)}(hs:fC h N v l)(hl:l.length<100000)(hx:∀x∈l,x.length<100000):A.C.call (.func 6 [] []) [v,.int .i64 n] ⟨h,N,w⟩=some (.bool (K4 n l),⟨h,N,w⟩):=by
 apply Call.eq
 have lg:=hs.len
 rw[aM,A.k6 (by simp)]
 simp[A.b6]
 refine bA [(4,31)] (fun e r st=>st=⟨h,N,[]⟩/\((e=.exit 0/\K4 n l=true)\/(e=.ret/\K4 n l=false/\r.get 4=some (.bool false)))) (fun m r st=>st=⟨h,N,[]⟩/\∃k,k+m=l.length/\r.get 5=some (.int .i64 k)/\K4 n l=(l.drop k).all (PX n)) l.length ?_ ?_ ?_
 ·exact⟨rfl,0,by omega,by simp,rfl⟩
 ·rintro m r _ hr hf ⟨rfl,k,hk,h5,hz⟩
  rw[bb]
  cases m with
  |zero=>
   obtain rfl:k=l.length:=by omega
   rw[mK,List.all_nil]at hz
   simp[A.Bo,hr,hf,h5,lg,hz]
  |succ m=>
   have au:k<l.length:=by omega
   have bG:(k:Int)<(l.length:Int):=by omega
   obtain⟨x,Pz⟩:=a_ au
   have zL:=hx x (bM Pz)
   obtain⟨i,o,cc,e,rw,u,q1,q2,q3,q4,q5⟩:=hs.at Pz
   have lu:=q5.len
   rw[tn]at lu
   rw[f_ Pz,List.all_cons]at hz
   simp[A.Bo,hr,h5,lg,bG]
   refine bA [(4,4),(6,6),(13,31)] (fun e r' st=>st=⟨h,N,[]⟩/\((e=.exit 2/\PX n x=true)\/(e=.ret/\PX n x=false/\r'.get 4=some (.bool false)))) (fun m' r' st=>st=⟨h,N,[]⟩/\∃t,t+m'=x.length/\r'.get 6=some (.int .i64 t)/\PX n x=(x.drop t).all fun s=>decide (s.length<=n)) x.length ?_ ?_ ?_
   ·exact⟨rfl,0,by omega,by simp,rfl⟩
   ·rintro m' r' _ ko A3 ⟨rfl,t,ht,h6,hy⟩
    rw[bb]
    cases m' with
    |zero=>
     obtain rfl:t=x.length:=by omega
     rw[mK,List.all_nil]at hy
     simp[A.yv,ko,A3,hr,h5,h6,lg,bG,lu,q1,q3,q4,hy]
    |succ m'=>
     have cX:t<x.length:=by omega
     have Kz:(t:Int)<(x.length:Int):=by omega
     obtain⟨s,dK⟩:=a_ cX
     obtain⟨i2,o2,c2,e2,Jl,p1,p2,p3,p4⟩:=q5.at (B8 dK)
     rw[f_ dK,List.all_cons]at hy
     have e1:((n:Int)<(s.length:Int))=(n<s.length):=by apply propext;omega
     by_cases c:n<s.length
     ·have c':decide (s.length<=n)=false:=by simpa using c
      rw[c',CW]at hy
      simp[A.yv,ko,A3,hr,h5,h6,lg,bG,lu,Kz,q1,q3,q4,p1,p3,p4,e1,c,hy]
     ·have c':decide (s.length<=n)=true:=by simpa using c
      rw[c',Bool.true_and]at hy
      simp(disch:=first|(simp;done)|omega|rfl) [A.yv,ko,A3,hr,h5,h6,lg,lu,Kz,q1,q3,q4,p1,p3,p4,e1,c]
      exact⟨m',by omega,t+1,by omega,by simp,hy⟩
   ·rintro _ r' _ ko ⟨rfl,⟨rfl,hy⟩|⟨rfl,hy,h4⟩⟩
    ·rw[hy,Bool.true_and]at hz
     have Cz:=hf.inner (D':=[(4,4),(6,6),(13,31)]) (by decide) (fun hx=>by simpa[Fx.set]using hx) ko
     simp(disch:=first|(simp;done)|omega|rfl) [ko,Cz,h5]
     exact⟨m,by omega,k+1,by omega,by simp,hz⟩
    ·rw[hy,CW]at hz
     have Cz:=hf.inner (D':=[(4,4),(6,6),(13,31)]) (by decide) (fun hx=>by simpa[Fx.set]using hx) ko
     simp[Cz,h4,hz]
 ·rintro _ r _ hr ⟨rfl,⟨rfl,hz⟩|⟨rfl,hz,h4⟩⟩
  ·simp[hz]
  ·simp[h4,hz]
def Je(B:Nat)(h:T O)(N:Nat)(v:V)(l:List V):Prop:=(∃i,v=.slice i 0 l.length (some l.length) 1/\B<=i/\i<N/\h.get i=some (.cells l 23 true))\/Own 1 23 B h N v (l.map fun y=>[y])
def Je.sl{B:Nat}{l:List V}(s:Je B h N v l):Sl h N v l:=by
 rcases s with⟨i,rfl,_,h2,h3⟩|s
 ·exact Sl.row h2 h3 rfl (fun k hk=>by simp at hk;omega)
 ·exact Sn.one.1 s.sn
def Je.app{B:Nat}{u:V}{l xs:List V}{w:List Nat}(s:Je B h N v l)(h0:0<l.length)(hu:Sl h N u xs)(hB:B<=N)(hb:l.length+xs.length<100000):∃v' h' n' w',gX ⟨h,N,w⟩ 1 24 23 v u=some (v',⟨h',n',w'⟩)/\ab h B h' n'/\ar B w'=ar B w/\N<=n'/\Je B h' n' v' (l++xs):=by
 have my:=Jy (w:=w) (Sn.one.2 hu)
 rw[gY,PQ]at my
 by_cases hx:xs.length=0
 ·have jv:=List.length_eq_zero_iff.1 hx
  subst jv
  refine⟨v,h,N,w,?_,⟨hB,fun i _=>rfl⟩,rfl,aO _,by rw[yK];exact s⟩
  rcases s with⟨i,rfl,_⟩|⟨_,⟨hc,_⟩|⟨i,rfl,_⟩⟩
  ·simp[gX,my]
  ·rw[List.map_eq_nil_iff]at hc
   rw[hc]at h0
   simp at h0
  ·simp[gX,my]
 ·rcases s with⟨i,rfl,b1,b2,b3⟩|s
  ·have zap:aC l 0 (l.length*1)=some l:=by unfold aC;simp
   refine⟨.slice N 0 (l.length+xs.length) none 1,h.set N (.cells (l++xs) 23 true),N+1,w,?_,⟨by omega,fun j hj=>by rw[T.ag,ak (by omega)]⟩,rfl,by omega,.inr ⟨fun y hy=>by obtain⟨z,_,rfl⟩:=eC.1 hy;rfl,.inr ⟨N,by simp,hB,by omega,by rw[T.ag,ax rfl,PQ]⟩⟩⟩
   simp only[gX,my,St.row,b3,uS,St.alloc,zap]
   rw[ak hx,ak (by rintro(h|h|h)<;>omega),ak (by omega)]
  ·have lx:(xs.map fun y=>[y]).length=xs.length:=gY _
   obtain⟨v',h',w',f1,f2,f3,_,_,f5⟩:=V8 (Y:=fun _=>True) (xs:=xs.map fun y=>[y]) (u:=u) (bytes:=24) (w:=w) s (fun hc=>by rw[List.map_eq_nil_iff]at hc;rw[hc]at h0;simp at h0) (fun _ _ _ _=>trivial) hB (by decide) (fun x hx=>by obtain⟨y,_,rfl⟩:=eC.1 hx;rfl) (by rw[lx];omega) (Jy (Sn.one.2 hu)) (by rw[gY,lx];omega)
   exact⟨v',h',N+1,w',f1,f3,f2,by omega,.inr (by rw[List.map_append];exact f5)⟩
def yw(h:T O)(N:Nat)(us:List V)(m:List (List aQ)):Prop:=us.length=m.length/\∀(j:Nat) (l:List aQ),m[j]?=some l->∃u,us[j]?=some u/\Sl h N u (strs l)
def yw.app{us vs:List V}{a b:List (List aQ)}(s:yw h N us a)(t:yw h N vs b):yw h N (us++vs) (a++b):=by
 obtain⟨s1,s2⟩:=s
 obtain⟨t1,t2⟩:=t
 refine⟨by simp[s1,t1],fun j l hl=>?_⟩
 by_cases hj:j<a.length
 ·rw[iS hj]at hl
  obtain⟨u,g1,g2⟩:=s2 j l hl
  exact⟨u,by rw[iS (by omega)];exact g1,g2⟩
 ·rw[lD (by omega)]at hl
  obtain⟨u,g1,g2⟩:=t2 _ l hl
  exact⟨u,by rw[lD (by omega),s1];exact g1,g2⟩
def yw.ad{h':T O}{N':Nat}{us:List V}{m:List (List aQ)}(s:yw h N us m)(k:ab h N h' N'):yw h' N' us m:=⟨s.1,fun j l hl=>by
 obtain⟨u,a,b⟩:=s.2 j l hl
 exact⟨u,a,b.ad k⟩⟩
def yw.one{h:T O}{N:Nat}{u:V}{l:List aQ}(s:Sl h N u (strs l)):yw h N [u] [l]:=⟨rfl,fun j x hx=>by
 cases j with
 |zero=>
  obtain rfl:l=x:=by simpa using hx
  exact⟨u,rfl,s⟩
 |succ j=>simp at hx⟩
variable {N:Nat} {h:T O} {m:List (List aQ)} {v:V}
def fC.rows(s:fC h N v m):∃us,Sl h N v us/\yw h N us m:=by
 obtain⟨us,a,b,c⟩:=s
 exact⟨us,a,b,c⟩
def yw.mts{us:List V}(s:yw h N us m)(hs:Sl h N v us):fC h N v m:=⟨us,hs,s.1,s.2⟩
def Yws{u:V}{l:List aQ}{w:List Nat}(hl:Sl h N v (strs l))(hm:fC h N u m)(hb:m.length<1000):∃x h' n' w',gX ⟨h.set N (.cells [v] 23 true),N+1,w⟩ 1 24 23 (.slice N 0 1 (some 1) 1) u=some (x,⟨h',n',w'⟩)/\ab h N h' n'/\ar N w'=ar N w/\∃us,us.length=m.length+1/\Je N h' n' x us/\yw h N us ([l]++m):=by
 obtain⟨us,s1,s2⟩:=hm.rows
 have kN:ab h N (h.set N (.cells [v] 23 true)) (N+1):=ab.refl.new _
 have lv:Je N (h.set N (.cells [v] 23 true)) (N+1) (.slice N 0 1 (some 1) 1) [v]:=.inl ⟨N,rfl,aO _,by omega,by rw[T.ag,ax rfl]⟩
 obtain⟨x,h',n',w',f1,f2,f3,_,f5⟩:=lv.app (w:=w) (by simp) (s1.ad kN) (by omega) (by have:=s2.1;simp;omega)
 exact⟨x,h',n',w',f1,kN.then f2,f3,_,by simp[s2.1],f5,(yw.one hl).app s2⟩
def Zyh{k n:Nat}(h:pr k n=true)(hn:n<64):k<=66:=Zry h hn
def Yok{m:List (List Rat)}(h:bZ m 400000000):∀r∈m,∀q∈r,(aP q).length<1000000000:=fun r hr q hq=>Zsz (h r hr q hq) (by decide)
def Yc4{a c:Nat}{b:List (List aQ)}(h:mQ a c b=true):pr b.length a=true/\∀r∈b,fe c r=true:=by
 unfold mQ at h
 rw[iz]at h
 exact⟨h.1,fun r hr=>me.1 h.2 r hr⟩
def Yps{h:T O}{N i:Nat}{w:List Nat}{a0 a1 a2:Int}(hi:i<N):A.C.call (.func 13 [] []) [.slice i 0 3 (some 3) 1] ⟨h.set i (.cells [.int .i64 a0,.int .i64 a1,.int .i64 a2] 3 true),N,w⟩=some (.int .i64 (bn [a0,a1,a2]),⟨h.set i (.cells [.int .i64 a0,.int .i64 a1,.int .i64 a2] 3 true),N,w⟩):=
 Ye8 (l:=[a0,a1,a2]) (Sl.row (e:=3) (rw:=true) (cp:=some 3) hi (by simp[dI]) rfl (by simp)) (by simp)
def A.Bp:bN:=sr [mv 36 0,mv 37 1,c2 38 8 36 37,mv 35 38,xt 39 35 0,xt 40 35 1,mv 7 39,mv 8 40]
 (sr [mv 41 0,mv 42 1,mv 43 2,ge 44 (.call (fq 9) [tq 41,tq 42,tq 43]),mv 9 44]
 (sr [mv 45 0,c1 46 10 45,mv 10 46]
 (.seq (sr [mv 47 10,ei 48 47 0]
 (cd 48
 (.dN [mv 49 1,mv 50 0,ln 51 50,ge 52 (.call (fq 11) [tq 49,tq 51,.const (.int .i64 1)]),mv 10 52])
 (.skip)))
 (sr [mN 11]
 (sr [mv 53 10,mv 12 53]
 (.seq (sr [mv 54 10,ei 55 54 0]
 (cd 55
 (sr [mv 56 0,mv 57 1,c2 58 12 56 57,mv 11 58]
 (.dN [mv 59 2,ln 60 59,mv 61 0,ge 62 (.dh 1 (tq 61) (kq 0)),ld 63 62,ln 64 63,ge 65 (.bin .neq (.bI .int) false (tq 60) (tq 64)),ge 66 (.call (fq 14) [tq 65,.const (.int .i64 2)]),mv 67 2,mv 68 0,ln 69 68,c2 70 15 67 69,mv 71 2,mv 72 11,c2 73 16 71 72,ge 74 (.un .not (tq 73)),ge 75 (.call (fq 14) [tq 74,.const (.int .i64 21)]),ge 76 (.eh 3 1 3 [.int .i64 0,.int .i64 0,.int .i64 0] [(0,1,(tq 66)),(1,1,(tq 70)),(2,1,(tq 75))]),c1 77 13 76,mv 12 77]))
 (.skip)))
 (sr [mv 78 7,mv 79 8,mv 80 11,mv 81 10,ge 82 (.call (fq 17) [tq 78,tq 79,tq 80,tq 81]),mv 83 82,mg 84 9 83,mg 85 12 83,gy 86 83 (.bin .eql (.bI .int) false (tq 84) (tq 85)),pf 87 83 86,mv 88 87,gy 89 88 (.call (fq 7) []),pf 90 88 89,mv 6 90]
 (.ret))))))))
def A.b3:bN:=sr [ge 6 (.jF (.const (.bool false)))]
 (.seq (sr [mv 13 0,ge 14 (.call (fq 4) [tq 13,.const (.int .i64 5),.const (.int .i64 4)]),ge 15 (.un .not (tq 14)),mv 16 15,mh 17 1 16,gz 18 16 (.call (fq 5) [tq 17,.const (.int .i64 5)]),gz 19 16 (.un .not (tq 18)),pt 20 16 19,mv 21 20,mh 22 2 21,gz 23 21 (.call (fq 4) [tq 22,.const (.int .i64 5),.const (.int .i64 6)]),gz 24 21 (.un .not (tq 23)),pt 25 21 24,mv 26 25,mh 27 1 26,gz 28 26 (.eh 23 1 1 [.aa] [(0,1,(tq 27))]),mh 29 0 26,gz 30 26 (.append 1 24 23 [.aa] (tq 28) (tq 29)),gz 31 26 (.call (fq 6) [tq 30,.const (.int .i64 9)]),gz 32 26 (.un .not (tq 31)),pt 33 26 32]
 (cd 33
 (sr [ge 34 (.call (fq 7) []),mv 6 34]
 (.ret))
 (.skip)))
 A.Bp)
def A.c3:A.F 3=some ⟨91,[.tmp 6],A.b3⟩:=by kernel_rfl
def A.k3:=@A.kk 3 _ _ _ A.c3 rfl
def Yhs{b:List (List aQ)}(h:∀r∈b,tO r){m:List (List Rat)}:(b=m.map fun r=>r.map aP)↔m=fN b:=by
 have e:((fN b).map fun r=>r.map aP)=b:=by
  unfold fN
  rw[List.map_map]
  conv=>rhs;rw[<-List.map_id b]
  apply yB
  intro r hr
  exact(h r hr).Cv
 have e2:∀m:List (List Rat),fN (m.map fun r=>r.map aP)=m:=fun m=>by
  unfold fN
  rw[List.map_map]
  conv=>rhs;rw[<-List.map_id m]
  apply yB
  intro r _
  show mG (r.map aP)=r
  unfold mG
  rw[List.map_map]
  conv=>rhs;rw[<-List.map_id r]
  apply yB
  intro q _
  exact Yir q
 constructor
 ·intro hb
  rw[hb,e2]
 ·intro hm
  rw[hm,e]
def Yq3{m b:List (List aQ)}{l:List aQ}(h0:tN m l=0)(sb:∀r∈b,fe 6 r=true):bn [if b.length=fw m then 0 else 2,bn (b.map fun x=>eR x m.length),if b=(Gc m l).map (fun r=>r.map aP) then 0 else 21]=Eb m l b:=by
 unfold Eb
 rw[ax h0]
 by_cases hZ:Jc m b=0
 ·rw[ax hZ]
  obtain⟨z1,z2⟩:=Ylx hZ sb
  have y2:=xD hZ (bn (b.map fun x=>eR x m.length)) (by simp)
  have:=Yhs (fun r hr=>(z2 r hr).2) (m:=Gc m l)
  rw[ax z1,y2]
  by_cases e:Gc m l=fN b
  ·rw[ax e,ax (this.2 e)]
   rfl
  ·rw[ak e,ak (fun h=>e (this.1 h))]
   rfl
 ·rw[ak hZ]
  unfold Jc at hZ ⊢
  by_cases c1:b.length=fw m
  ·rw[ax c1]at hZ ⊢
   by_cases c2:bn (b.map fun x=>eR x m.length)=0
   ·exact absurd (by simp[bn,c2]) hZ
   ·simp[bn,c2]
  ·simp[bn,c1]
set_option maxHeartbeats 4000000
def Yh8{h H:T O}{N n:Nat}{W:List Nat}{r0:T V}{u v y:V}{m b:List (List aQ)}{l:List aQ}(kH:ab h N H n)(hW:ar N W=[])(gg:fC h N u m)(eG:Sl h N v (strs l))(jj:fC h N y b)(hP0:lE h N)(sm:mQ 6 6 m=true)(sl:fe 6 l=true)(sb:∀r∈b,fe 6 r=true)(FT:b.length<100000)(a0:r0.get 0=some u)(a1:r0.get 1=some v)(a2:r0.get 2=some y):
  Code A.C none A.Bp ⟨r0,91,[]⟩ ⟨H,n,W⟩ (fun e fr st=>e=.ret/\∃r,fr=⟨r,91,[]⟩/\r.get 6=some (.bool true)/\ar N st.w=[]/\ab h N st.h st.n):=by
 obtain⟨m1,m2⟩:=Tf sm
 obtain⟨l1,l2⟩:=Ja sl
 have le0:=kH.le
 have hm:=gg.ad kH
 have hl:=eG.ad kH
 have hb:=jj.ad kH
 have hP:=hP0.ad kH
 have b2:∀x∈b,x.length<100000/\∀s∈x,s.length<=100000:=fun x hx=>Ja (sb x hx)
 rw[bb]
 simp(disch:=first|(simp;done)|omega|rfl) [-getElem?_pos,A.Bp,a0,a1]
 refine ay (Ylo hm hl hP sm sl) ?_
 rintro _ H1 n1 k1 ⟨z,c,rfl,t1⟩
 simp(disch:=first|(simp;done)|omega|rfl) [-getElem?_pos,a0,a1,a2]
 refine ay (Yrv (hm.ad k1) (hl.ad k1) (hb.ad k1) sm sl sb FT) ?_
 rintro _ H2 n2 k2 rfl
 have j2:=k1.trans k2
 simp(disch:=first|(simp;done)|omega|rfl) [-getElem?_pos,a0]
 refine ay (Yiq (hm.ad j2) m1 m2) ?_
 rintro _ H3 n3 k3 rfl
 have j3:=j2.trans k3
 have t3:=(t1.ad k2).ad k3
 have zbi:∀c2:Int,(if kJ m 64 16=0 then c2 else kJ m 64 16)=0->kJ m 64 16=0:=fun c2 h=>by
  split at h<;>assumption
 have lm:=(hm.ad j3).len
 by_cases hE:kJ m 64 16=0
 ·have hM:=Zy2 hE sm
  have PY:tN m l=rf l m.length 1:=by
   unfold tN
   by_cases h2:rf l m.length 1=0<;>simp[bn,hE,h2]
  simp(disch:=first|(simp;done)|omega|rfl) [-getElem?_pos,hE,aJ,a0,a1,lm]
  refine ay (Yt2 (n:=m.length) (z:=1) (hl.ad j3) l1 l2) ?_
  rintro _ H4 n4 k4 rfl
  have j4:=j3.trans k4
  have t4:=t3.ad k4
  rw[<-PY]
  by_cases hZ:tN m l=0
  ·obtain⟨_,zl,hL⟩:=VU hZ sm sl
   have iK:=Zsk (xD hZ (rf l m.length 1) (by simp))
   have n6:=hM.n6
   have mle:=hM.le
   have m0:0<m.length:=hM.pos
   have m0':(0:Int)<(m.length:Int):=by omega
   have qM:bZ (fN m) 100:=fun r hr=>(hM.rat r hr).2
   have lM:(fN m).length=m.length:=Ll
   have lL:(mG l).length=(fN m).length:=by simp[mG,fN,zl]
   simp(disch:=first|(simp;done)|omega|rfl) [-getElem?_pos,hZ,aJ,a0,a1]
   refine ay (Ydf (n:=fw m) ((hm.ad j4).rat fun r hr=>(hM.row r hr).2) (tO.sl (hl.ad j4) hL) hM.qb.1 lL hM.n1 n6 (by omega) (by omega) qM hL.qb iK) ?_
   rintro x5 H5 n5 k5 BO
   have j5:=j4.trans k5
   obtain⟨l0,PZ⟩:=a_ m0
   obtain⟨i1,o1,c1,e1,w1,x,q1,q2,q3,q4,q5⟩:=(hm.ad j5).at PZ
   rw[iX]at q4
   have lx:=q5.len
   rw[tn]at lx
   have en:l0.length=fw m:=by simp[fw,PZ]
   rw[en]at lx
   have lm5:=(hm.ad j5).len
   have lb5:=(hb.ad j5).len
   have eN:((b.length:Int)=(fw m:Int))=(b.length=fw m):=by apply propext;omega
   simp(disch:=first|(simp;done)|omega|rfl) [-getElem?_pos,a0,a2,lm5,lb5,m0,m0',q1,q2,q3,q4,lx,Zye,aJ,eN]
   refine ay (Yoa (n:=m.length) (hb.ad j5) FT b2) ?_
   rintro _ H6 Jd k6 rfl
   have j6:=j5.trans k6
   obtain⟨g1,g2,g3⟩:=Zn6 hM.qb.1 lL hM.n1 n6 (by omega) (by omega) qM hL.qb iK
   have hsm:=fun w=>Yif (w:=w) (hb.ad j6) (BO.ad k6) FT (by rw[g2];omega) (fun r hr=>(b2 r hr).1) (fun r hr=>by rw[g3 r hr];omega)
   have lf:=fun w=>Yps (h:=H6) (N:=Jd+1) (i:=Jd) (w:=w) (a0:=if b.length=fw m then 0 else 2) (a1:=bn (b.map fun x=>eR x m.length)) (a2:=if b=(mF (fN m) (mG l) (fw m)).map (fun r=>r.map aP) then 0 else 21) (by omega)
   have ck:bn [(if b.length=fw m then (0:Int) else 2),bn (b.map fun x=>eR x m.length),(if b=(mF (fN m) (mG l) (fw m)).map (fun r=>r.map aP) then (0:Int) else 21)]=Eb m l b:=Yq3 hZ sb
   rw[ck]at lf
   have kD:ab H6 Jd (H6.set Jd (.cells [.int .i64 (if b.length=fw m then 0 else 2),.int .i64 (bn (b.map fun x=>eR x m.length)),.int .i64 (if b=(mF (fN m) (mG l) (fw m)).map (fun r=>r.map aP) then 0 else 21)] 3 true)) (Jd+1):=ab.refl.new _
   simp(disch:=first|(simp;done)|omega|rfl) [-getElem?_pos,a0,a2,hsm,Zye,ae,lf]
   generalize H6.set Jd (.cells [.int .i64 (if b.length=fw m then 0 else 2),.int .i64 (bn (b.map fun x=>eR x m.length)),.int .i64 (if b=(mF (fN m) (mG l) (fw m)).map (fun r=>r.map aP) then 0 else 21)] 3 true)=G at*
   have j7:=j6.trans kD
   have t7:=((t4.ad k5).ad k6).ad kD
   rw[hZ]at t7
   have f1:=fun w=>Vw (w:=w) t7 (fun _=>(BO.ad k6).ad kD) (by rw[show (Gc m l).length=fw m from g2];omega) (fun _ r hr=>⟨by rw[g3 r hr];omega,Yok (g1.mono (by decide)) r hr⟩)
   have Ec:=fun w=>Lb (w:=w) (hP.ad j7)
   simp(disch:=first|(simp;done)|omega|rfl) [-getElem?_pos,f1,Ec]
   exact⟨by simp[hW],kH.trans j7⟩
  ·have hC:Eb m l b=tN m l:=by unfold Eb;rw[ak hZ]
   have t7:Eg (tN m l) [] z c H4 n4:=by
    rcases t4 with s|⟨a,_⟩
    ·exact .inl s
    ·exact absurd a hZ
   have f1:=fun w=>Vw (w:=w) (u:=.aa) t7 (fun h=>absurd h hZ) (by simp) (fun h=>absurd h hZ)
   have Ec:=fun w=>Lb (w:=w) (hP.ad j4)
   simp(disch:=first|(simp;done)|omega|rfl) [-getElem?_pos,hZ,hC,aJ,f1,Ec]
   exact⟨by simp[hW],kH.trans j4⟩
 ·have PY:tN m l=kJ m 64 16:=by
   unfold tN
   simp[bn,hE]
  have hZ:¬tN m l=0:=by rw[PY];exact hE
  have hC:Eb m l b=kJ m 64 16:=by unfold Eb;rw[ak hZ,PY]
  rw[PY]at t3
  have t7:Eg (kJ m 64 16) [] z c H3 n3:=by
   rcases t3 with s|⟨a,_⟩
   ·exact .inl s
   ·exact absurd a hE
  have f1:=fun w=>Vw (w:=w) (u:=.aa) t7 (fun h=>absurd h hE) (by simp) (fun h=>absurd h hE)
  have Ec:=fun w=>Lb (w:=w) (hP.ad j3)
  simp(disch:=first|(simp;done)|omega|rfl) [-getElem?_pos,hE,hC,aJ,f1,Ec]
  exact⟨by simp[hW],kH.trans j3⟩
def Ycy{h:T O}{N:Nat}{u v y:V}{m b:List (List aQ)}{l:List aQ}(hm:fC h N u m)(hl:Sl h N v (strs l))(hb:fC h N y b)(hP:lE h N)(m1:m.length<9223372036854775808)(m2:∀x∈m,x.length<9223372036854775808)(l1:l.length<9223372036854775808)(b1:b.length<9223372036854775808)(b2:∀x∈b,x.length<9223372036854775808):Fn A.C 3 [u,v,y] h N (fun z _ _=>z=.bool true):=by
 intro w
 have Ec:=fun w=>Lb (w:=w) hP
 have K6:∀w,A.C.call (.func 4 [] []) [u,.int .i64 5,.int .i64 4] ⟨h,N,w⟩=some (.bool (mQ 5 4 m),⟨h,N,w⟩):=fun w=>Zxp (w:=w) (n:=5) (p:=4) hm m1 m2 (by decide) (by decide)
 have Bm:∀w,A.C.call (.func 5 [] []) [v,.int .i64 5] ⟨h,N,w⟩=some (.bool (fe 5 l),⟨h,N,w⟩):=fun w=>Zn2 (w:=w) (n:=5) hl l1 (by decide)
 have Tg:∀w,A.C.call (.func 4 [] []) [y,.int .i64 5,.int .i64 6] ⟨h,N,w⟩=some (.bool (mQ 5 6 b),⟨h,N,w⟩):=fun w=>Zxp (w:=w) (n:=5) (p:=6) hb b1 b2 (by decide) (by decide)
 rw[aM,A.k3 (by simp)]
 cases sm:mQ 5 4 m with
 |false=>
  rw[sm]at K6
  simp(disch:=first|(simp;done)|omega|rfl) [-getElem?_pos,A.b3,K6,Ec,az]
  exact ab.refl
 |true=>
  rw[sm]at K6
  cases sl:fe 5 l with
  |false=>
   rw[sl]at Bm
   simp(disch:=first|(simp;done)|omega|rfl) [-getElem?_pos,A.b3,K6,Bm,Ec,az]
   exact ab.refl
  |true=>
   rw[sl]at Bm
   cases sb:mQ 5 6 b with
   |false=>
    rw[sb]at Tg
    simp(disch:=first|(simp;done)|omega|rfl) [-getElem?_pos,A.b3,K6,Bm,Tg,Ec,az]
    exact ab.refl
   |true=>
    rw[sb]at Tg
    have sm6:=Zvn sm (show 5<=6 by decide) (show 4<=6 by decide)
    have sl6:=Zn1 sl (show 5<=6 by decide)
    have f1:=hl.form.one
    have f2:=hl.form.cells
    have oz:ae [V.aa] 0 [v]=[v]:=rfl
    obtain⟨sb1,sb2⟩:=Yc4 sb
    have bl:=Zyh sb1 (by decide)
    have ml:=Zyh (Yc4 sm).1 (by decide)
    obtain⟨x1,h1,n1,w1,p1,p2,p3,us,p4,p5,p6⟩:=Yws (w:=[]) hl hm (by omega)
    have q4:=(p6.ad p2).mts p5.sl
    have hB:∀w,A.C.call (.func 6 [] []) [x1,.int .i64 9] ⟨h1,n1,w⟩=some (.bool (K4 9 ([l]++m)),⟨h1,n1,w⟩):=fun w=>Ylb (w:=w) (n:=9) q4 (by simp;omega) (fun x hx=>by
     rcases lI.1 hx with hx|hx
     ·obtain rfl:x=l:=by simpa using hx
      exact(Ja sl6).1
     ·exact((Tf sm6).2 x hx).1)
    have zaq:=fun w=>Lb (w:=w) (hP.ad p2)
    have Ez:ar N w1=[]:=by rw[p3];rfl
    simp(disch:=first|(simp;done)|omega|rfl) [-getElem?_pos, -V.cells, -V.one,A.b3,K6,Bm,Tg,f1,f2,oz,vE,p1]
    cases hy:K4 9 ([l]++m)with
    |false=>
     rw[hy]at hB
     simp(disch:=first|(simp;done)|omega|rfl) [-getElem?_pos,hB,zaq,az]
     exact⟨Ez,p2⟩
    |true=>
     rw[hy]at hB
     simp(disch:=first|(simp;done)|omega|rfl) [-getElem?_pos,hB]
     refine lG (Yh8 p2 Ez hm hl hb hP sm6 sl6 sb2 (by omega) (by simp) (by simp) (by simp)) ?_
     rintro e fr ⟨H6,n6,W6⟩ ⟨rfl,r',rfl,g4,g5,g6⟩
     simp only at g5 g6
     simp(disch:=first|(simp;done)|omega|rfl) [-getElem?_pos,g4,az]
     exact⟨g5,g6⟩
open Go
inductive nY where
 |nil
 |emp (b:Addr)
 |sl (b:Addr) (l c:Nat) (f:Nat->ByteArray)
def nY.val:nY->Value
 |.nil=>.slice none 0 0
 |.emp b=>.slice (some b) 0 0
 |.sl b l c f=>.slice (some b) l c
def nY.ok(W:World):nY->Prop
 |.sl b l c f=>l<=c/\0<c/\∀i,i<c->W.cell? (b.add i)=some (.string (f i))
 |_=>True
def nY.strs:nY->List aQ
 |.sl b l c f=>(List.range l).map fun i=>(f i).data.toList
 |_=>[]
def Ed(W:World)(a:Addr):TypeId:=match W.heap[a.block]? with
 |some (.cells _ e _)=>e
 |_=>0
def Zy7{W:World}{a:Addr}{n:Nat}{f:Nat->Value}(hn:0<n)(hc:∀i,i<n->W.cell? (a.add i)=some (f i)):
  ∃c' lo hi,W.heap[a.block]?=some (.cells c' (Ed W a) (lo,hi))/\a.spot=none/\(∀i,i<n->c'[a.off+i]?=some (f i))/\a.off+n<=c'.size/\a.block<W.heap.size:=by
 have h0:=hc 0 hn
 have YR:a.add 0=a:=by simp[Addr.add]
 rw[YR]at h0
 obtain⟨c',e,fr,hb⟩:∃c' e fr,W.heap[a.block]?=some (.cells c' e fr):=by
  unfold World.cell? at h0
  split at h0
  ·rename_i c' e fr hb;exact⟨c',e,fr,hb⟩
  ·cases h0
 have hs:a.spot=none:=by
  unfold World.cell? at h0
  rw[hb]at h0
  simp only at h0
  split at h0
  ·cases h0
  ·rename_i h;simpa using h
 have fX:∀i,i<n->c'[a.off+i]?=some (f i):=fun i hi=>by
  have:=hc i hi
  unfold World.cell? at this
  have e1:(a.add i).block=a.block:=by unfold Addr.add;split<;>rfl
  have e2:(a.add i).off=a.off+i:=by unfold Addr.add;split<;>simp_all
  have e3:(a.add i).spot=none:=by unfold Addr.add;split<;>simp_all
  rw[e1,hb]at this
  simp only[e2,e3,Option.isSome_none,fL,if_false]at this
  exact this
 have au:a.block<W.heap.size:=by
  rcases Nat.lt_or_ge a.block W.heap.size with h|h
  ·exact h
  ·rw[Array.getElem?_eq_none h]at hb;cases hb
 have eM:a.off+n<=c'.size:=by
  have:=fX (n-1) (by omega)
  have h2:=(Array.getElem?_eq_some_iff.1 this).1
  omega
 obtain⟨lo,hi⟩:=fr
 exact⟨c',lo,hi,by rw[hb];simp[Ed,hb],hs,fX,eM,au⟩
structure Th where
 a:Addr
 n:Nat
 f:Nat->Value
 g:Nat->V
def Th.ok(W:World)(r:Th):Prop:=0<r.n/\(∀i,i<r.n->W.cell? (r.a.add i)=some (r.f i))/\∀i,i<r.n->(r.f i).oneCell'=true
def Zta{P:Program}{dJ:Nat->Option lA}{G:Nat}(hP:Ef P dJ G){x:cH}(hx:js P x){F d:Nat}{f:FuncId}{mf:lA}(hf:zg P f=some mf){args:List V}{xs:List Value}{v:V}{y:Value}{S:St}{μ:Mu}{W:World}
  (h:Yuh (C6 mf (dP (zO x dJ F d) F) args S) v) (hh:bm P μ W S) (hS:S.w=[]) (Bq:aU μ args xs) (hv:∀μ z,VR μ v z->z=y):
  Calls P f ⟨xs⟩ W fun e W'=>e=.returned y/\RowKit.Below W.heap.size W W':=by
 obtain⟨s,bQ,hw⟩:=h.ex
 obtain⟨fn,Bx,_⟩:=Zy9 hf
 have ih:=RN hP.m hP.e hP.t hx F d
 have:=Yfr (Ygt ih hP.e (Yf6 hP.m hP.e ih) (Yly ih hP.e) (Zxu ih) F) Bx hf hh Bq bQ
 refine callsIn_wide.1 (CallsIn.mono (F:=Fence.wide) this fun e W' he=>?_)
 cases e with
 |returned z=>
  obtain⟨μ',ws,h1,h2⟩:=he
  have qz:ws=[]:=by have:=h2.wl;rw[hw,hS]at this;simpa using this.symm
  subst qz
  exact⟨by rw[hv _ _ h1],h2.ed.os,h2.ed.tape,h2.ed.output,h2.ed.size,fun k hk=>h2.ed.block k hk fun i hi=>by cases hi⟩
 |panicked _=>exact he.elim
 |outgrown=>exact he.elim
def Cx.calls{P:Program}{C:Cx}{G:Nat}(hP:Ef P C.dJ G)(hx:js P C.x){f:Nat}{mf:lA}(hf:zg P f=some mf)(ht:C.dJ f=some mf){args:List V}{xs:List Value}{v:V}{y:Value}{S:St}{μ:Mu}{W:World}
  (hn:∀st,C.x (.func f [] []) args st=none) (h:Fn C f args S.h S.n (fun u _ _=>u=v)) (hh:bm P μ W S) (hS:S.w=[]) (Bq:aU μ args xs) (hv:∀μ z,VR μ v z->z=y):
  Calls P f ⟨xs⟩ W fun e W'=>e=.returned y/\RowKit.Below W.heap.size W W':=by
 obtain⟨u,aA,hc,hw,hk,hu⟩:=(h []).ex
 subst hu
 have hS':(⟨S.h,S.n,[]⟩:St)=S:=by obtain⟨a,b,c⟩:=S;simp only at hS;subst hS;rfl
 rw[hS']at hc
 rw[Cx.mO]at hc
 unfold tk at hc
 rw[hn]at hc
 simp only at hc
 obtain⟨n,tu⟩:=Zlh (q:=fun n=>dP (C.at n) n) (fun n m hnm=>AW (Cx.dW hnm) n m hnm) (fun _ _ _ _ _ e=>Cx.qE e) hc
 unfold yV at tu
 simp only[ht,List.nil_append,yK]at tu
 exact Zta (F:=n) (d:=n) hP hx hf ⟨_,tu,hw⟩ hh hS Bq hv
variable {P:Program} {S:St} {W:World} {μ:Mu}
def xb(tb:List (Nat×O))(i:Nat):Nat:=match lk tb i with
 |some (.cells c _ _)=>c.length
 |_=>0
def jq(P:Program)(W:World)(tb:List (Nat×O)):Prop:=∀i o,lk tb i=some o->∀μ,OM P μ W o ⟨i,0,xb tb i⟩
def jq.one{g:Nat}{k:IntKind}{zs:List Int}{e:TypeId}{f:Nat×Nat}(h:W.heap[g]?=some (.cells (zs.map fun z=>Value.int k z).toArray e f)):jq P W [(g,.cells (zs.map fun z=>V.int k z) e false)]:=by
 intro i o ho μ
 obtain⟨lo,hi⟩:=f
 simp only[lk]at ho
 split at ho
 ·rename_i hb
  have:=jQ hb
  subst this
  simp only[an]at ho
  subst ho
  have hl:xb [(g,O.cells (zs.map fun z=>V.int k z) e false)] g=zs.length:=by simp[xb,lk,hb]
  rw[hl]
  refine⟨_,lo,hi,h,by simp,by simp,fun j v hv=>?_,fun j x hj hx=>?_,fun h=>by cases h⟩
  ·rw[fm]at hv
   cases hz:zs[j]? with
   |none=>rw[hz]at hv;cases hv
   |some z=>
    rw[hz]at hv
    simp only[ti,an]at hv
    subst hv
    exact⟨.int k z,by simp[hz],by simp[VR]⟩
  ·simp only[xP,List.getElem?_toArray,fm,kh]at hx
   obtain⟨z,_,rfl⟩:=hx
   rfl
 ·cases ho
structure tG (P:Program) (W:World) (μ:Mu) (S:St):Prop where
 hr:bm P μ W S
 w:S.w=[]
 ro:∀i l o,μ i=some l->S.h.get i=some o->o.wr=false
structure vi (μ:Mu) (S:St) (μ':Mu) (S':St):Prop where
 mu:∀i l,μ i=some l->μ' i=some l
 ad:ab S.h S.n S'.h S'.n
def vi.refl:vi μ S μ S:=⟨fun _ _ h=>h,ab.refl⟩
def vi.trans{μ1 μ2:Mu}{S1 S2:St}(a:vi μ S μ1 S1)(b:vi μ1 S1 μ2 S2):vi μ S μ2 S2:=⟨fun i l h=>b.mu i l (a.mu i l h),a.ad.trans b.ad⟩
def Yob{tb:List (Nat×O)}{G:Nat}(hG:P.globals.size=G)(hW:G<=W.heap.size)(mW:Nb G tb=true)(BJ:jq P W tb):∃μ,tG P W μ (FJ G tb):=by
 subst hG
 have get:∀i,i<P.globals.size->(FJ P.globals.size tb).h.get i=some (match lk tb i with|some o=>o|none=>.dead):=fun i hi=>by
  show (uA (zS P.globals.size) tb).get i=_
  rw[Cg]
  cases lk tb i with
  |some o=>rfl
  |none=>exact RK _ _ hi
 have hwr:∀i o,i<P.globals.size->(FJ P.globals.size tb).h.get i=some o->o.wr=false:=fun i o hi ho=>by
  rw[get i hi]at ho
  simp only[an]at ho
  cases hl:lk tb i with
  |none=>rw[hl]at ho;subst ho;rfl
  |some o'=>
   rw[hl]at ho
   simp only at ho
   subst ho
   have:=(Yr mW hl).2
   cases o' with
   |cells c e rw=>cases rw with
    |true=>cases this
    |false=>rfl
   |_=>cases this
 have Ti:∀i l,(fun i=>if i<P.globals.size then some (⟨i,0,xb tb i⟩:L) else none) i=some l->i<P.globals.size/\l=⟨i,0,xb tb i⟩:=fun i l h=>by
  simp only at h
  split at h
  ·rename_i hi;simp only[an]at h;exact⟨hi,h.symm⟩
  ·cases h
 refine⟨fun i=>if i<P.globals.size then some ⟨i,0,xb tb i⟩ else none,⟨fun i l hl=>?_,fun i l hl=>?_,fun i j l l' o o' hi hj aW ho xL hw oc=>?_,fun g hg=>⟨xb tb g,by simp[hg]⟩⟩,rfl,fun i l o hl ho=>?_⟩
 ·obtain⟨h,rfl⟩:=Ti i l hl
  exact⟨h,by simp only;omega⟩
 ·obtain⟨h,rfl⟩:=Ti i l hl
  refine⟨_,get i h,?_⟩
  cases fR:lk tb i with
  |none=>trivial
  |some o=>exact BJ i o fR _
 ·rw[hwr i o (Ti i l hi).1 ho]at hw;cases hw
 ·exact hwr i o (Ti i l hl).1 ho
def Ynm{tb:List (Nat×O)}{G g:Nat}{o:O}(h:lk tb g=some o):(FJ G tb).h.get g=some o:=by
 show (uA (zS G) tb).get g=_
 rw[Cg,h]
def tG.row(s:tG P W μ S){r:Th}(mW:r.ok W)(hv:∀i,i<r.n->VR μ (r.g i) (r.f i)):
  ∃μ' S',tG P W μ' S'/\vi μ S μ' S'/\S'.n=S.n+1/\μ' S.n=some ⟨r.a.block,r.a.off,r.n⟩/\S'.h.get S.n=some (.cells ((List.range r.n).map r.g) (Ed W r.a) false):=by
 obtain⟨g1,g2,g3⟩:=mW
 obtain⟨c',lo,hi,hb,hs,fX,eM,au⟩:=Zy7 g1 g2
 have dw:∀i l,μ i=some l->(fun i=>if i=S.n then some (⟨r.a.block,r.a.off,r.n⟩:L) else μ i) i=some l:=fun i l hl=>by
  have:=(s.hr.c_ i l hl).1
  simp only
  rw[ak (by omega)];exact hl
 have xc:∀i l,(fun i=>if i=S.n then some (⟨r.a.block,r.a.off,r.n⟩:L) else μ i) i=some l->(i=S.n/\l=⟨r.a.block,r.a.off,r.n⟩)\/(i≠S.n/\μ i=some l):=fun i l h=>by
  simp only at h
  split at h
  ·rename_i e;simp only[an]at h;exact .inl ⟨e,h.symm⟩
  ·rename_i e;exact .inr ⟨e,h⟩
 have rn:(S.h.set S.n (.cells ((List.range r.n).map r.g) (Ed W r.a) false)).get S.n=some (.cells ((List.range r.n).map r.g) (Ed W r.a) false):=by simp[T.ag]
 have hold:∀i,i≠S.n->(S.h.set S.n (.cells ((List.range r.n).map r.g) (Ed W r.a) false)).get i=S.h.get i:=fun i hi=>by simp[T.ag,hi]
 have pL:∀i l o,(fun i=>if i=S.n then some (⟨r.a.block,r.a.off,r.n⟩:L) else μ i) i=some l->(S.h.set S.n (.cells ((List.range r.n).map r.g) (Ed W r.a) false)).get i=some o->o.wr=false:=fun i l o hl ho=>by
  rcases xc i l hl with⟨rfl,rfl⟩|⟨h1,h2⟩
  ·rw[rn]at ho;simp only[an]at ho;subst ho;rfl
  ·rw[hold i h1]at ho;exact s.ro i l o h2 ho
 refine⟨_,⟨S.h.set S.n (.cells ((List.range r.n).map r.g) (Ed W r.a) false),S.n+1,[]⟩,⟨⟨fun i l hl=>?_,fun i l hl=>?_,fun i j l l' o o' iP hj aW ho xL hw oc=>?_,fun g hg=>?_⟩,rfl,pL⟩,⟨dw,by simp,fun i hi=>hold i (by omega)⟩,rfl,by simp,rn⟩
 ·rcases xc i l hl with⟨rfl,rfl⟩|⟨h1,h2⟩
  ·exact⟨by simp,au⟩
  ·obtain⟨q1,q2⟩:=s.hr.c_ i l h2
   exact⟨by simp only;omega,q2⟩
 ·rcases xc i l hl with⟨rfl,rfl⟩|⟨h1,h2⟩
  ·refine⟨_,rn,c',lo,hi,hb,eM,by simp,fun j v hvj=>?_,fun j x hj hx=>?_,fun h=>by cases h⟩
   ·have hj:j<r.n:=by have:=(xB.1 hvj).1;simpa using this
    have GW:v=r.g j:=by simpa[hj]using hvj.symm
    subst GW
    exact⟨_,fX j hj,VR.mono dw _ _ (hv j hj)⟩
   ·have hj:j<r.n:=hj
    rw[fX j hj]at hx
    simp only[an]at hx
    subst hx
    exact g3 j hj
  ·obtain⟨o,q1,q2⟩:=s.hr.obj i l h2
   exact⟨o,by rw[hold i h1];exact q1,q2.mono dw⟩
 ·rw[pL i l o iP ho]at hw;cases hw
 ·obtain⟨t,ht⟩:=s.hr.ic g hg
  exact⟨t,dw _ _ ht⟩
def tG.slice(s:tG P W μ S){r:Th}(mW:r.ok W)(hv:∀i,i<r.n->VR μ (r.g i) (r.f i)){len cap z:Nat}(hn:r.n=cap*z)(hl:len<=cap)(hz:0<z):
  ∃μ' S' i,tG P W μ' S'/\vi μ S μ' S'/\VR μ' (.slice i 0 len (some cap) z) (.slice (some r.a) len cap)/\i<S'.n/\S'.h.get i=some (.cells ((List.range r.n).map r.g) (Ed W r.a) false):=by
 obtain⟨μ',S',q1,q2,q3,q4,q5⟩:=s.row mW hv
 refine⟨μ',S',S.n,q1,q2,?_,by omega,q5⟩
 obtain⟨⟨b,off,sp⟩,n,f,g⟩:=r
 obtain⟨g1,g2,_⟩:=mW
 obtain⟨_,_,_,_,hs,_,_,_⟩:=Zy7 g1 g2
 simp only at hs hn q4
 subst hs
 simp only[VR]
 exact⟨⟨b,off,n⟩,cap,q4,by simp,hl,by simp[hn],fun k hk=>by simpa using hk,fun h=>by cases h⟩
def tG.list{P:Program}{W:World}{μ:Mu}{S:St}(s:tG P W μ S){i:nY}(hi:i.ok W):
  ∃μ' S' v,tG P W μ' S'/\vi μ S μ' S'/\VR μ' v i.val/\Sl S'.h S'.n v (strs i.strs):=by
 cases i with
 |nil=>exact⟨μ,S,.aa,s,vi.refl,by simp[nY.val,VR],Sl.nil⟩
 |emp b=>exact⟨μ,S,.empty,s,vi.refl,by simp[nY.val,VR],.inl ⟨rfl,.inr rfl⟩⟩
 |sl b l c f=>
  obtain⟨h1,h2,h3⟩:=hi
  obtain⟨μ',S',k,q1,q2,q3,q4,q5⟩:=s.slice (r:=⟨b,c,fun i=>.string (f i),fun i=>.str (f i).data.toList⟩) ⟨h2,h3,fun _ _=>rfl⟩ (fun i _=>by simp[VR]) (len:=l) (cap:=c) (z:=1) (by simp) h1 (by decide)
  refine⟨μ',S',_,q1,q2,q3,.inr ⟨k,0,some c,_,_,false,by simp[strs,nY.strs],q4,q5,fun j hj=>?_,by simp[strs,nY.strs];omega,fun k hk=>by simp[strs,nY.strs]at hk ⊢;omega⟩⟩
  have oR:j<l:=by simpa[strs,nY.strs]using hj
  simp[strs,nY.strs,oR,show j<c by omega]
inductive Yx5 where
 |nil
 |emp (b:Addr)
 |sl (b:Addr) (l c:Nat) (f:Nat->Int)
def tG.lists{P:Program}{W:World}{F:Nat->nY}:∀(n:Nat),(∀i,i<n->(F i).ok W)->∀{μ:Mu} {S:St},tG P W μ S->
  ∃μ' S',tG P W μ' S'/\vi μ S μ' S'/\∀i,i<n->∃v,VR μ' v (F i).val/\Sl S'.h S'.n v (strs (F i).strs)
 |0,_,μ,S,s=>⟨μ,S,s,vi.refl,fun i hi=>absurd hi (by omega)⟩
 |n+1,hF,μ,S,s=>by
  obtain⟨μ1,S1,s1,g1,a1⟩:=tG.lists n (fun i hi=>hF i (by omega)) s
  obtain⟨μ2,S2,v,s2,g2,a2,a3⟩:=s1.list (hF n (by omega))
  refine⟨μ2,S2,s2,g1.trans g2,fun i hi=>?_⟩
  by_cases e:i=n
  ·subst e;exact⟨v,a2,a3⟩
  ·obtain⟨u,b1,b2⟩:=a1 i (by omega)
   exact⟨u,VR.mono g2.mu _ _ b1,b2.ad g2.ad⟩
inductive qP where
 |nil
 |emp (b:Addr)
 |sl (b:Addr) (l c:Nat) (F:Nat->nY)
def qP.val:qP->Value
 |.nil=>.slice none 0 0
 |.emp b=>.slice (some b) 0 0
 |.sl b l c f=>.slice (some b) l c
def qP.ok(W:World):qP->Prop
 |.sl b l c F=>l<=c/\0<c/\∀i,i<c->W.cell? (b.add i)=some (F i).val/\(F i).ok W
 |_=>True
def qP.rows:qP->List (List aQ)
 |.sl b l c F=>(List.range l).map fun i=>(F i).strs
 |_=>[]
def nY.one{i:nY}:i.val.oneCell'=true:=by cases i<;>rfl
def tG.mat{P:Program}{W:World}{μ:Mu}{S:St}(s:tG P W μ S){m:qP}(hm:m.ok W):
  ∃μ' S' v,tG P W μ' S'/\vi μ S μ' S'/\VR μ' v m.val/\∃us:List V,Sl S'.h S'.n v us/\us.length=m.rows.length/\∀(j:Nat) (l:List aQ),m.rows[j]?=some l->∃u,us[j]?=some u/\Sl S'.h S'.n u (strs l):=by
 cases m with
 |nil=>exact⟨μ,S,.aa,s,vi.refl,by simp[qP.val,VR],[],Sl.nil,rfl,fun j l h=>by simp[qP.rows]at h⟩
 |emp b=>exact⟨μ,S,.empty,s,vi.refl,by simp[qP.val,VR],[],.inl ⟨rfl,.inr rfl⟩,rfl,fun j l h=>by simp[qP.rows]at h⟩
 |sl b l c F=>
  obtain⟨h1,h2,h3⟩:=hm
  obtain⟨μ1,S1,s1,g1,a1⟩:=tG.lists c (fun i hi=>(h3 i hi).2) s
  have hex:∀i,∃v:V,i<c->VR μ1 v (F i).val/\Sl S1.h S1.n v (strs (F i).strs):=fun i=>by
   by_cases hi:i<c
   ·obtain⟨v,hv⟩:=a1 i hi;exact⟨v,fun _=>hv⟩
   ·exact⟨.aa,fun h=>absurd h hi⟩
  obtain⟨g,hg⟩:=Classical.axiomOfChoice hex
  obtain⟨μ',S',k,q1,q2,q3,q4,q5⟩:=s1.slice (r:=⟨b,c,fun i=>(F i).val,g⟩) ⟨h2,fun i hi=>(h3 i hi).1,fun _ _=>nY.one⟩ (fun i hi=>(hg i hi).1) (len:=l) (cap:=c) (z:=1) (by simp) h1 (by decide)
  refine⟨μ',S',_,q1,g1.trans q2,q3,(List.range l).map g,.inr ⟨k,0,some c,_,_,false,by simp,q4,q5,fun j hj=>?_,by simp;omega,fun k hk=>by simp at hk ⊢;omega⟩,by simp[qP.rows],fun j x hj=>?_⟩
  ·have oR:j<l:=by simpa using hj
   simp[oR,show j<c by omega]
  ·have HR:j<l:=by
    apply tW;intro hc
    rw[fv (by simp[qP.rows];omega)]at hj;cases hj
   have hx:x=(F j).strs:=by simpa[qP.rows,HR]using hj.symm
   subst hx
   exact⟨g j,by simp[HR],((hg j (by omega)).2).ad q2.ad⟩
open Go Go.ChangeShapes Go.WideShapes Go.RowKit Go.Deep
variable {P:Program}
def qQ{t s:TypeId}(ht:P.underlying t=some (.slice s))(hs:P.underlying s=some .string)(hc:P.cellsOf s=1){H:Type}{enc:TypeId×Value->H}{W:World}{fuel:Nat}{c:Value}{x:DataW H×List MemPlace}
  (h:DataW.trod enc P W 0 (fun _=>true) true fuel t [c]=some x):∃i:nY,c=i.val/\i.ok W/\i.strs.length<9223372036854775808:=by
 rcases open_slice1 ht hc h with⟨hc,_⟩|⟨a,len,cap,m,n,Vf,D,Pl,hc,_,hl,dm,hm,_,hx⟩
 ·have pW:c=.slice none 0 0:=by simpa using hc
  exact⟨.nil,pW,trivial,by simp[nY.strs]⟩
 ·simp only[if_true]at hm
  subst hm
  have pW:c=.slice (some a) len m:=by simpa using hc
  rcases G6 m with h0|h0
  ·subst h0
   have:len=0:=by omega
   subst this
   exact⟨.emp a,pW,trivial,by simp[nY.strs]⟩
  ·refine⟨.sl a len m fun i=>match Vf i with|.string s=>s|_=>⟨#[]⟩,pW,⟨hl,h0,fun i hi=>?_⟩,by simp only[nY.strs,gY,List.length_range];unfold maxLen at dm;omega⟩
   obtain⟨g1,g2⟩:=hx i hi
   obtain⟨s,e0,_⟩:=DataW.trod_string hs g2
   simp only[gU,and_true]at e0
   rw[g1]
   simp only[e0]
def uH{t l s:TypeId}(ht:P.underlying t=some (.slice l))(au:P.underlying l=some (.slice s))(hs:P.underlying s=some .string)(cO:P.cellsOf l=1)(hc:P.cellsOf s=1){H:Type}{enc:TypeId×Value->H}{W:World}{fuel:Nat}{c:Value}{x:DataW H×List MemPlace}
  (h:DataW.trod enc P W 0 (fun _=>true) true fuel t [c]=some x):∃m:qP,c=m.val/\m.ok W/\m.rows.length<9223372036854775808/\∀r∈m.rows,r.length<9223372036854775808:=by
 rcases open_slice1 ht cO h with⟨hc,_⟩|⟨a,len,cap,m,n,Vf,D,Pl,pW,_,hl,dm,hm,_,hx⟩
 ·have pW:c=.slice none 0 0:=by simpa using hc
  exact⟨.nil,pW,trivial,by simp[qP.rows],fun r hr=>by simp[qP.rows]at hr⟩
 ·simp only[if_true]at hm
  subst hm
  have pW:c=.slice (some a) len m:=by simpa using pW
  rcases G6 m with h0|h0
  ·subst h0
   have:len=0:=by omega
   subst this
   exact⟨.emp a,pW,trivial,by simp[qP.rows],fun r hr=>by simp[qP.rows]at hr⟩
  ·have dK:∀i,∃s:nY,i<m->Vf i=s.val/\s.ok W/\s.strs.length<9223372036854775808:=fun i=>by
    by_cases hi:i<m
    ·obtain⟨g1,g2⟩:=hx i hi
     obtain⟨s,q⟩:=qQ au hs hc g2
     exact⟨s,fun _=>q⟩
    ·exact⟨.nil,fun h=>absurd h hi⟩
   obtain⟨F,hF⟩:=Classical.axiomOfChoice dK
   refine⟨.sl a len m F,pW,⟨hl,h0,fun i hi=>⟨?_,(hF i hi).2.1⟩⟩,by simp only[qP.rows,gY,List.length_range];unfold maxLen at dm;omega,fun r hr=>?_⟩
   ·rw[(hx i hi).1,(hF i hi).1]
   ·obtain⟨i,hi,rfl⟩:=eC.1 hr
    exact(hF i (by have:=yA.1 hi;omega)).2.2
def sX{W:World}{laid:List (String×DataW Unit)}{name:String}{k:IntKind}{zs:List Int}{g:Nat}{t e:TypeId}{n:Nat}{z:Array Value}
  (hg:P.globalNamed name=some g) (Pa:(P.globals[g]?).map (·.type)=some t) (ht:P.underlying t=some (.array n e)) (he:P.underlying e=some (.int k)) (hce:P.cellsOf e=1) (hct:P.cellsOf t=n)
  (hf:laid.filter (fun x=>x.1==name)=[(name,Lib.tabData k zs)]) (au:g<P.globals.size) (hz:((begin P (fun _ _=>0) default).world.heap[g]?).bind Obj.row?=some (z,t))
  (hl:laidMet P laid W) (hs:W.ShapedOpen P):jq P W [(g,.cells (zs.map fun z=>V.int k z) t false)]:=by
 have h1:=laidMet.filter (fun x=>x.1==name) hl
 rw[hf]at h1
 have h2:=Lib.tabIs_of_head hg Pa ht he hce hct h1
 unfold Lib.TabIs World.var? at h2
 rw[hg]at h2
 obtain⟨cs,h3,_⟩:=hs.1 g z t au hz
 simp only[Option.bind_some,h3,an]at h2
 subst h2
 exact jq.one h3
end
end Go.Mx
