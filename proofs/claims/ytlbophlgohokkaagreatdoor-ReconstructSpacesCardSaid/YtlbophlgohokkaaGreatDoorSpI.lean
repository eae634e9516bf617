/-
  lensletref05: CheckBasis, Same; lensletlaw05.when.
-/
import Derived.Test.YtlbophlgohokkaaGreatDoorSpH
import Derived.Test.YtlbophlgohokkaaGreatDoorCoE
import Derived.Test.YtlbophlgohokkaaGreatDoorCoL
import Derived.Test.YtlbophlgohokkaaGreatDoorMxTab
import Derived.Test.YtlbophlgohokkaaGreatDoorMxWord
import Derived.Test.YtlbophlgohokkaaGreatDoorMxLim
import Derived.Test.YtlbophlgohokkaaGreatDoorMxDec
import Derived.Deep.Slices
import Derived.Lib.LaidTab
import Derived.LaidSub
import Derived.ChangeShapes
import Derived.WideShapes
set_option linter.all false
namespace Go.Mx
open Go Go.Proofs
variable {N:Nat} {h:T O} {v:V}
set_option maxRecDepth 1000000
def A.zci:aq:=.seq (sr [mv 10 5,mv 11 0,ln 12 11,bi 13 .lss 10 12]
 (cd 13
 (.skip)
 (.exit 0)))
 (.seq (.block 1 (sr [mv 16 0,mv 17 5,ia 18 1 16 17,ld 19 18,mv 20 1,c2 21 16 19 20,mv 6 21]
 (sr [mv 22 6,ni 23 22 0]
 (cd 23
 (sr [mv 24 6,mv 4 24]
 (.ret))
 (.skip)))))
 (.aL [mv 14 5,bc 15 .add 14 1,mv 5 15]))
def A.b53:aq:=sr [mc 4 0]
 (.seq (sr [mv 7 0,ln 8 7,bc 9 .gtr 8 16]
 (cd 9
 (sr [mc 4 5]
 (.ret))
 (.skip)))
 (.seq (sr [mc 5 0]
 (.block 0 (.loop A.zci)))
 (sr [mc 4 0]
 (.ret))))
theorem A.c53:A.F 53=some ⟨25,[.tmp 4],A.b53⟩:=by kernel_rfl
def A.k53:=@A.kk 53 _ _ _ A.c53 rfl
def A.b54:aq:=sr [mc 4 0]
 (.seq (sr [mv 5 0]
 (cd 5
 (sr [mv 6 1,mv 4 6]
 (.ret))
 (.skip)))
 (sr [mc 4 0]
 (.ret)))
theorem A.c54:A.F 54=some ⟨7,[.tmp 4],A.b54⟩:=by kernel_rfl
def A.k54:=@A.kk 54 _ _ _ A.c54 rfl
theorem Ygx{b:Bool}{e:Int}{st:St}:A.C.call (.func 54 [] []) [.bool b,.int .i64 e] st=some (.int .i64 (if b=true then e else 0),st):=by
 obtain⟨h,N,w⟩:=st
 apply Call.eq
 rw[aP,A.k54 (by simp)]
 cases b with
 |true=>simp[A.b54]
 |false=>simp[A.b54]
theorem Ype{n:Nat}{l:List (List aX)}(hs:gI h N v l)(hl:l.length<100000)(hx:∀x∈l,x.length<100000/\∀s∈x,s.length<=100000):Fn A.C 53 [v,.int .i64 n] h N (fun u _ _=>u=.int .i64 (qV l n)):=by
 intro w
 have lg:=hs.len
 have zg:((16:Int)<(l.length:Int))=(16<l.length):=by apply propext;omega
 rw[aP,A.k53 (by simp)]
 by_cases xC:16<l.length
 ·have e:qV l n=5:=by simp[qV,bV,xC]
  simp[A.b53,lg,zg,xC,aA,e]
  exact ab.refl
 ·have e:qV l n=bV (l.map fun x=>fI x n):=by simp[qV,bV,xC];exact fun h=>h.symm
  rw[e]
  simp[A.b53,lg,zg,xC]
  refine bN [(4,6),(10,24)] (fun e r st=>au N st.w=[]/\ab h N st.h st.n/\((e=.exit 0/\bV (l.map fun x=>fI x n)=0)\/(e=.ret/\r.get 4=some (.int .i64 (bV (l.map fun x=>fI x n)))))) (fun m r st=>au N st.w=[]/\ab h N st.h st.n/\∃k,k+m=l.length/\r.get 5=some (.int .i64 k)/\bV (l.map fun x=>fI x n)=bV ((l.drop k).map fun x=>fI x n)) l.length ?_ ?_ ?_
  ·exact⟨by simp,ab.refl,0,by omega,by simp,by simp⟩
  ·rintro m r ⟨H,n1,W⟩ hr dX ⟨hW,hK,k,hk,h5,hz⟩
   simp only at hW hK
   rw[bn]
   cases m with
   |zero=>
    obtain rfl:k=l.length:=by omega
    rw[lP,ql,bV]at hz
    simp[A.zci,hr,dX,h5,lg,hz,hW,hK]
   |succ m=>
    have aB:k<l.length:=by omega
    obtain⟨s,hc⟩:=bs aB
    obtain⟨i,o,cc,e,rw,u,q1,q2,q3,q4,q5⟩:=(hs.ad hK).at hc
    obtain⟨x1,x2⟩:=hx s (cm hc)
    rw[fP hc,jU,bV]at hz
    have bU:(k:Int)<(l.length:Int):=by omega
    simp[A.zci,hr,h5,bU,lg,q1,q3,q4]
    refine ax (Zs q5 x1 x2) ?_
    rintro _ h3 n3 k3 rfl
    have kk:=hK.trans k3
    by_cases h0:fI s n=0
    ·rw[aF h0]at hz
     simp(disch:=first|(simp;done)|omega|rfl) [dX,h5,h0,hW]
     exact⟨m,by omega,kk,k+1,by omega,by simp,by simpa using hz⟩
    ·rw[ar h0]at hz
     simp[dX,h0,hW,hz]
     exact kk
  ·rintro _ r ⟨H,n1,W⟩ hr ⟨hW,hK,⟨rfl,hz⟩|⟨rfl,h2⟩⟩
   ·simp only at hW hK
    simp[hz,aA,hW,hK]
   ·simp only at hW hK
    simp[h2,aA,hW,hK]
theorem Yfd{u:V}{a b:List aX}{w:List Nat}(hu:Sl h N u (strs a))(hv:Sl h N v (strs b))(hl:a.length<100000)(jq:b.length<100000):A.C.call (.func 60 [] []) [u,v] ⟨h,N,w⟩=some (.bool (decide (a=b)),⟨h,N,w⟩):=by
 apply Call.eq
 have l1:=hu.len
 have l2:=hv.len
 rw[rE]at l1 l2
 rw[aP,A.k60 (by simp)]
 by_cases e:a.length=b.length
 ·simp[A.b60,l1,l2,e]
  refine bN [(4,5),(11,25)] (fun x r st=>st=⟨h,N,[]⟩/\((x=.exit 0/\a=b)\/(x=.ret/\a≠b/\r.get 4=some (.bool false)))) (fun m r st=>st=⟨h,N,[]⟩/\∃t,t+m=b.length/\r.get 5=some (.int .i64 t)/\(a=b↔a.drop t=b.drop t)) b.length ?_ ?_ ?_
  ·exact⟨rfl,0,by omega,by simp,by simp⟩
  ·rintro m r _ hr hf ⟨rfl,t,ht,h5,hz⟩
   rw[bn]
   cases m with
   |zero=>
    obtain rfl:t=b.length:=by omega
    have eH:a=b:=hz.2 (by rw[mi (by omega),mi (by omega)])
    simp[A.za4,hr,hf,h5,l1,e]
    exact eH
   |succ m=>
    have aB:t<b.length:=by omega
    have bj:(t:Int)<(b.length:Int):=by omega
    have xw:t<a.length:=by omega
    obtain⟨p,hp⟩:=bs xw
    obtain⟨q,hq⟩:=bs aB
    obtain⟨i,o,c,e1,rw,q1,q2,q3,q4⟩:=hu.at (zW hp)
    obtain⟨i',o',c',e',oD,p1,p2,p3,p4⟩:=hv.at (zW hq)
    rw[fP hp,fP hq,fL]at hz
    by_cases mP:p=q
    ·subst mP
     simp(disch:=first|(simp;done)|omega|rfl) [A.za4,hr,hf,h5,l1,l2,e,bj,q1,q2,q3,q4,p1,p2,p3,p4,fM]
     exact⟨m,by omega,t+1,by omega,by simp,by simpa using hz⟩
    ·have SL:(p==q)=false:=by simpa using mP
     simp[A.za4,hr,hf,h5,l1,l2,e,bj,q1,q2,q3,q4,p1,p2,p3,p4,fM,dn.dp,SL]
     exact fun hc=>mP (hz.1 hc).1
  ·rintro x r _ hr ⟨rfl,⟨rfl,hz⟩|⟨rfl,hz,h4⟩⟩
   ·simp[hz]
   ·simp[h4,hz]
 ·have e':¬(a.length:Int)=(b.length:Int):=by omega
  have eH:a≠b:=fun hc=>e (by rw[hc])
  simp[A.b60,l1,l2,e',eH]
theorem Yfk{u:V}{a:List (List aX)}{b:List (List Rat)}{w:List Nat}(hu:gI h N u a)(hv:iO h N v b)(hl:a.length<100000)(jq:b.length<100000)(hx:∀r∈a,r.length<100000)(hy:∀r∈b,r.length<100000):A.C.call (.func 55 [] []) [u,v] ⟨h,N,w⟩=some (.bool (decide (a=b.map fun r=>r.map aN)),⟨h,N,w⟩):=by
 apply Call.eq
 have l1:=hu.len
 have l2:=hv.len
 rw[aP,A.k55 (by simp)]
 obtain⟨b',nd⟩:∃b':List (List aX),b'=b.map fun r=>r.map aN:=⟨_,rfl⟩
 have lb:b'.length=b.length:=by rw[nd];simp
 rw[<-nd]
 by_cases e:a.length=b.length
 ·simp[A.b55,l1,l2,e]
  refine bN [(4,5),(11,26)] (fun x r st=>st=⟨h,N,[]⟩/\((x=.exit 0/\a=b')\/(x=.ret/\a≠b'/\r.get 4=some (.bool false)))) (fun m r st=>st=⟨h,N,[]⟩/\∃t,t+m=b.length/\r.get 5=some (.int .i64 t)/\(a=b'↔a.drop t=b'.drop t)) b.length ?_ ?_ ?_
  ·exact⟨rfl,0,by omega,by simp,by simp⟩
  ·rintro m r _ hr hf ⟨rfl,t,ht,h5,hz⟩
   rw[bn]
   cases m with
   |zero=>
    obtain rfl:t=b.length:=by omega
    have eH:a=b':=hz.2 (by rw[mi (by omega),mi (by omega)])
    simp[A.za3,hr,hf,h5,l1,e]
    exact eH
   |succ m=>
    have aB:t<b.length:=by omega
    have bj:(t:Int)<(b.length:Int):=by omega
    have xw:t<a.length:=by omega
    obtain⟨p,hp⟩:=bs xw
    obtain⟨q,hq⟩:=bs aB
    have mU:b'[t]?=some (q.map aN):=by rw[nd];simp[hq]
    obtain⟨i,o,c,e1,rw,x,q1,q2,q3,q4,q5⟩:=hu.at hp
    obtain⟨i',o',c',e',oD,y,p1,p2,p3,p4,p5⟩:=hv.at hq
    have hs:=fun w=>Yfd (w:=w) (b:=q.map aN) q5 p5 (hx p (cm hp)) (by simpa using hy q (cm hq))
    rw[fP hp,fP mU,fL]at hz
    by_cases mP:p=q.map aN
    ·simp only[decide_eq_true mP]at hs
     simp(disch:=first|(simp;done)|omega|rfl) [A.za3,hr,hf,h5,l1,l2,e,bj,q1,q2,q3,q4,p1,p2,p3,p4,hs]
     exact⟨m,by omega,t+1,by omega,by simp,by simpa[mP]using hz⟩
    ·simp only[decide_eq_false mP]at hs
     simp[A.za3,hr,hf,h5,l1,l2,e,bj,q1,q2,q3,q4,p1,p2,p3,p4,hs,dn.dp]
     exact fun hc=>mP (hz.1 hc).1
  ·rintro x r _ hr ⟨rfl,⟨rfl,hz⟩|⟨rfl,hz,h4⟩⟩
   ·simp[hz]
   ·simp[h4,hz]
 ·have e':¬(a.length:Int)=(b.length:Int):=by omega
  have eH:a≠b':=fun hc=>e (by rw[hc,lb])
  simp[A.b55,l1,l2,e',eH]
set_option maxHeartbeats 4000000
def A.b7:aq:=sr [⟨(some 4),.aZ (.const (.bool false)),none⟩]
 (.seq (sr [mv 14 0,⟨(some 15),.call (.const (.func 8 [] [])) [(.tmp 14),(.const (.int .i64 6)),(.const (.int .i64 6))],none⟩,⟨(some 16),.un .not (.tmp 15),none⟩,mv 17 16,mh 18 1 17,⟨(some 19),.call (.const (.func 8 [] [])) [(.tmp 18),(.const (.int .i64 6)),(.const (.int .i64 6))],(some (17,false))⟩,⟨(some 20),.un .not (.tmp 19),(some (17,false))⟩,pt 21 17 20]
 (cd 21
 (sr [⟨(some 22),.call (.const (.func 10 [] [])) [],none⟩,mv 4 22]
 (.ret))
 (.skip)))
 (sr [mv 24 0,c1 25 49 24,mv 23 25,xt 26 23 0,xt 27 23 1,mv 5 26,mv 6 27]
 (sr [mv 29 0,c1 30 50 29,mv 28 30,xt 31 28 0,xt 32 28 1,mv 7 31,mv 8 32]
 (sr [mv 33 0,mv 34 1,c2 35 51 33 34,mv 9 35]
 (sr [mv 36 0,c1 37 27 36,mv 10 37]
 (sr [mv 38 10,mv 11 38]
 (sr [mN 12,mN 13]
 (.seq (sr [mv 39 10,ei 40 39 0]
 (cd 40
 (sr [mv 41 0,c1 42 52 41,mv 43 0,c1 44 45 43,mv 12 42,mv 13 44]
 (.aL [mv 45 1,mv 46 0,⟨(some 47),.aI 1 (.tmp 46) (.const (.int .i64 0)),none⟩,ld 48 47,ln 49 48,c2 50 53 45 49,mv 51 1,mv 52 12,c2 53 55 51 52,⟨(some 54),.un .not (.tmp 53),none⟩,⟨(some 55),.call (.const (.func 54 [] [])) [(.tmp 54),(.const (.int .i64 21))],none⟩,⟨(some 56),.aY 3 1 2 [(.int .i64 0),(.int .i64 0)] [(0,1,(.tmp 50)),(1,1,(.tmp 55))],none⟩,c1 57 30 56,mv 11 57]))
 (.skip)))
 (sr [mv 58 5,mv 59 6,mv 60 12,mv 61 10,⟨(some 62),.call (.const (.func 29 [] [])) [(.tmp 58),(.tmp 59),(.tmp 60),(.tmp 61)],none⟩,mv 63 62,mg 64 7 63,mg 65 8 63,mg 66 13 63,mg 67 10 63,⟨(some 68),.call (.const (.func 29 [] [])) [(.tmp 64),(.tmp 65),(.tmp 66),(.tmp 67)],(some (63,true))⟩,pf 69 63 68,mv 70 69,mg 71 9 70,mg 72 11 70,⟨(some 73),.bin .eql (.aH .int) false (.tmp 71) (.tmp 72),(some (70,true))⟩,pf 74 70 73,mv 75 74,⟨(some 76),.call (.const (.func 10 [] [])) [],(some (75,true))⟩,pf 77 75 76,mv 4 77]
 (.ret))))))))))
theorem A.c7:A.F 7=some ⟨78,[.tmp 4],A.b7⟩:=by kernel_rfl
def A.k7:=@A.kk 7 _ _ _ A.c7 rfl
theorem Zt{m:List (List Rat)}(h:e_ m 400000):∀r∈m,∀q∈r,(aN q).length<1000000:=fun r hr q hq=>Nh (h r hr q hq) (by omega)
theorem Yjw{b:List (List aX)}{n:Nat}(h:Mb b n){m:List (List Rat)}:(b=m.map fun r=>r.map aN)↔m=gb b:=by
 have e:((gb b).map fun r=>r.map aN)=b:=by
  unfold gb
  rw[List.map_map]
  conv=>rhs;rw[<-List.map_id b]
  apply uj
  intro r hr
  exact(h.row r hr).2.ux
 have e2:∀m:List (List Rat),gb (m.map fun r=>r.map aN)=m:=fun m=>by
  unfold gb
  rw[List.map_map]
  conv=>rhs;rw[<-List.map_id m]
  apply uj
  intro r _
  show zf (r.map aN)=r
  unfold zf
  rw[List.map_map]
  conv=>rhs;rw[<-List.map_id r]
  apply uj
  intro q _
  exact Yfw q
 constructor
 ·intro hb
  rw[hb,e2]
 ·intro hm
  rw[hm,e]
theorem Yam{h:T O}{N:Nat}{u v:V}{m b:List (List aX)}(hm:gI h N u m)(hb:gI h N v b)(hP:jn h N)(b1:m.length<9223372036854775808)(b2:∀x∈m,x.length<9223372036854775808)(b3:b.length<9223372036854775808)(b4:∀x∈b,x.length<9223372036854775808):Fn A.C 7 [u,v] h N (fun z _ _=>z=.bool true):=by
 intro w
 have Zu:=fun w=>Nf (w:=w) hP
 have hA:∀w,A.C.call (.func 8 [] []) [u,.int .i64 6,.int .i64 6] ⟨h,N,w⟩=some (.bool (mb 6 6 m),⟨h,N,w⟩):=fun w=>Zv (w:=w) (n:=6) (p:=6) hm b1 b2 (by decide) (by decide)
 have Me:∀w,A.C.call (.func 8 [] []) [v,.int .i64 6,.int .i64 6] ⟨h,N,w⟩=some (.bool (mb 6 6 b),⟨h,N,w⟩):=fun w=>Zv (w:=w) (n:=6) (p:=6) hb b3 b4 (by decide) (by decide)
 have lu:=hm.len
 rw[aP,A.k7 (by simp)]
 cases sm:mb 6 6 m with
 |false=>
  rw[sm]at hA
  simp[A.b7,hA,Zu,aA]
  exact ab.refl
 |true=>
  rw[sm]at hA
  obtain⟨m1,m2⟩:=Ff sm
  cases sb:mb 6 6 b with
  |false=>
   rw[sb]at Me
   simp[A.b7,hA,Me,Zu,aA]
   exact ab.refl
  |true=>
   rw[sb]at Me
   obtain⟨x1,x2⟩:=Ff sb
   simp[A.b7,hA,Me]
   refine ax (Yh4 hm hP sm) ?_
   rintro _ H1 n1 k1 ⟨bv,bc,rfl,tB⟩
   simp[]
   refine ax (Zqi (hm.ad k1) (hP.ad k1) sm) ?_
   rintro _ H2 n2 k2 ⟨cv,cc,rfl,tC⟩
   have j2:=k1.trans k2
   simp[]
   refine ax (Zql (hm.ad j2) (hb.ad j2) sm sb) ?_
   rintro _ H3 n3 k3 rfl
   have j3:=j2.trans k3
   simp[]
   refine ax (Yfv (hm.ad j3) m1 m2) ?_
   rintro _ H4 n4 k4 rfl
   have j4:=j3.trans k4
   have SM:=((tB.ad k2).ad k3).ad k4
   have SN:=(tC.ad k3).ad k4
   unfold SK
   by_cases hE:jl m 64 16=0
   ·have hM:=Jf hE sm
    obtain⟨l1,l2,l3,l4,l5⟩:=hM.lens
    have SJ:=hM.n6
    have nZ:=SI hM
    have cr:=Zq hM
    have hx:=(hm.ad j4).rat fun r hr=>(hM.row r hr).2
    have m0:=hM.pos
    have m0':(0:Int)<(m.length:Int):=by omega
    simp[hE]
    refine ax (Ybc hx hM.qb.1 hM.I3 l2 hM.n1 hM.n6 hM.qb.2) ?_
    rintro x5 H5 n5 k5 t5
    have j5:=j4.trans k5
    simp[]
    refine ax (SG (hx.ad k5) hM.qb.1 l1 l2 l3 (by decide) hM.qb.2 l4) ?_
    rintro x6 H6 n6 k6 t6
    have j6:=j5.trans k6
    obtain⟨l0,ff⟩:=bs m0
    obtain⟨i0,o0,Mc,e0,AF,u0,z1,z2,z3,z4,z5⟩:=(hm.ad j6).at ff
    have z6:=z5.len
    rw[rE,(hM.row l0 (cm ff)).1]at z6
    rw[jR]at z4
    simp[lu,m0,z1,z3,z4,z6]
    refine ax (Ype (n:=gT m) (hb.ad j6) x1 x2) ?_
    rintro _ H7 n7 k7 rfl
    have j7:=j6.trans k7
    have t57:=(t5.ad k6).ad k7
    have t67:=t6.ad k7
    have sE:=NU hM.qb.1 hM.n6 hM.qb.2
    have hqC:=Jz hM.I3 hM.qb.1 hM.qb.2
    have hs:=fun w=>Yfk (w:=w) (hb.ad j7) t57 x1 (by show (xD m).length<_;omega) (fun r hr=>(x2 r hr).1) (fun r hr=>by rw[Jy r hr];omega)
    have hBt:=Zt sE
    have hCt:=Zt hqC
    have nF:bV [qV b (gT m),if b=(sF (gb m) (gT m)).map (fun r=>r.map aN) then 0 else 21]=(if qV b (gT m)=0 then if xD m=gb b then 0 else 21 else qV b (gT m)):=by
     by_cases iR:qV b (gT m)=0
     ·have hB:=Zr iR sb
      have:(b=(sF (gb m) (gT m)).map fun r=>r.map aN)=(xD m=gb b):=propext (Yjw hB)
      simp[bV,iR,this]
     ·simp[bV,iR]
    rw[hE]at SM SN
    have kD:ab H7 n7 (H7.set n7 (.cells [.int .i64 (qV b (gT m)),.int .i64 (if b=(sF (gb m) (gT m)).map (fun r=>r.map aN) then 0 else 21)] 3 true)) (n7+1):=ab.refl.new _
    have f0:=fun w=>Nf (w:=w) ((hP.ad j7).ad kD)
    have f1:=fun w=>Jh (w:=w) ((((SM.ad k5).ad k6).ad k7).ad kD) (fun _=>t57.ad kD) (by omega) (fun _ r hr=>⟨by rw[Jy r hr];omega,hBt r hr⟩)
    have f2:=fun w=>Jh (w:=w) ((((SN.ad k5).ad k6).ad k7).ad kD) (fun _=>t67.ad kD) (by omega) (fun _ r hr=>⟨by rw[DE hM.qb.1 r hr];omega,hCt r hr⟩)
    simp[hs,Ygx,ag,Ylp,nF,f0,f1,f2,aA]
    exact j7.trans kD
   ·have tB':xJ (jl m 64 16) [] bv bc H4 n4:=by
     rcases SM with s|⟨a,_⟩
     ·exact .inl s
     ·exact absurd a hE
    have tC':xJ (jl m 64 16) [] cv cc H4 n4:=by
     rcases SN with s|⟨a,_⟩
     ·exact .inl s
     ·exact absurd a hE
    have f1:=fun w=>Jh (w:=w) (u:=.aa) tB' (fun h=>absurd h hE) (by decide) (fun h=>absurd h hE)
    have f2:=fun w=>Jh (w:=w) (u:=.aa) tC' (fun h=>absurd h hE) (by decide) (fun h=>absurd h hE)
    have f0:=fun w=>Nf (w:=w) (hP.ad j4)
    simp[hE,f0,f1,f2,aA]
    exact j4
open Go
inductive jy where
 |nil
 |emp (b:Addr)
 |sl (b:Addr) (l c:Nat) (f:Nat->ByteArray)
def jy.val:jy->Value
 |.nil=>.slice none 0 0
 |.emp b=>.slice (some b) 0 0
 |.sl b l c f=>.slice (some b) l c
def jy.ok(W:World):jy->Prop
 |.sl b l c f=>l<=c/\0<c/\∀i,i<c->W.cell? (b.add i)=some (.string (f i))
 |_=>True
def jy.strs:jy->List aX
 |.sl b l c f=>(List.range l).map fun i=>(f i).data.toList
 |_=>[]
def zh(W:World)(a:Addr):TypeId:=match W.heap[a.block]? with
 |some (.cells _ e _)=>e
 |_=>0
def jy.mv(i:Nat):jy->V
 |.nil=>.aa
 |.emp b=>.empty
 |.sl b l c f=>.slice i 0 l (some c) 1
theorem Zw{W:World}{a:Addr}{n:Nat}{f:Nat->Value}(hn:0<n)(hc:∀i,i<n->W.cell? (a.add i)=some (f i)):
  ∃c' lo hi,W.heap[a.block]?=some (.cells c' (zh W a) (lo,hi))/\a.spot=none/\(∀i,i<n->c'[a.off+i]?=some (f i))/\a.off+n<=c'.size/\a.block<W.heap.size:=by
 have h0:=hc 0 hn
 have Qq:a.add 0=a:=by simp[Addr.add]
 rw[Qq]at h0
 obtain⟨c',e,fr,hb⟩:∃c' e fr,W.heap[a.block]?=some (.cells c' e fr):=by
  unfold World.cell? at h0
  split at h0
  ·rename_i c' e fr hb;exact⟨c',e,fr,hb⟩
  ·cases h0
 have hs:a.spot=none:=by
  unfold World.cell? at h0
  rw[hb]at h0
  simp only at h0
  split at h0
  ·cases h0
  ·rename_i h;simpa using h
 have fx:∀i,i<n->c'[a.off+i]?=some (f i):=fun i hi=>by
  have:=hc i hi
  unfold World.cell? at this
  have e1:(a.add i).block=a.block:=by unfold Addr.add;split<;>rfl
  have e2:(a.add i).off=a.off+i:=by unfold Addr.add;split<;>simp_all
  have e3:(a.add i).spot=none:=by unfold Addr.add;split<;>simp_all
  rw[e1,hb]at this
  simp only[e2,e3,Option.isSome_none,eL,if_false]at this
  exact this
 have aB:a.block<W.heap.size:=by
  rcases Nat.lt_or_ge a.block W.heap.size with h|h
  ·exact h
  ·rw[Array.getElem?_eq_none h]at hb;cases hb
 have ef:a.off+n<=c'.size:=by
  have:=fx (n-1) (by omega)
  have h2:=(Array.getElem?_eq_some_iff.1 this).1
  omega
 obtain⟨lo,hi⟩:=fr
 exact⟨c',lo,hi,by rw[hb];simp[zh,hb],hs,fx,ef,aB⟩
structure Mf where
 a:Addr
 n:Nat
 f:Nat->Value
 g:Nat->V
def Mf.ok(W:World)(r:Mf):Prop:=0<r.n/\(∀i,i<r.n->W.cell? (r.a.add i)=some (r.f i))/\∀i,i<r.n->(r.f i).oneCell'=true
theorem Zq7{P:Program}{dm:Nat->Option ji}{G:Nat}(hP:zj P dm G){x:cA}(hx:ik P x){F d:Nat}{f:FuncId}{mf:ji}(hf:td P f=some mf){args:List V}{xs:List Value}{v:V}{y:Value}{S:St}{μ:Mu}{W:World}
  (h:VN (yk mf (dE (tQ x dm F d) F) args S) v) (hh:bm P μ W S) (hS:S.w=[]) (wh:aW μ args xs) (hv:∀μ z,VR μ v z->z=y):
  Calls P f ⟨xs⟩ W fun e W'=>e=.returned y/\RowKit.Below W.heap.size W W':=by
 obtain⟨s,bI,hw⟩:=h.ex
 obtain⟨fn,wo,_⟩:=Ut hf
 have ih:=KE hP.m hP.e hP.t hx F d
 have:=Ur (Vs ih hP.e (Ug hP.m hP.e ih) (UB ih hP.e) (Uu ih) F) wo hf hh wh bI
 refine callsIn_wide.1 (CallsIn.mono (F:=Fence.wide) this fun e W' he=>?_)
 cases e with
 |returned z=>
  obtain⟨μ',ws,h1,h2⟩:=he
  have mC:ws=[]:=by have:=h2.wl;rw[hw,hS]at this;simpa using this.symm
  subst mC
  exact⟨by rw[hv _ _ h1],h2.dk.os,h2.dk.tape,h2.dk.output,h2.dk.size,fun k hk=>h2.dk.block k hk fun i hi=>by cases hi⟩
 |panicked _=>exact he.elim
 |outgrown=>exact he.elim
theorem Cx.calls{P:Program}{C:Cx}{G:Nat}(hP:zj P C.dm G)(hx:ik P C.x){f:Nat}{mf:ji}(hf:td P f=some mf)(ht:C.dm f=some mf){args:List V}{xs:List Value}{v:V}{y:Value}{S:St}{μ:Mu}{W:World}
  (hn:∀st,C.x (.func f [] []) args st=none) (h:Fn C f args S.h S.n (fun u _ _=>u=v)) (hh:bm P μ W S) (hS:S.w=[]) (wh:aW μ args xs) (hv:∀μ z,VR μ v z->z=y):
  Calls P f ⟨xs⟩ W fun e W'=>e=.returned y/\RowKit.Below W.heap.size W W':=by
 obtain⟨u,av,hc,hw,hk,hu⟩:=(h []).ex
 subst hu
 have hS':(⟨S.h,S.n,[]⟩:St)=S:=by obtain⟨a,b,c⟩:=S;simp only at hS;subst hS;rfl
 rw[hS']at hc
 rw[Cx.nz]at hc
 unfold oK at hc
 rw[hn]at hc
 simp only at hc
 obtain⟨n,rb⟩:=UL (q:=fun n=>dE (C.at n) n) (fun n m Zx=>vA (Cx.dJ Zx) n m Zx) (fun _ _ _ _ _ e=>Cx.mG e) hc
 unfold sS at rb
 simp only[ht,List.nil_append,sJ]at rb
 exact Zq7 (F:=n) (d:=n) hP hx hf ⟨_,rb,hw⟩ hh hS wh hv
variable {P:Program} {S:St} {W:World} {μ:Mu}
def qW(tb:List (Nat×O))(i:Nat):Nat:=match lk tb i with
 |some (.cells c _ _)=>c.length
 |_=>0
def ij(P:Program)(W:World)(tb:List (Nat×O)):Prop:=∀i o,lk tb i=some o->∀μ,OM P μ W o ⟨i,0,qW tb i⟩
theorem ij.one{g:Nat}{k:IntKind}{zs:List Int}{e:TypeId}{f:Nat×Nat}(h:W.heap[g]?=some (.cells (zs.map fun z=>Value.int k z).toArray e f)):ij P W [(g,.cells (zs.map fun z=>V.int k z) e false)]:=by
 intro i o ho μ
 obtain⟨lo,hi⟩:=f
 simp only[lk]at ho
 split at ho
 ·rename_i hb
  have:=iH hb
  subst this
  simp only[ai]at ho
  subst ho
  have hl:qW [(g,O.cells (zs.map fun z=>V.int k z) e false)] g=zs.length:=by simp[qW,lk,hb]
  rw[hl]
  refine⟨_,lo,hi,h,by simp,by simp,fun j v hv=>?_,fun j x hj hx=>?_,fun h=>by cases h⟩
  ·rw[iX]at hv
   cases hz:zs[j]? with
   |none=>rw[hz]at hv;cases hv
   |some z=>
    rw[hz]at hv
    simp only[wE,ai]at hv
    subst hv
    exact⟨.int k z,by simp[hz],by simp[VR]⟩
  ·simp only[qm,List.getElem?_toArray,iX,iA]at hx
   obtain⟨z,_,rfl⟩:=hx
   rfl
 ·cases ho
structure oa (P:Program) (W:World) (μ:Mu) (S:St):Prop where
 hr:bm P μ W S
 w:S.w=[]
 ro:∀i l o,μ i=some l->S.h.get i=some o->o.wr=false
structure pU (μ:Mu) (S:St) (μ':Mu) (S':St):Prop where
 mu:∀i l,μ i=some l->μ' i=some l
 ad:ab S.h S.n S'.h S'.n
theorem pU.refl:pU μ S μ S:=⟨fun _ _ h=>h,ab.refl⟩
theorem pU.trans{μ1 μ2:Mu}{S1 S2:St}(a:pU μ S μ1 S1)(b:pU μ1 S1 μ2 S2):pU μ S μ2 S2:=⟨fun i l h=>b.mu i l (a.mu i l h),a.ad.trans b.ad⟩
theorem Ykg{tb:List (Nat×O)}{G:Nat}(hG:P.globals.size=G)(hW:G<=W.heap.size)(jW:G7 G tb=true)(zz:ij P W tb):∃μ,oa P W μ (Au G tb):=by
 subst hG
 have get:∀i,i<P.globals.size->(Au P.globals.size tb).h.get i=some (match lk tb i with|some o=>o|none=>.dead):=fun i hi=>by
  show (pg (tS P.globals.size) tb).get i=_
  rw[xo]
  cases lk tb i with
  |some o=>rfl
  |none=>exact Kz _ _ hi
 have Zy:∀i o,i<P.globals.size->(Au P.globals.size tb).h.get i=some o->o.wr=false:=fun i o hi ho=>by
  rw[get i hi]at ho
  simp only[ai]at ho
  cases hl:lk tb i with
  |none=>rw[hl]at ho;subst ho;rfl
  |some o'=>
   rw[hl]at ho
   simp only at ho
   subst ho
   have:=(PZ jW hl).2
   cases o' with
   |cells c e rw=>cases rw with
    |true=>cases this
    |false=>rfl
   |_=>cases this
 have Mg:∀i l,(fun i=>if i<P.globals.size then some (⟨i,0,qW tb i⟩:L) else none) i=some l->i<P.globals.size/\l=⟨i,0,qW tb i⟩:=fun i l h=>by
  simp only at h
  split at h
  ·rename_i hi;simp only[ai]at h;exact⟨hi,h.symm⟩
  ·cases h
 refine⟨fun i=>if i<P.globals.size then some ⟨i,0,qW tb i⟩ else none,⟨fun i l hl=>?_,fun i l hl=>?_,fun i j l l' o o' hi hj bA ho rl hw kg=>?_,fun g hg=>⟨qW tb g,by simp[hg]⟩⟩,rfl,fun i l o hl ho=>?_⟩
 ·obtain⟨h,rfl⟩:=Mg i l hl
  exact⟨h,by simp only;omega⟩
 ·obtain⟨h,rfl⟩:=Mg i l hl
  refine⟨_,get i h,?_⟩
  cases mm:lk tb i with
  |none=>trivial
  |some o=>exact zz i o mm _
 ·rw[Zy i o (Mg i l hi).1 ho]at hw;cases hw
 ·exact Zy i o (Mg i l hl).1 ho
theorem Yjy{tb:List (Nat×O)}{G g:Nat}{o:O}(h:lk tb g=some o):(Au G tb).h.get g=some o:=by
 show (pg (tS G) tb).get g=_
 rw[xo,h]
theorem oa.row(s:oa P W μ S){r:Mf}(jW:r.ok W)(hv:∀i,i<r.n->VR μ (r.g i) (r.f i)):
  ∃μ' S',oa P W μ' S'/\pU μ S μ' S'/\S'.n=S.n+1/\μ' S.n=some ⟨r.a.block,r.a.off,r.n⟩/\S'.h.get S.n=some (.cells ((List.range r.n).map r.g) (zh W r.a) false):=by
 obtain⟨g1,g2,g3⟩:=jW
 obtain⟨c',lo,hi,hb,hs,fx,ef,aB⟩:=Zw g1 g2
 have dc:∀i l,μ i=some l->(fun i=>if i=S.n then some (⟨r.a.block,r.a.off,r.n⟩:L) else μ i) i=some l:=fun i l hl=>by
  have:=(s.hr.cK i l hl).1
  simp only
  rw[ar (by omega)];exact hl
 have qX:∀i l,(fun i=>if i=S.n then some (⟨r.a.block,r.a.off,r.n⟩:L) else μ i) i=some l->(i=S.n/\l=⟨r.a.block,r.a.off,r.n⟩)\/(i≠S.n/\μ i=some l):=fun i l h=>by
  simp only at h
  split at h
  ·rename_i e;simp only[ai]at h;exact .inl ⟨e,h.symm⟩
  ·rename_i e;exact .inr ⟨e,h⟩
 have mY:(S.h.set S.n (.cells ((List.range r.n).map r.g) (zh W r.a) false)).get S.n=some (.cells ((List.range r.n).map r.g) (zh W r.a) false):=by simp[T.ah]
 have hold:∀i,i≠S.n->(S.h.set S.n (.cells ((List.range r.n).map r.g) (zh W r.a) false)).get i=S.h.get i:=fun i hi=>by simp[T.ah,hi]
 have jX:∀i l o,(fun i=>if i=S.n then some (⟨r.a.block,r.a.off,r.n⟩:L) else μ i) i=some l->(S.h.set S.n (.cells ((List.range r.n).map r.g) (zh W r.a) false)).get i=some o->o.wr=false:=fun i l o hl ho=>by
  rcases qX i l hl with⟨rfl,rfl⟩|⟨h1,h2⟩
  ·rw[mY]at ho;simp only[ai]at ho;subst ho;rfl
  ·rw[hold i h1]at ho;exact s.ro i l o h2 ho
 refine⟨_,⟨S.h.set S.n (.cells ((List.range r.n).map r.g) (zh W r.a) false),S.n+1,[]⟩,⟨⟨fun i l hl=>?_,fun i l hl=>?_,fun i j l l' o o' gZ hj bA ho rl hw kg=>?_,fun g hg=>?_⟩,rfl,jX⟩,⟨dc,by simp,fun i hi=>hold i (by omega)⟩,rfl,by simp,mY⟩
 ·rcases qX i l hl with⟨rfl,rfl⟩|⟨h1,h2⟩
  ·exact⟨by simp,aB⟩
  ·obtain⟨q1,q2⟩:=s.hr.cK i l h2
   exact⟨by simp only;omega,q2⟩
 ·rcases qX i l hl with⟨rfl,rfl⟩|⟨h1,h2⟩
  ·refine⟨_,mY,c',lo,hi,hb,ef,by simp,fun j v Zz=>?_,fun j x hj hx=>?_,fun h=>by cases h⟩
   ·have hj:j<r.n:=by have:=(tn.1 Zz).1;simpa using this
    have BX:v=r.g j:=by simpa[hj]using Zz.symm
    subst BX
    exact⟨_,fx j hj,VR.mono dc _ _ (hv j hj)⟩
   ·have hj:j<r.n:=hj
    rw[fx j hj]at hx
    simp only[ai]at hx
    subst hx
    exact g3 j hj
  ·obtain⟨o,q1,q2⟩:=s.hr.obj i l h2
   exact⟨o,by rw[hold i h1];exact q1,q2.mono dc⟩
 ·rw[jX i l o gZ ho]at hw;cases hw
 ·obtain⟨t,ht⟩:=s.hr.fE g hg
  exact⟨t,dc _ _ ht⟩
theorem oa.slice(s:oa P W μ S){r:Mf}(jW:r.ok W)(hv:∀i,i<r.n->VR μ (r.g i) (r.f i)){len cap z:Nat}(hn:r.n=cap*z)(hl:len<=cap)(hz:0<z):
  ∃μ' S' i,oa P W μ' S'/\pU μ S μ' S'/\VR μ' (.slice i 0 len (some cap) z) (.slice (some r.a) len cap)/\i<S'.n/\S'.h.get i=some (.cells ((List.range r.n).map r.g) (zh W r.a) false):=by
 obtain⟨μ',S',q1,q2,q3,q4,q5⟩:=s.row jW hv
 refine⟨μ',S',S.n,q1,q2,?_,by omega,q5⟩
 obtain⟨⟨b,off,sp⟩,n,f,g⟩:=r
 obtain⟨g1,g2,_⟩:=jW
 obtain⟨_,_,_,_,hs,_,_,_⟩:=Zw g1 g2
 simp only at hs hn q4
 subst hs
 simp only[VR]
 exact⟨⟨b,off,n⟩,cap,q4,by simp,hl,by simp[hn],fun k hk=>by simpa using hk,fun h=>by cases h⟩
theorem oa.list{P:Program}{W:World}{μ:Mu}{S:St}(s:oa P W μ S){i:jy}(hi:i.ok W):
  ∃μ' S' v,oa P W μ' S'/\pU μ S μ' S'/\VR μ' v i.val/\Sl S'.h S'.n v (strs i.strs):=by
 cases i with
 |nil=>exact⟨μ,S,.aa,s,pU.refl,by simp[jy.val,VR],Sl.nil⟩
 |emp b=>exact⟨μ,S,.empty,s,pU.refl,by simp[jy.val,VR],.inl ⟨rfl,.inr rfl⟩⟩
 |sl b l c f=>
  obtain⟨h1,h2,h3⟩:=hi
  obtain⟨μ',S',k,q1,q2,q3,q4,q5⟩:=s.slice (r:=⟨b,c,fun i=>.string (f i),fun i=>.str (f i).data.toList⟩) ⟨h2,h3,fun _ _=>rfl⟩ (fun i _=>by simp[VR]) (len:=l) (cap:=c) (z:=1) (by simp) h1 (by decide)
  refine⟨μ',S',_,q1,q2,q3,.inr ⟨k,0,some c,_,_,false,by simp[strs,jy.strs],q4,q5,fun j hj=>?_,by simp[strs,jy.strs];omega,fun k hk=>by simp[strs,jy.strs]at hk ⊢;omega⟩⟩
  have ku:j<l:=by simpa[strs,jy.strs]using hj
  simp[strs,jy.strs,ku,show j<c by omega]
inductive Mh where
 |nil
 |emp (b:Addr)
 |sl (b:Addr) (l c:Nat) (f:Nat->Int)
def Mh.val:Mh->Value
 |.nil=>.slice none 0 0
 |.emp b=>.slice (some b) 0 0
 |.sl b l c f=>.slice (some b) l c
def Mh.ok(W:World):Mh->Prop
 |.sl b l c f=>l<=c/\0<c/\∀i,i<c->W.cell? (b.add i)=some (.int .i64 (f i))
 |_=>True
theorem oa.lists{P:Program}{W:World}{F:Nat->jy}:∀(n:Nat),(∀i,i<n->(F i).ok W)->∀{μ:Mu} {S:St},oa P W μ S->
  ∃μ' S',oa P W μ' S'/\pU μ S μ' S'/\∀i,i<n->∃v,VR μ' v (F i).val/\Sl S'.h S'.n v (strs (F i).strs)
 |0,_,μ,S,s=>⟨μ,S,s,pU.refl,fun i hi=>absurd hi (by omega)⟩
 |n+1,hF,μ,S,s=>by
  obtain⟨μ1,S1,s1,g1,a1⟩:=oa.lists n (fun i hi=>hF i (by omega)) s
  obtain⟨μ2,S2,v,s2,g2,a2,a3⟩:=s1.list (hF n (by omega))
  refine⟨μ2,S2,s2,g1.trans g2,fun i hi=>?_⟩
  by_cases e:i=n
  ·subst e;exact⟨v,a2,a3⟩
  ·obtain⟨u,b1,b2⟩:=a1 i (by omega)
   exact⟨u,VR.mono g2.mu _ _ b1,b2.ad g2.ad⟩
inductive mR where
 |nil
 |emp (b:Addr)
 |sl (b:Addr) (l c:Nat) (F:Nat->jy)
def mR.val:mR->Value
 |.nil=>.slice none 0 0
 |.emp b=>.slice (some b) 0 0
 |.sl b l c f=>.slice (some b) l c
def mR.ok(W:World):mR->Prop
 |.sl b l c F=>l<=c/\0<c/\∀i,i<c->W.cell? (b.add i)=some (F i).val/\(F i).ok W
 |_=>True
def mR.rows:mR->List (List aX)
 |.sl b l c F=>(List.range l).map fun i=>(F i).strs
 |_=>[]
theorem jy.one{i:jy}:i.val.oneCell'=true:=by cases i<;>rfl
theorem oa.ZA{P:Program}{W:World}{μ:Mu}{S:St}(s:oa P W μ S){m:mR}(hm:m.ok W):
  ∃μ' S' v,oa P W μ' S'/\pU μ S μ' S'/\VR μ' v m.val/\∃us:List V,Sl S'.h S'.n v us/\us.length=m.rows.length/\∀(j:Nat) (l:List aX),m.rows[j]?=some l->∃u,us[j]?=some u/\Sl S'.h S'.n u (strs l):=by
 cases m with
 |nil=>exact⟨μ,S,.aa,s,pU.refl,by simp[mR.val,VR],[],Sl.nil,rfl,fun j l h=>by simp[mR.rows]at h⟩
 |emp b=>exact⟨μ,S,.empty,s,pU.refl,by simp[mR.val,VR],[],.inl ⟨rfl,.inr rfl⟩,rfl,fun j l h=>by simp[mR.rows]at h⟩
 |sl b l c F=>
  obtain⟨h1,h2,h3⟩:=hm
  obtain⟨μ1,S1,s1,g1,a1⟩:=oa.lists c (fun i hi=>(h3 i hi).2) s
  have hex:∀i,∃v:V,i<c->VR μ1 v (F i).val/\Sl S1.h S1.n v (strs (F i).strs):=fun i=>by
   by_cases hi:i<c
   ·obtain⟨v,hv⟩:=a1 i hi;exact⟨v,fun _=>hv⟩
   ·exact⟨.aa,fun h=>absurd h hi⟩
  obtain⟨g,hg⟩:=Classical.axiomOfChoice hex
  obtain⟨μ',S',k,q1,q2,q3,q4,q5⟩:=s1.slice (r:=⟨b,c,fun i=>(F i).val,g⟩) ⟨h2,fun i hi=>(h3 i hi).1,fun _ _=>jy.one⟩ (fun i hi=>(hg i hi).1) (len:=l) (cap:=c) (z:=1) (by simp) h1 (by decide)
  refine⟨μ',S',_,q1,g1.trans q2,q3,(List.range l).map g,.inr ⟨k,0,some c,_,_,false,by simp,q4,q5,fun j hj=>?_,by simp;omega,fun k hk=>by simp at hk ⊢;omega⟩,by simp[mR.rows],fun j x hj=>?_⟩
  ·have ku:j<l:=by simpa using hj
   simp[ku,show j<c by omega]
  ·have Cc:j<l:=by
    apply oF;intro hc
    rw[eG (by simp[mR.rows];omega)]at hj;cases hj
   have hx:x=(F j).strs:=by simpa[mR.rows,Cc]using hj.symm
   subst hx
   exact⟨g j,by simp[Cc],((hg j (by omega)).2).ad q2.ad⟩
open Go Go.ChangeShapes Go.WideShapes Go.RowKit Go.Deep
variable {P:Program}
theorem Ybm{t s:TypeId}(ht:P.underlying t=some (.slice s))(hs:P.underlying s=some .string)(hc:P.cellsOf s=1){H:Type}{enc:TypeId×Value->H}{W:World}{fuel:Nat}{c:Value}{x:DataW H×List MemPlace}
  (h:DataW.trod enc P W 0 (fun _=>true) true fuel t [c]=some x):∃i:jy,c=i.val/\i.ok W/\i.strs.length<9223372036854775808:=by
 rcases open_slice1 ht hc h with⟨hc,_⟩|⟨a,len,cap,m,n,Vf,D,Pl,hc,_,hl,dh,hm,_,hx⟩
 ·have lV:c=.slice none 0 0:=by simpa using hc
  exact⟨.nil,lV,trivial,by simp[jy.strs]⟩
 ·simp only[if_true]at hm
  subst hm
  have lV:c=.slice (some a) len m:=by simpa using hc
  rcases Bn m with h0|h0
  ·subst h0
   have:len=0:=by omega
   subst this
   exact⟨.emp a,lV,trivial,by simp[jy.strs]⟩
  ·refine⟨.sl a len m fun i=>match Vf i with|.string s=>s|_=>⟨#[]⟩,lV,⟨hl,h0,fun i hi=>?_⟩,by simp only[jy.strs,si,List.length_range];unfold maxLen at dh;omega⟩
   obtain⟨g1,g2⟩:=hx i hi
   obtain⟨s,e0,_⟩:=DataW.trod_string hs g2
   simp only[fL,and_true]at e0
   rw[g1]
   simp only[e0]
theorem pn{t l s:TypeId}(ht:P.underlying t=some (.slice l))(aB:P.underlying l=some (.slice s))(hs:P.underlying s=some .string)(cr:P.cellsOf l=1)(hc:P.cellsOf s=1){H:Type}{enc:TypeId×Value->H}{W:World}{fuel:Nat}{c:Value}{x:DataW H×List MemPlace}
  (h:DataW.trod enc P W 0 (fun _=>true) true fuel t [c]=some x):∃m:mR,c=m.val/\m.ok W/\m.rows.length<9223372036854775808/\∀r∈m.rows,r.length<9223372036854775808:=by
 rcases open_slice1 ht cr h with⟨hc,_⟩|⟨a,len,cap,m,n,Vf,D,Pl,lV,_,hl,dh,hm,_,hx⟩
 ·have lV:c=.slice none 0 0:=by simpa using hc
  exact⟨.nil,lV,trivial,by simp[mR.rows],fun r hr=>by simp[mR.rows]at hr⟩
 ·simp only[if_true]at hm
  subst hm
  have lV:c=.slice (some a) len m:=by simpa using lV
  rcases Bn m with h0|h0
  ·subst h0
   have:len=0:=by omega
   subst this
   exact⟨.emp a,lV,trivial,by simp[mR.rows],fun r hr=>by simp[mR.rows]at hr⟩
  ·have dH:∀i,∃s:jy,i<m->Vf i=s.val/\s.ok W/\s.strs.length<9223372036854775808:=fun i=>by
    by_cases hi:i<m
    ·obtain⟨g1,g2⟩:=hx i hi
     obtain⟨s,q⟩:=Ybm aB hs hc g2
     exact⟨s,fun _=>q⟩
    ·exact⟨.nil,fun h=>absurd h hi⟩
   obtain⟨F,hF⟩:=Classical.axiomOfChoice dH
   refine⟨.sl a len m F,lV,⟨hl,h0,fun i hi=>⟨?_,(hF i hi).2.1⟩⟩,by simp only[mR.rows,si,List.length_range];unfold maxLen at dh;omega,fun r hr=>?_⟩
   ·rw[(hx i hi).1,(hF i hi).1]
   ·obtain⟨i,hi,rfl⟩:=jk.1 hr
    exact(hF i (by have:=wm.1 hi;omega)).2.2
theorem nN{W:World}{laid:List (String×DataW Unit)}{name:String}{k:IntKind}{zs:List Int}{g:Nat}{t e:TypeId}{n:Nat}{z:Array Value}
  (hg:P.globalNamed name=some g) (Is:(P.globals[g]?).map (·.type)=some t) (ht:P.underlying t=some (.array n e)) (he:P.underlying e=some (.int k)) (hce:P.cellsOf e=1) (Vc:P.cellsOf t=n)
  (hf:laid.filter (fun x=>x.1==name)=[(name,Lib.tabData k zs)]) (aB:g<P.globals.size) (hz:((begin P (fun _ _=>0) default).world.heap[g]?).bind Obj.row?=some (z,t))
  (hl:laidMet P laid W) (hs:W.ShapedOpen P):ij P W [(g,.cells (zs.map fun z=>V.int k z) t false)]:=by
 have h1:=laidMet.filter (fun x=>x.1==name) hl
 rw[hf]at h1
 have h2:=Lib.tabIs_of_head hg Is ht he hce Vc h1
 unfold Lib.TabIs World.var? at h2
 rw[hg]at h2
 obtain⟨cs,h3,_⟩:=hs.1 g z t aB hz
 simp only[Option.bind_some,h3,ai]at h2
 subst h2
 exact ij.one h3
end Go.Mx
