/-
  lensletref05: CheckSizes, CheckPokes.
-/
import Derived.Test.YtlbophlgohokkaaGreatDoorPkH
import Derived.Test.YtlbophlgohokkaaGreatDoorVaB
import Derived.Test.YtlbophlgohokkaaGreatDoorRcM
import Derived.Test.YtlbophlgohokkaaGreatDoorEcD
import Derived.Test.YtlbophlgohokkaaGreatDoorMxTab
import Derived.Test.YtlbophlgohokkaaGreatDoorMxWord
import Derived.Test.YtlbophlgohokkaaGreatDoorMxLim
import Derived.Test.YtlbophlgohokkaaGreatDoorMxDec
import Derived.Deep.Slices
import Derived.Lib.LaidTab
import Derived.LaidSub
import Derived.ChangeShapes
import Derived.WideShapes
set_option linter.all false
namespace Go.Mx
open Go Go.Proofs
variable {z:Nat}
set_option maxHeartbeats 4000000
set_option maxRecDepth 1000000
def A.b39:aq:=sr [mc 4 0]
 (.seq (sr [mv 5 0,bc 6 .lss 5 1,mv 7 6,mh 8 0 7,⟨(some 9),.bin .gtr (.node []) false (.tmp 8) (.const (.int .i64 64)),(some (7,false))⟩,pt 10 7 9,mv 11 10,mh 12 1 11,⟨(some 13),.bin .lss (.node []) false (.tmp 12) (.const (.int .i64 1)),(some (11,false))⟩,pt 14 11 13,mv 15 14,mh 16 1 15,⟨(some 17),.bin .gtr (.node []) false (.tmp 16) (.const (.int .i64 16)),(some (15,false))⟩,pt 18 15 17]
 (cd 18
 (sr [mc 4 3]
 (.ret))
 (.skip)))
 (sr [mc 4 0]
 (.ret)))
theorem A.c39:A.F 39=some ⟨19,[.tmp 4],A.b39⟩:=by kernel_rfl
def A.k39:=@A.kk 39 _ _ _ A.c39 rfl
def A.pz:aq:=.seq (sr [mv 70 11,mv 71 2,bi 72 .lss 70 71]
 (cd 72
 (.skip)
 (.exit 2)))
 (.seq (.block 3 (sr [mv 75 7,mv 76 11,ia 77 1 75 76,ld 78 77,⟨(some 79),.un .not (.tmp 78),none⟩]
 (cd 79
 (sr [mc 6 7]
 (.ret))
 (.skip))))
 (.aM [mv 73 11,bc 74 .add 73 1,mv 11 74]))
def A.mF:aq:=.seq (sr [mv 17 8,mv 18 0,ln 19 18,bi 20 .lss 17 19]
 (cd 20
 (.skip)
 (.exit 0)))
 (.seq (.block 1 (.seq (sr [mv 23 0,mv 24 8,ia 25 3 23 24,fa 26 0 25,ld 27 26,bc 28 .lss 27 0,mv 29 28,mh 30 0 29,mh 31 8 29,⟨(some 32),.aN 3 (.tmp 30) (.tmp 31),(some (29,false))⟩,⟨(some 33),.de 0 (.tmp 32),(some (29,false))⟩,⟨(some 34),.load none (.tmp 33),(some (29,false))⟩,mh 35 2 29,⟨(some 36),.bin .geq (.node []) false (.tmp 34) (.tmp 35),(some (29,false))⟩,pt 37 29 36]
 (cd 37
 (sr [mc 6 10]
 (.ret))
 (.skip)))
 (.seq (sr [mv 38 0,mv 39 8,ia 40 3 38 39,fa 41 1 40,ld 42 41,c1 43 93 42,mv 9 43]
 (sr [mv 44 9,ni 45 44 0]
 (cd 45
 (sr [mv 46 9,mv 6 46]
 (.ret))
 (.skip))))
 (.seq (sr [mv 47 0,mv 48 8,ia 49 3 47 48,fa 50 1 49,ld 51 50,c1 52 121 51]
 (cd 52
 (sr [mc 6 6]
 (.ret))
 (.skip)))
 (.seq (sr [mv 53 0,mv 54 8,ia 55 3 53 54,fa 56 2 55,ld 57 56,mv 58 1,c2 59 16 57 58,mv 10 59]
 (sr [mv 60 10,ni 61 60 0]
 (cd 61
 (sr [mv 62 10,mv 6 62]
 (.ret))
 (.skip))))
 (.aM [mv 63 7,mv 64 0,mv 65 8,ia 66 3 64 65,fa 67 0 66,ld 68 67,ia 69 1 63 68,⟨none,.store 1 (.tmp 69) (.const (.bool true)),none⟩]))))))
 (.aM [mv 21 8,bc 22 .add 21 1,mv 8 22]))
def A.b40:aq:=sr [mc 6 0]
 (.seq (sr [mv 12 0,ln 13 12,bc 14 .gtr 13 256]
 (cd 14
 (sr [mc 6 5]
 (.ret))
 (.skip)))
 (sr [mv 15 2,⟨(some 16),.bO 4 1 1 [(.bool false)] (.tmp 15) (.tmp 15),none⟩,mv 7 16]
 (.seq (sr [mc 8 0]
 (.block 0 (.loop A.mF)))
 (.seq (sr [mc 11 0]
 (.block 2 (.loop A.pz)))
 (sr [mc 6 0]
 (.ret))))))
theorem A.c40:A.F 40=some ⟨80,[.tmp 6],A.b40⟩:=by kernel_rfl
def A.k40:=@A.kk 40 _ _ _ A.c40 rfl
theorem Yod{s:a_}{st:St}:A.C.call (.func 121 [] []) [.str s] st=some (.bool (decide (s=[48])),st):=by
 apply Call.eq
 rw[aR,A.k121 (by simp)]
 by_cases c:s=[48]
 ·subst c
  simp[A.b121,gj]
 ·have e:(s==[48])=false:=by simpa using c
  simp[A.b121,gj,c,e]
theorem Ynm{S Z:Int}{st:St}:A.C.call (.func 39 [] []) [.int .i64 S,.int .i64 Z] st=some (.int .i64 (if S<1\/64<S\/Z<1\/16<Z then 3 else 0),st):=by
 apply Call.eq
 rw[aR,A.k39 (by simp)]
 by_cases c1:S<1
 ·simp[A.b39,c1]
 by_cases c2:64<S
 ·simp[A.b39,c1,c2]
 by_cases c3:Z<1
 ·simp[A.b39,c1,c2,c3]
 by_cases c4:16<Z
 ·simp[A.b39,c1,c2,c3,c4]
 ·simp[A.b39,c1,c2,c3,c4]
def wF(l:List Pk)(z:Nat):List V:=(List.range z).map fun k=>.bool (py l k)
theorem Ko{l:List Pk}:(wF l z).length=z:=by simp[wF]
theorem U8{l:List Pk}{k:Nat}(h:k<z):(wF l z)[k]?=some (.bool (py l k)):=by simp[wF,h]
theorem Yex:cN [V.bool false] z=wF [] z:=by
 unfold cN wF
 simp only[vO,vQ]
 apply Ba
 intro k _
 simp[Nat.mod_one,py]
theorem Ylj{l:List Pk}{p:Pk}{k:Nat}:py (l++[p]) k=(py l k||decide (p.act=(k:Int))):=by simp[py]
theorem Yew{l:List Pk}{p:Pk}{a:Nat}(ha:a<z)(hp:p.act=(a:Int)):ag (wF l z) a [V.bool true]=wF (l++[p]) z:=by
 have e:ag (wF l z) a [V.bool true]=(wF l z).set a (.bool true):=by
  unfold ag
  rw[List.set_eq_take_append_cons_drop,aF (by rw[Ko];exact ha)]
  simp
 rw[e]
 apply m7
 intro k
 rw[List.getElem?_set,Ko]
 by_cases hk:k<z
 ·rw[U8 hk,U8 hk,Ylj,hp]
  by_cases h:a=k
  ·subst h
   simp[ha]
  ·have:¬(a:Int)=(k:Int):=by omega
   simp[h,this]
 ·have h1:¬a=k:=by omega
  rw[au h1,gJ (by rw[Ko];omega),gJ (by rw[Ko];omega)]
def qp(l:List Pk)(s z:Nat):Int:=cn (l.map fun p=>cn (lF p s z))
def Oa(l:List Pk)(s z:Nat):Int:=if 256<l.length then 5 else if qp l s z=0 then (if (List.range z).all (py l)=true then 0 else 7) else qp l s z
theorem Yno{h:T O}{N:Nat}{v:V}{l:List Pk}{s:Nat}(hs:nY h N v l)(hl:l.length<100000)(yc:z<=16)(hx:∀p∈l,p.am.length<=100000/\p.sl.length<100000/\∀s∈p.sl,s.length<=100000):Fn A.C 40 [v,.int .i64 s,.int .i64 z] h N (fun u _ _=>u=.int .i64 (Oa l s z)):=by
 intro w
 have lg:=hs.len
 rw[aR,A.k40 (by simp)]
 unfold Oa
 by_cases c0:256<l.length
 ·have c0':(256:Int)<(l.length:Int):=by omega
  simp[A.b40,lg,c0,c0',aA]
  exact ab.refl
 have c0':¬(256:Int)<(l.length:Int):=by omega
 have d1:(z:Int)<=140737488355328:=by omega
 have d2:(z:Int)<4611686018427387904:=by omega
 have kB:ab h N (h.set N (.cells (cN [.bool false] z) 4 true)) (N+1):=ab.refl.new _
 simp[A.b40,lg,c0,c0',d1,d2]
 refine bQ [(6,6),(8,10),(17,69)] (fun e r st=>ad N st.w=[]/\ab h N st.h st.n/\((e=.exit 0/\qp l s z=0/\N<st.n/\st.h.get N=some (.cells (wF l z) 4 true))\/(e=.ret/\qp l s z≠0/\r.get 6=some (.int .i64 (qp l s z))))) (fun m r st=>ad N st.w=[]/\ab h N st.h st.n/\∃t,t+m=l.length/\r.get 8=some (.int .i64 (t:Nat))/\qp l s z=qp (l.drop t) s z/\N<st.n/\st.h.get N=some (.cells (wF (l.take t) z) 4 true)) l.length ?_ ?_ ?_
 ·exact⟨by simp,kB,0,by omega,by simp,by simp,by show N<N+1;omega,by rw[T.ai,aF rfl,Yex];rfl⟩
 ·rintro m r ⟨H,n,W⟩ hr hf ⟨hW,hK,t,ht,h8,hE,hN,hg⟩
  simp only at hW hK hN hg
  rw[bA]
  cases m with
  |zero=>
   obtain rfl:t=l.length:=by omega
   rw[eF (aS _)]at hg
   have hE:qp l s z=0:=by rw[hE,og];rfl
   simp[A.mF,hr,hf,h8,lg,hW,hK,hE,hN]
   exact hg
  |succ m=>
   have aD:t<l.length:=by omega
   have bm:(t:Int)<(l.length:Int):=by omega
   obtain⟨p,hp⟩:=bV aD
   obtain⟨x1,x2,x3⟩:=hx p (du hp)
   obtain⟨i,o,y,e,rw,u,q1,q2,q3,q4,q5,q6,q7,q8⟩:=(hs.ae hK).at hp
   have EY:qp l s z=if cn (lF p s z)=0 then qp (l.drop (t+1)) s z else cn (lF p s z):=by
    rw[hE,ke hp]
    rfl
   by_cases c1:p.act<0
   ·have yf:qp l s z=10:=by rw[EY];simp[lF,cn,c1]
    simp[A.mF,hr,hf,h8,lg,bm,q1,q3,q5,c1,hW,hK,yf]
   by_cases c2:(z:Int)<=p.act
   ·have yf:qp l s z=10:=by rw[EY];simp[lF,cn,c2]
    simp[A.mF,hr,hf,h8,lg,bm,q1,q3,q5,c1,c2,hW,hK,yf]
   simp[A.mF,hr,h8,lg,bm,q1,q3,q5,q6,c1,c2]
   refine ax (Zrb x1) ?_
   rintro _ H2 n2 k2 rfl
   have fu:=hK.trans k2
   by_cases c3:bk p.am=0
   ·obtain⟨i,o,y,e,rw,u,q1,q2,q3,q4,q5,q6,q7,q8⟩:=(hs.ae fu).at hp
    have El:=fun st=>Yod (s:=p.am) (st:=st)
    by_cases c4:p.am=[48]
    ·have e6:(if p.am=[48] then (6:Int) else 0)=6:=aF c4
     have e7:decide (p.am=[48])=true:=by simp[c4]
     rw[e7]at El
     have yf:qp l s z=6:=by
      rw[EY]
      unfold lF
      rw[e6]
      simp[cn,c1,c2,c3]
     simp[hr,hf,h8,lg,bm,q1,q3,q6,c3,El,hW,fu,yf]
    simp[hr,h8,lg,bm,q1,q3,q6,q7,c3,c4,El]
    refine ax (Yhd q8 x2 x3) ?_
    rintro _ H3 n3 k3 rfl
    have qm:=fu.trans k3
    have e9:(if (p.sl.length:Int)=(s:Int) then cn (p.sl.map fun s=>((bk s:Nat):Int)) else 2)=vu p.sl s:=by
     unfold vu
     by_cases c:p.sl.length=s<;>simp[c]
    have hE4:cn (lF p s z)=vu p.sl s:=by
     unfold lF
     rw[e9]
     simp[cn,c1,c2,c3,c4]
     exact fun h=>h.symm
    rw[hE4]at EY
    by_cases c5:vu p.sl s=0
    ·have yf:qp l s z=qp (l.drop (t+1)) s z:=by rw[EY,aF c5]
     obtain⟨i,o,y,e,rw,u,q1,q2,q3,q4,q5,q6,q7,q8⟩:=(hs.ae qm).at hp
     obtain⟨a,ha⟩:∃a:Nat,p.act=(a:Int):=⟨p.act.toNat,by omega⟩
     have haz:a<z:=by omega
     have zaA:(a:Int)<(z:Int):=by omega
     have U9:a+1<=z:=haz
     rw[ha]at q5
     have nw:=k2.le
     have zp:=k3.le
     have hg3:=(k3.get N (by omega)).trans ((k2.get N hN).trans hg)
     have Nh:N<n3:=by omega
     have Ke:¬N<N:=by omega
     have cg:=Ko (l:=l.take t) (z:=z)
     simp(disch:=first|(simp;done)|omega|(simp only[bl,bG,bh];omega)|rfl) [hr,hf,h8,lg,q1,q3,q5,c5,hg3,U9,bW,cg,Nh]
     refine⟨m,by omega,by simp[hW],qm.set (aS _),t+1,by omega,by simp,yf,?_⟩
     rw[Yew haz ha,pV,hp]
     rfl
    ·have yf:qp l s z=vu p.sl s:=by rw[EY];exact au c5
     simp[hf,c5,hW,qm,yf]
   ·have yf:qp l s z=(bk p.am:Nat):=by rw[EY];simp[lF,cn,c1,c2,c3]
    have c3':¬((bk p.am:Nat):Int)=0:=by omega
    simp[hf,c3,hW,fu,yf]
 ·rintro e r ⟨H,n,W⟩ hr ⟨hW,hK,⟨rfl,hE,hN,hg⟩|⟨rfl,hE,h6⟩⟩
  ·simp only at hW hK hN hg
   simp[hE]
   refine bQ [(6,6),(11,11),(70,79)] (fun e r st=>ad N st.w=[]/\ab h N st.h st.n/\((e=.exit 2/\∀x,x<z->py l x=true)\/(e=.ret/\(¬∀x,x<z->py l x=true)/\r.get 6=some (.int .i64 7)))) (fun i r st=>st=⟨H,n,W⟩/\∃k,k+i=z/\r.get 11=some (.int .i64 (k:Nat))/\∀x,x<k->py l x=true) z ?_ ?_ ?_
   ·exact⟨rfl,0,by omega,by simp,fun x hx=>by omega⟩
   ·rintro i r3 _ uz EN ⟨rfl,k,hk,jM,fi⟩
    rw[bA]
    cases i with
    |zero=>
     obtain rfl:k=z:=by omega
     simp[A.pz,uz,EN,jM,hr,hW,hK]
     exact fi
    |succ i=>
     have aD:k<z:=by omega
     have bm:(k:Int)<(z:Int):=by omega
     have uE:=U8 (l:=l) aD
     cases hb:py l k with
     |true=>
      rw[hb]at uE
      simp(disch:=first|(simp;done)|omega|(simp only[bl,bG,bh];omega)|rfl) [A.pz,uz,EN,jM,hr,bm,hg,uE]
      exact⟨i,by omega,k+1,by omega,by simp,fun x hx=>by
       by_cases e:x=k
       ·rw[e];exact hb
       ·exact fi x (by omega)⟩
     |false=>
      rw[hb]at uE
      simp[A.pz,uz,EN,jM,hr,bm,hg,uE,hW,hK]
      exact⟨k,aD,hb⟩
   ·rintro e r3 ⟨H3,n3,W3⟩ uz ⟨mU,qm,⟨rfl,fi⟩|⟨rfl,fi,h6⟩⟩
    ·simp only at mU qm
     simp[aA,mU,qm]
     exact fi
    ·simp only at mU qm
     simp[h6,aA,mU,qm]
     simp only[Classical.not_forall,Bool.not_eq_true]at fi
     obtain⟨x,hx,hb⟩:=fi
     exact⟨x,hx,hb⟩
  ·simp only at hW hK
   simp[h6,aA,hW,hK,hE]
variable {S Z:Int}
set_option maxHeartbeats 4000000
def A.b5:aq:=sr [⟨(some 6),.aY (.const (.bool false)),none⟩]
 (sr [mv 15 0,c1 16 35 15,mv 7 16]
 (.seq (sr [mv 17 7,⟨(some 18),.call (.const (.func 36 [] [])) [(.tmp 17),(.const (.int .i64 12))],none⟩,⟨(some 19),.un .not (.tmp 18),none⟩]
 (cd 19
 (sr [⟨(some 20),.call (.const (.func 10 [] [])) [],none⟩,mv 6 20]
 (.ret))
 (.skip)))
 (sr [mv 22 0,mv 23 1,mv 24 2,⟨(some 25),.call (.const (.func 37 [] [])) [(.tmp 22),(.tmp 23),(.tmp 24)],none⟩,mv 21 25,xt 26 21 0,xt 27 21 1,mv 8 26,mv 9 27]
 (sr [mv 29 0,mv 30 1,mv 31 2,⟨(some 32),.call (.const (.func 38 [] [])) [(.tmp 29),(.tmp 30),(.tmp 31)],none⟩,mv 28 32,xt 33 28 0,xt 34 28 1,mv 10 33,mv 11 34]
 (sr [mv 35 1,mv 36 2,c2 37 39 35 36,mv 12 37]
 (.seq (sr [mv 38 12,ei 39 38 0]
 (cd 39
 (.aM [mv 40 7,mv 41 1,mv 42 2,⟨(some 43),.call (.const (.func 40 [] [])) [(.tmp 40),(.tmp 41),(.tmp 42)],none⟩,mv 12 43])
 (.skip)))
 (sr [mN 13]
 (sr [mN 14]
 (.seq (sr [mv 44 12,ei 45 44 0]
 (cd 45
 (.aM [mv 46 7,mv 47 1,mv 48 2,⟨(some 49),.call (.const (.func 41 [] [])) [(.tmp 46),(.tmp 47),(.tmp 48)],none⟩,mv 50 7,mv 51 2,c2 52 42 50 51,mv 13 49,mv 14 52])
 (.skip)))
 (sr [mv 53 8,mv 54 9,mv 55 13,mv 56 12,⟨(some 57),.call (.const (.func 29 [] [])) [(.tmp 53),(.tmp 54),(.tmp 55),(.tmp 56)],none⟩,mv 58 57,mg 59 10 58,mg 60 11 58,mg 61 14 58,mg 62 12 58,⟨(some 63),.call (.const (.func 22 [] [])) [(.tmp 59),(.tmp 60),(.tmp 61),(.tmp 62)],(some (58,true))⟩,pf 64 58 63,mv 65 64,⟨(some 66),.call (.const (.func 10 [] [])) [],(some (65,true))⟩,pf 67 65 66,mv 6 67]
 (.ret)))))))))))
theorem A.c5:A.F 5=some ⟨68,[.tmp 6],A.b5⟩:=by kernel_rfl
def A.k5:=@A.kk 5 _ _ _ A.c5 rfl
theorem Yhz{l:List Pk}:G9 l S Z=if S<1\/64<S\/Z<1\/16<Z then 3 else if 256<l.length then 5 else 0:=by
 unfold G9
 by_cases c1:S<1\/64<S
 ·have:S<1\/64<S\/Z<1\/16<Z:=by omega
  rw[aF c1,aF this]
  rfl
 ·by_cases c2:Z<1\/16<Z
  ·have:S<1\/64<S\/Z<1\/16<Z:=by omega
   rw[au c1,aF c2,aF this]
   rfl
  ·have:¬(S<1\/64<S\/Z<1\/16<Z):=by omega
   rw[au c1,au c2,au this]
   by_cases c3:256<l.length
   ·rw[aF c3];rfl
   ·rw[au c3];rfl
theorem Ymc{l:List Pk}(h:S<1\/64<S\/Z<1\/16<Z):sV l S Z=3:=by
 unfold sV
 rw[Yhz,aF h]
 rfl
theorem Yhf{l:List Pk}{s z:Nat}(h:¬((s:Int)<1\/64<(s:Int)\/(z:Int)<1\/16<(z:Int))):sV l s z=Oa l s z:=by
 unfold sV Oa qp
 rw[Yhz,au h]
 by_cases c3:256<l.length
 ·rw[aF c3,aF c3];rfl
 ·rw[au c3,au c3,aF rfl,Int.toNat_natCast]
theorem Yj3{m:List (List Rat)}(h:jF m 400000000):∀r∈m,∀q∈r,(aW q).length<1000000000:=fun r hr q hq=>WA (h r hr q hq) (by omega)
theorem Yfe{h:T O}{N:Nat}{v:V}{l:List Pk}{S Z:Int}(hs:nY h N v l)(hP:jm h N)(b1:2*l.length*48<=281474976710656)(b2:∀x∈l,x.sl.length<9223372036854775808):Fn A.C 5 [v,.int .i64 S,.int .i64 Z] h N (fun z _ _=>z=.bool true):=by
 intro w
 rw[aR,A.k5 (by simp)]
 simp[A.b5]
 refine ax (Ykf hs b1) ?_
 rintro x H1 n1 k1 hx
 have Ob:=hP.ae k1
 have pc:=fun w=>Yjk (w:=w) hx (by omega) b2
 have hAw:=fun w=>Lw (w:=w) Ob
 cases sm:wB l with
 |false=>
  rw[sm]at pc
  simp[pc,hAw,aA]
  exact k1
 |true=>
  rw[sm]at pc
  obtain⟨l1,l2⟩:=NS sm
  simp[pc]
  refine ax (Ygc (S:=S) (Z:=Z) (hs.ae k1) Ob sm) ?_
  rintro _ H2 n2 k2 ⟨mv,mc,rfl,tM⟩
  simp[]
  refine ax (Yjn (S:=S) (Z:=Z) (hs.ae (k1.trans k2)) (Ob.ae k2) sm) ?_
  rintro _ H3 n3 k3 ⟨sv,sc,rfl,tS⟩
  have Va:=tM.ae k3
  have j3:=k2.trans k3
  have kk:=k1.trans j3
  have Vb:=Ob.ae j3
  have Vc:=hx.ae j3
  have fz:=fun st=>Ynm (S:=S) (Z:=Z) (st:=st)
  by_cases hb:S<1\/64<S\/Z<1\/16<Z
  ·rw[aF hb]at fz
   have he:=Ymc (l:=l) hb
   rw[he]at Va tS
   have Hf:Bc 3 [] mv mc H3 n3:=by
    rcases Va with s|⟨a,_⟩
    ·exact .inl s
    ·exact absurd a (by decide)
   have Hg:TP 3 [] sv sc H3 n3:=by
    rcases tS with s|⟨a,_⟩
    ·exact .inl s
    ·exact absurd a (by decide)
   have f1:=fun w=>QV (w:=w) (u:=.aa) Hf (fun h=>absurd h (by decide)) (by simp) (fun h=>absurd h (by decide))
   have f2:=fun w=>Lx (w:=w) (u:=.aa) Hg (fun h=>absurd h (by decide)) (by simp) (fun h=>absurd h (by decide))
   have f0:=fun w=>Lw (w:=w) Vb
   simp[fz,f1,f2,f0,aA]
   exact kk
  ·rw[au hb]at fz
   obtain⟨s,rfl⟩:∃s:Nat,S=s:=⟨S.toNat,by omega⟩
   obtain⟨z,rfl⟩:∃z:Nat,Z=z:=⟨Z.toNat,by omega⟩
   have he:=Yhf (l:=l) hb
   simp[fz]
   refine ax (Yno Vc (by omega) (by omega) fun p hp=>⟨by have:=(l2 p hp).1;omega,(G8 (l2 p hp).2).1,(G8 (l2 p hp).2).2⟩) ?_
   rintro _ H4 n4 k4 rfl
   rw[<-he]
   have Hf:=Va.ae k4
   have Hg:=tS.ae k4
   by_cases hE:sV l s z=0
   ·obtain⟨_,_,hO⟩:=U0 sm hE
    rw[Int.toNat_natCast,Int.toNat_natCast]at hO Hf Hg
    rw[hE]at Hf Hg
    have yc:=hO.CG
    have EU:=hO.s6
    simp[hE]
    refine ax (Yjx (Vc.ae k4) hO) ?_
    rintro mu H5 n5 k5 tm
    simp[]
    refine ax (Yjv ((Vc.ae k4).ae k5) hO) ?_
    rintro su H6 n6 k6 ts
    have j6:=(k4.trans k5).trans k6
    have f1:=fun w=>QV (w:=w) ((Hf.ae k5).ae k6) (fun _=>tm.ae k6) (by rw[Zv7];omega) (fun _ r hr=>⟨by have:=Ycf r hr;omega,Yj3 (jF.mono (Ycg hO) (by decide)) r hr⟩)
    have f2:=fun w=>Lx (w:=w) ((Hg.ae k5).ae k6) (fun _=>ts) (by rw[NX];omega) (fun _ q hq=>WA (Yaf hO q hq) (by omega))
    have f0:=fun w=>Lw (w:=w) (Vb.ae j6)
    simp[f1,f2,f0,aA]
    exact kk.trans j6
   ·have tM5:Bc (sV l s z) [] mv mc H4 n4:=by
     rcases Hf with s|⟨a,_⟩
     ·exact .inl s
     ·exact absurd a hE
    have tS5:TP (sV l s z) [] sv sc H4 n4:=by
     rcases Hg with s|⟨a,_⟩
     ·exact .inl s
     ·exact absurd a hE
    have f1:=fun w=>QV (w:=w) (u:=.aa) tM5 (fun h=>absurd h hE) (by simp) (fun h=>absurd h hE)
    have f2:=fun w=>Lx (w:=w) (u:=.aa) tS5 (fun h=>absurd h hE) (by simp) (fun h=>absurd h hE)
    have f0:=fun w=>Lw (w:=w) (Vb.ae k4)
    simp[hE,f1,f2,f0,aA]
    exact kk.trans k4
open Go
inductive jB where
 |nil
 |emp (b:Addr)
 |sl (b:Addr) (l c:Nat) (f:Nat->ByteArray)
def jB.val:jB->Value
 |.nil=>.slice none 0 0
 |.emp b=>.slice (some b) 0 0
 |.sl b l c f=>.slice (some b) l c
def jB.ok(W:World):jB->Prop
 |.sl b l c f=>l<=c/\0<c/\∀i,i<c->W.cell? (b.add i)=some (.string (f i))
 |_=>True
def jB.strs:jB->List a_
 |.sl b l c f=>(List.range l).map fun i=>(f i).data.toList
 |_=>[]
def AU(W:World)(a:Addr):TypeId:=match W.heap[a.block]? with
 |some (.cells _ e _)=>e
 |_=>0
def jB.mv(i:Nat):jB->V
 |.nil=>.aa
 |.emp b=>.empty
 |.sl b l c f=>.slice i 0 l (some c) 1
theorem Zwo{W:World}{a:Addr}{n:Nat}{f:Nat->Value}(hn:0<n)(hc:∀i,i<n->W.cell? (a.add i)=some (f i)):
  ∃c' lo hi,W.heap[a.block]?=some (.cells c' (AU W a) (lo,hi))/\a.spot=none/\(∀i,i<n->c'[a.off+i]?=some (f i))/\a.off+n<=c'.size/\a.block<W.heap.size:=by
 have h0:=hc 0 hn
 have Ty:a.add 0=a:=by simp[Addr.add]
 rw[Ty]at h0
 obtain⟨c',e,fr,hb⟩:∃c' e fr,W.heap[a.block]?=some (.cells c' e fr):=by
  unfold World.cell? at h0
  split at h0
  ·rename_i c' e fr hb;exact⟨c',e,fr,hb⟩
  ·cases h0
 have hs:a.spot=none:=by
  unfold World.cell? at h0
  rw[hb]at h0
  simp only at h0
  split at h0
  ·cases h0
  ·rename_i h;simpa using h
 have fB:∀i,i<n->c'[a.off+i]?=some (f i):=fun i hi=>by
  have:=hc i hi
  unfold World.cell? at this
  have e1:(a.add i).block=a.block:=by unfold Addr.add;split<;>rfl
  have e2:(a.add i).off=a.off+i:=by unfold Addr.add;split<;>simp_all
  have e3:(a.add i).spot=none:=by unfold Addr.add;split<;>simp_all
  rw[e1,hb]at this
  simp only[e2,e3,Option.isSome_none,fx,if_false]at this
  exact this
 have aD:a.block<W.heap.size:=by
  rcases Nat.lt_or_ge a.block W.heap.size with h|h
  ·exact h
  ·rw[Array.getElem?_eq_none h]at hb;cases hb
 have ep:a.off+n<=c'.size:=by
  have:=fB (n-1) (by omega)
  have h2:=(Array.getElem?_eq_some_iff.1 this).1
  omega
 obtain⟨lo,hi⟩:=fr
 exact⟨c',lo,hi,by rw[hb];simp[AU,hb],hs,fB,ep,aD⟩
structure Oc where
 a:Addr
 n:Nat
 f:Nat->Value
 g:Nat->V
def Oc.ok(W:World)(r:Oc):Prop:=0<r.n/\(∀i,i<r.n->W.cell? (r.a.add i)=some (r.f i))/\∀i,i<r.n->(r.f i).oneCell'=true
theorem Zq6{P:Program}{dc:Nat->Option jE}{G:Nat}(hP:A5 P dc G){x:cm}(hx:ix P x){F d:Nat}{f:FuncId}{mf:jE}(hf:vG P f=some mf){args:List V}{xs:List Value}{v:V}{y:Value}{S:St}{μ:Mu}{W:World}
  (h:YP (zT mf (dn (we x dc F d) F) args S) v) (hh:bo P μ W S) (hS:S.w=[]) (yg:aX μ args xs) (hv:∀μ z,VR μ v z->z=y):
  Calls P f ⟨xs⟩ W fun e W'=>e=.returned y/\RowKit.Below W.heap.size W W':=by
 obtain⟨s,bI,hw⟩:=h.ex
 obtain⟨fn,ze,_⟩:=Xt hf
 have ih:=MO hP.m hP.e hP.t hx F d
 have:=Xr (Yt ih hP.e (Xg hP.m hP.e ih) (XB ih hP.e) (Xu ih) F) ze hf hh yg bI
 refine callsIn_wide.1 (CallsIn.mono (F:=Fence.wide) this fun e W' he=>?_)
 cases e with
 |returned z=>
  obtain⟨μ',ws,h1,h2⟩:=he
  have nH:ws=[]:=by have:=h2.wl;rw[hw,hS]at this;simpa using this.symm
  subst nH
  exact⟨by rw[hv _ _ h1],h2.c_.os,h2.c_.tape,h2.c_.output,h2.c_.size,fun k hk=>h2.c_.block k hk fun i hi=>by cases hi⟩
 |panicked _=>exact he.elim
 |outgrown=>exact he.elim
theorem Cx.calls{P:Program}{C:Cx}{G:Nat}(hP:A5 P C.dc G)(hx:ix P C.x){f:Nat}{mf:jE}(hf:vG P f=some mf)(ht:C.dc f=some mf){args:List V}{xs:List Value}{v:V}{y:Value}{S:St}{μ:Mu}{W:World}
  (hn:∀st,C.x (.func f [] []) args st=none) (h:Fn C f args S.h S.n (fun u _ _=>u=v)) (hh:bo P μ W S) (hS:S.w=[]) (yg:aX μ args xs) (hv:∀μ z,VR μ v z->z=y):
  Calls P f ⟨xs⟩ W fun e W'=>e=.returned y/\RowKit.Below W.heap.size W W':=by
 obtain⟨u,av,hc,hw,hk,hu⟩:=(h []).ex
 subst hu
 have hS':(⟨S.h,S.n,[]⟩:St)=S:=by obtain⟨a,b,c⟩:=S;simp only at hS;subst hS;rfl
 rw[hS']at hc
 rw[Cx.oQ]at hc
 unfold qB at hc
 rw[hn]at hc
 simp only at hc
 obtain⟨n,tZ⟩:=XM (q:=fun n=>dn (C.at n) n) (fun n m hnm=>xD (Cx.dC hnm) n m hnm) (fun _ _ _ _ _ e=>Cx.nN e) hc
 unfold u_ at tZ
 simp only[ht,List.nil_append,uT]at tZ
 exact Zq6 (F:=n) (d:=n) hP hx hf ⟨_,tZ,hw⟩ hh hS yg hv
variable {P:Program} {S:St} {W:World} {μ:Mu}
def tg(tb:List (Nat×O))(i:Nat):Nat:=match lk tb i with
 |some (.cells c _ _)=>c.length
 |_=>0
def il(P:Program)(W:World)(tb:List (Nat×O)):Prop:=∀i o,lk tb i=some o->∀μ,OM P μ W o ⟨i,0,tg tb i⟩
theorem il.one{g:Nat}{k:IntKind}{zs:List Int}{e:TypeId}{f:Nat×Nat}(h:W.heap[g]?=some (.cells (zs.map fun z=>Value.int k z).toArray e f)):il P W [(g,.cells (zs.map fun z=>V.int k z) e false)]:=by
 intro i o ho μ
 obtain⟨lo,hi⟩:=f
 simp only[lk]at ho
 split at ho
 ·rename_i hb
  have:=iP hb
  subst this
  simp only[aj]at ho
  subst ho
  have hl:tg [(g,O.cells (zs.map fun z=>V.int k z) e false)] g=zs.length:=by simp[tg,lk,hb]
  rw[hl]
  refine⟨_,lo,hi,h,by simp,by simp,fun j v hv=>?_,fun j x hj hx=>?_,fun h=>by cases h⟩
  ·rw[jf]at hv
   cases hz:zs[j]? with
   |none=>rw[hz]at hv;cases hv
   |some z=>
    rw[hz]at hv
    simp only[wK,aj]at hv
    subst hv
    exact⟨.int k z,by simp[hz],by simp[VR]⟩
  ·simp only[rT,List.getElem?_toArray,jf,iF]at hx
   obtain⟨z,_,rfl⟩:=hx
   rfl
 ·cases ho
structure j_ (P:Program) (W:World) (μ:Mu) (S:St):Prop where
 hr:bo P μ W S
 w:S.w=[]
 ro:∀i l o,μ i=some l->S.h.get i=some o->o.wr=false
structure nZ (μ:Mu) (S:St) (μ':Mu) (S':St):Prop where
 mu:∀i l,μ i=some l->μ' i=some l
 ae:ab S.h S.n S'.h S'.n
theorem nZ.refl:nZ μ S μ S:=⟨fun _ _ h=>h,ab.refl⟩
theorem nZ.trans{μ1 μ2:Mu}{S1 S2:St}(a:nZ μ S μ1 S1)(b:nZ μ1 S1 μ2 S2):nZ μ S μ2 S2:=⟨fun i l h=>b.mu i l (a.mu i l h),a.ae.trans b.ae⟩
theorem Yjw{tb:List (Nat×O)}{G:Nat}(hG:P.globals.size=G)(hW:G<=W.heap.size)(jt:Jf G tb=true)(Bg:il P W tb):∃μ,j_ P W μ (B7 G tb):=by
 subst hG
 have get:∀i,i<P.globals.size->(B7 P.globals.size tb).h.get i=some (match lk tb i with|some o=>o|none=>.dead):=fun i hi=>by
  show (qV (wi P.globals.size) tb).get i=_
  rw[zh]
  cases lk tb i with
  |some o=>rfl
  |none=>exact ML _ _ hi
 have hwr:∀i o,i<P.globals.size->(B7 P.globals.size tb).h.get i=some o->o.wr=false:=fun i o hi ho=>by
  rw[get i hi]at ho
  simp only[aj]at ho
  cases hl:lk tb i with
  |none=>rw[hl]at ho;subst ho;rfl
  |some o'=>
   rw[hl]at ho
   simp only at ho
   subst ho
   have:=(S4 jt hl).2
   cases o' with
   |cells c e rw=>cases rw with
    |true=>cases this
    |false=>rfl
   |_=>cases this
 have Od:∀i l,(fun i=>if i<P.globals.size then some (⟨i,0,tg tb i⟩:L) else none) i=some l->i<P.globals.size/\l=⟨i,0,tg tb i⟩:=fun i l h=>by
  simp only at h
  split at h
  ·rename_i hi;simp only[aj]at h;exact⟨hi,h.symm⟩
  ·cases h
 refine⟨fun i=>if i<P.globals.size then some ⟨i,0,tg tb i⟩ else none,⟨fun i l hl=>?_,fun i l hl=>?_,fun i j l l' o o' hi hj bJ ho tL hw oG=>?_,fun g hg=>⟨tg tb g,by simp[hg]⟩⟩,rfl,fun i l o hl ho=>?_⟩
 ·obtain⟨h,rfl⟩:=Od i l hl
  exact⟨h,by simp only;omega⟩
 ·obtain⟨h,rfl⟩:=Od i l hl
  refine⟨_,get i h,?_⟩
  cases jG:lk tb i with
  |none=>trivial
  |some o=>exact Bg i o jG _
 ·rw[hwr i o (Od i l hi).1 ho]at hw;cases hw
 ·exact hwr i o (Od i l hl).1 ho
theorem Yjf{tb:List (Nat×O)}{G g:Nat}{o:O}(h:lk tb g=some o):(B7 G tb).h.get g=some o:=by
 show (qV (wi G) tb).get g=_
 rw[zh,h]
theorem j_.row(s:j_ P W μ S){r:Oc}(jt:r.ok W)(hv:∀i,i<r.n->VR μ (r.g i) (r.f i)):
  ∃μ' S',j_ P W μ' S'/\nZ μ S μ' S'/\S'.n=S.n+1/\μ' S.n=some ⟨r.a.block,r.a.off,r.n⟩/\S'.h.get S.n=some (.cells ((List.range r.n).map r.g) (AU W r.a) false):=by
 obtain⟨g1,g2,g3⟩:=jt
 obtain⟨c',lo,hi,hb,hs,fB,ep,aD⟩:=Zwo g1 g2
 have cQ:∀i l,μ i=some l->(fun i=>if i=S.n then some (⟨r.a.block,r.a.off,r.n⟩:L) else μ i) i=some l:=fun i l hl=>by
  have:=(s.hr.cG i l hl).1
  simp only
  rw[au (by omega)];exact hl
 have th:∀i l,(fun i=>if i=S.n then some (⟨r.a.block,r.a.off,r.n⟩:L) else μ i) i=some l->(i=S.n/\l=⟨r.a.block,r.a.off,r.n⟩)\/(i≠S.n/\μ i=some l):=fun i l h=>by
  simp only at h
  split at h
  ·rename_i e;simp only[aj]at h;exact .inl ⟨e,h.symm⟩
  ·rename_i e;exact .inr ⟨e,h⟩
 have oS:(S.h.set S.n (.cells ((List.range r.n).map r.g) (AU W r.a) false)).get S.n=some (.cells ((List.range r.n).map r.g) (AU W r.a) false):=by simp[T.ai]
 have hold:∀i,i≠S.n->(S.h.set S.n (.cells ((List.range r.n).map r.g) (AU W r.a) false)).get i=S.h.get i:=fun i hi=>by simp[T.ai,hi]
 have km:∀i l o,(fun i=>if i=S.n then some (⟨r.a.block,r.a.off,r.n⟩:L) else μ i) i=some l->(S.h.set S.n (.cells ((List.range r.n).map r.g) (AU W r.a) false)).get i=some o->o.wr=false:=fun i l o hl ho=>by
  rcases th i l hl with⟨rfl,rfl⟩|⟨h1,h2⟩
  ·rw[oS]at ho;simp only[aj]at ho;subst ho;rfl
  ·rw[hold i h1]at ho;exact s.ro i l o h2 ho
 refine⟨_,⟨S.h.set S.n (.cells ((List.range r.n).map r.g) (AU W r.a) false),S.n+1,[]⟩,⟨⟨fun i l hl=>?_,fun i l hl=>?_,fun i j l l' o o' g_ hj bJ ho tL hw oG=>?_,fun g hg=>?_⟩,rfl,km⟩,⟨cQ,by simp,fun i hi=>hold i (by omega)⟩,rfl,by simp,oS⟩
 ·rcases th i l hl with⟨rfl,rfl⟩|⟨h1,h2⟩
  ·exact⟨by simp,aD⟩
  ·obtain⟨q1,q2⟩:=s.hr.cG i l h2
   exact⟨by simp only;omega,q2⟩
 ·rcases th i l hl with⟨rfl,rfl⟩|⟨h1,h2⟩
  ·refine⟨_,oS,c',lo,hi,hb,ep,by simp,fun j v hvj=>?_,fun j x hj hx=>?_,fun h=>by cases h⟩
   ·have hj:j<r.n:=by have:=(yB.1 hvj).1;simpa using this
    have DD:v=r.g j:=by simpa[hj]using hvj.symm
    subst DD
    exact⟨_,fB j hj,VR.mono cQ _ _ (hv j hj)⟩
   ·have hj:j<r.n:=hj
    rw[fB j hj]at hx
    simp only[aj]at hx
    subst hx
    exact g3 j hj
  ·obtain⟨o,q1,q2⟩:=s.hr.obj i l h2
   exact⟨o,by rw[hold i h1];exact q1,q2.mono cQ⟩
 ·rw[km i l o g_ ho]at hw;cases hw
 ·obtain⟨t,ht⟩:=s.hr.fF g hg
  exact⟨t,cQ _ _ ht⟩
theorem j_.slice(s:j_ P W μ S){r:Oc}(jt:r.ok W)(hv:∀i,i<r.n->VR μ (r.g i) (r.f i)){len cap z:Nat}(hn:r.n=cap*z)(hl:len<=cap)(hz:0<z):
  ∃μ' S' i,j_ P W μ' S'/\nZ μ S μ' S'/\VR μ' (.slice i 0 len (some cap) z) (.slice (some r.a) len cap)/\i<S'.n/\S'.h.get i=some (.cells ((List.range r.n).map r.g) (AU W r.a) false):=by
 obtain⟨μ',S',q1,q2,q3,q4,q5⟩:=s.row jt hv
 refine⟨μ',S',S.n,q1,q2,?_,by omega,q5⟩
 obtain⟨⟨b,off,sp⟩,n,f,g⟩:=r
 obtain⟨g1,g2,_⟩:=jt
 obtain⟨_,_,_,_,hs,_,_,_⟩:=Zwo g1 g2
 simp only at hs hn q4
 subst hs
 simp only[VR]
 exact⟨⟨b,off,n⟩,cap,q4,by simp,hl,by simp[hn],fun k hk=>by simpa using hk,fun h=>by cases h⟩
theorem j_.list{P:Program}{W:World}{μ:Mu}{S:St}(s:j_ P W μ S){i:jB}(hi:i.ok W):
  ∃μ' S' v,j_ P W μ' S'/\nZ μ S μ' S'/\VR μ' v i.val/\Sl S'.h S'.n v (strs i.strs):=by
 cases i with
 |nil=>exact⟨μ,S,.aa,s,nZ.refl,by simp[jB.val,VR],Sl.nil⟩
 |emp b=>exact⟨μ,S,.empty,s,nZ.refl,by simp[jB.val,VR],.inl ⟨rfl,.inr rfl⟩⟩
 |sl b l c f=>
  obtain⟨h1,h2,h3⟩:=hi
  obtain⟨μ',S',k,q1,q2,q3,q4,q5⟩:=s.slice (r:=⟨b,c,fun i=>.string (f i),fun i=>.str (f i).data.toList⟩) ⟨h2,h3,fun _ _=>rfl⟩ (fun i _=>by simp[VR]) (len:=l) (cap:=c) (z:=1) (by simp) h1 (by decide)
  refine⟨μ',S',_,q1,q2,q3,.inr ⟨k,0,some c,_,_,false,by simp[strs,jB.strs],q4,q5,fun j hj=>?_,by simp[strs,jB.strs];omega,fun k hk=>by simp[strs,jB.strs]at hk ⊢;omega⟩⟩
  have ma:j<l:=by simpa[strs,jB.strs]using hj
  simp[strs,jB.strs,ma,show j<c by omega]
inductive Oe where
 |nil
 |emp (b:Addr)
 |sl (b:Addr) (l c:Nat) (f:Nat->Int)
def Oe.val:Oe->Value
 |.nil=>.slice none 0 0
 |.emp b=>.slice (some b) 0 0
 |.sl b l c f=>.slice (some b) l c
def Oe.ok(W:World):Oe->Prop
 |.sl b l c f=>l<=c/\0<c/\∀i,i<c->W.cell? (b.add i)=some (.int .i64 (f i))
 |_=>True
theorem j_.lists{P:Program}{W:World}{F:Nat->jB}:∀(n:Nat),(∀i,i<n->(F i).ok W)->∀{μ:Mu} {S:St},j_ P W μ S->
  ∃μ' S',j_ P W μ' S'/\nZ μ S μ' S'/\∀i,i<n->∃v,VR μ' v (F i).val/\Sl S'.h S'.n v (strs (F i).strs)
 |0,_,μ,S,s=>⟨μ,S,s,nZ.refl,fun i hi=>absurd hi (by omega)⟩
 |n+1,hF,μ,S,s=>by
  obtain⟨μ1,S1,s1,g1,a1⟩:=j_.lists n (fun i hi=>hF i (by omega)) s
  obtain⟨μ2,S2,v,s2,g2,a2,a3⟩:=s1.list (hF n (by omega))
  refine⟨μ2,S2,s2,g1.trans g2,fun i hi=>?_⟩
  by_cases e:i=n
  ·subst e;exact⟨v,a2,a3⟩
  ·obtain⟨u,b1,b2⟩:=a1 i (by omega)
   exact⟨u,VR.mono g2.mu _ _ b1,b2.ae g2.ae⟩
inductive uJ where
 |nil
 |emp (b:Addr)
 |sl (b:Addr) (l c:Nat) (F:Nat->jB)
def uJ.val:uJ->Value
 |.nil=>.slice none 0 0
 |.emp b=>.slice (some b) 0 0
 |.sl b l c f=>.slice (some b) l c
def uJ.ok(W:World):uJ->Prop
 |.sl b l c F=>l<=c/\0<c/\∀i,i<c->W.cell? (b.add i)=some (F i).val/\(F i).ok W
 |_=>True
def uJ.rows:uJ->List (List a_)
 |.sl b l c F=>(List.range l).map fun i=>(F i).strs
 |_=>[]
theorem jB.one{i:jB}:i.val.oneCell'=true:=by cases i<;>rfl
theorem j_.yb{P:Program}{W:World}{μ:Mu}{S:St}(s:j_ P W μ S){m:uJ}(hm:m.ok W):
  ∃μ' S' v,j_ P W μ' S'/\nZ μ S μ' S'/\VR μ' v m.val/\∃us:List V,Sl S'.h S'.n v us/\us.length=m.rows.length/\∀(j:Nat) (l:List a_),m.rows[j]?=some l->∃u,us[j]?=some u/\Sl S'.h S'.n u (strs l):=by
 cases m with
 |nil=>exact⟨μ,S,.aa,s,nZ.refl,by simp[uJ.val,VR],[],Sl.nil,rfl,fun j l h=>by simp[uJ.rows]at h⟩
 |emp b=>exact⟨μ,S,.empty,s,nZ.refl,by simp[uJ.val,VR],[],.inl ⟨rfl,.inr rfl⟩,rfl,fun j l h=>by simp[uJ.rows]at h⟩
 |sl b l c F=>
  obtain⟨h1,h2,h3⟩:=hm
  obtain⟨μ1,S1,s1,g1,a1⟩:=j_.lists c (fun i hi=>(h3 i hi).2) s
  have hex:∀i,∃v:V,i<c->VR μ1 v (F i).val/\Sl S1.h S1.n v (strs (F i).strs):=fun i=>by
   by_cases hi:i<c
   ·obtain⟨v,hv⟩:=a1 i hi;exact⟨v,fun _=>hv⟩
   ·exact⟨.aa,fun h=>absurd h hi⟩
  obtain⟨g,hg⟩:=Classical.axiomOfChoice hex
  obtain⟨μ',S',k,q1,q2,q3,q4,q5⟩:=s1.slice (r:=⟨b,c,fun i=>(F i).val,g⟩) ⟨h2,fun i hi=>(h3 i hi).1,fun _ _=>jB.one⟩ (fun i hi=>(hg i hi).1) (len:=l) (cap:=c) (z:=1) (by simp) h1 (by decide)
  refine⟨μ',S',_,q1,g1.trans q2,q3,(List.range l).map g,.inr ⟨k,0,some c,_,_,false,by simp,q4,q5,fun j hj=>?_,by simp;omega,fun k hk=>by simp at hk ⊢;omega⟩,by simp[uJ.rows],fun j x hj=>?_⟩
  ·have ma:j<l:=by simpa using hj
   simp[ma,show j<c by omega]
  ·have wh:j<l:=by
    apply qd;intro hc
    rw[gJ (by simp[uJ.rows];omega)]at hj;cases hj
   have hx:x=(F j).strs:=by simpa[uJ.rows,wh]using hj.symm
   subst hx
   exact⟨g j,by simp[wh],((hg j (by omega)).2).ae q2.ae⟩
open Go Go.ChangeShapes Go.WideShapes Go.RowKit Go.Deep
theorem Ya1{P:Program}{t s:TypeId}(ht:P.underlying t=some (.slice s))(hs:P.underlying s=some .string)(hc:P.cellsOf s=1){H:Type}{enc:TypeId×Value->H}{W:World}{fuel:Nat}{c:Value}{x:DataW H×List MemPlace}
  (h:DataW.trod enc P W 0 (fun _=>true) true fuel t [c]=some x):∃i:jB,c=i.val/\i.ok W/\i.strs.length<9223372036854775808:=by
 rcases open_slice1 ht hc h with⟨hc,_⟩|⟨a,len,cap,m,n,Vf,D,Pl,hc,_,hl,di,hm,_,hx⟩
 ·have mb:c=.slice none 0 0:=by simpa using hc
  exact⟨.nil,mb,trivial,by simp[jB.strs]⟩
 ·simp only[if_true]at hm
  subst hm
  have mb:c=.slice (some a) len m:=by simpa using hc
  rcases CT m with h0|h0
  ·subst h0
   have:len=0:=by omega
   subst this
   exact⟨.emp a,mb,trivial,by simp[jB.strs]⟩
  ·refine⟨.sl a len m fun i=>match Vf i with|.string s=>s|_=>⟨#[]⟩,mb,⟨hl,h0,fun i hi=>?_⟩,by simp only[jB.strs,oa,List.length_range];unfold maxLen at di;omega⟩
   obtain⟨g1,g2⟩:=hx i hi
   obtain⟨s,e0,_⟩:=DataW.trod_string hs g2
   simp only[gK,and_true]at e0
   rw[g1]
   simp only[e0]
theorem pA{P:Program}{W:World}{laid:List (String×DataW Unit)}{name:String}{k:IntKind}{zs:List Int}{g:Nat}{t e:TypeId}{n:Nat}{z:Array Value}
  (hg:P.globalNamed name=some g) (Kp:(P.globals[g]?).map (·.type)=some t) (ht:P.underlying t=some (.array n e)) (he:P.underlying e=some (.int k)) (hce:P.cellsOf e=1) (Ye:P.cellsOf t=n)
  (hf:laid.filter (fun x=>x.1==name)=[(name,Lib.tabData k zs)]) (aD:g<P.globals.size) (hz:((begin P (fun _ _=>0) default).world.heap[g]?).bind Obj.row?=some (z,t))
  (hl:laidMet P laid W) (hs:W.ShapedOpen P):il P W [(g,.cells (zs.map fun z=>V.int k z) t false)]:=by
 have h1:=laidMet.filter (fun x=>x.1==name) hl
 rw[hf]at h1
 have h2:=Lib.tabIs_of_head hg Kp ht he hce Ye h1
 unfold Lib.TabIs World.var? at h2
 rw[hg]at h2
 obtain⟨cs,h3,_⟩:=hs.1 g z t aD hz
 simp only[Option.bind_some,h3,aj]at h2
 subst h2
 exact il.one h3
variable {P:Program}
structure ti where
 act:Int
 am:ByteArray
 sl:jB
def ti.cell(p:ti):Nat->Value
 |0=>.int .i64 p.act
 |1=>.string p.am
 |_=>p.sl.val
def ti.mc(p:ti)(u:V):Nat->V
 |0=>.int .i64 p.act
 |1=>.str p.am.data.toList
 |_=>u
inductive lG where
 |nil
 |emp (b:Addr)
 |sl (b:Addr) (l c:Nat) (F:Nat->ti)
def lG.val:lG->Value
 |.nil=>.slice none 0 0
 |.emp b=>.slice (some b) 0 0
 |.sl b l c f=>.slice (some b) l c
def lG.ok(W:World):lG->Prop
 |.sl b l c F=>l<=c/\0<c/\(∀j,j<c*3->W.cell? (b.add j)=some ((F (j/3)).cell (j%3)))/\∀i,i<c->(F i).sl.ok W
 |_=>True
def lG.ps:lG->List ti
 |.sl b l c F=>(List.range l).map F
 |_=>[]
theorem j_.Cs{P:Program}{W:World}{μ:Mu}{S:St}(s:j_ P W μ S){m:lG}(hm:m.ok W):
  ∃μ' S' v,j_ P W μ' S'/\nZ μ S μ' S'/\VR μ' v m.val/\∃cs:List (List V),Sn 3 S'.h S'.n v cs/\cs.length=m.ps.length/\∀(j:Nat) (p:ti),m.ps[j]?=some p->∃u,cs[j]?=some [.int .i64 p.act,.str p.am.data.toList,u]/\Sl S'.h S'.n u (strs p.sl.strs):=by
 cases m with
 |nil=>exact⟨μ,S,.aa,s,nZ.refl,by simp[lG.val,VR],[],Sn.nil,rfl,fun j l h=>by simp[lG.ps]at h⟩
 |emp b=>exact⟨μ,S,.empty,s,nZ.refl,by simp[lG.val,VR],[],.inl ⟨rfl,.inr rfl⟩,rfl,fun j l h=>by simp[lG.ps]at h⟩
 |sl b l c F=>
  obtain⟨h1,h2,h3,h4⟩:=hm
  obtain⟨μ1,S1,s1,g1,a1⟩:=j_.lists (F:=fun i=>(F i).sl) c h4 s
  have hex:∀i,∃v:V,i<c->VR μ1 v (F i).sl.val/\Sl S1.h S1.n v (strs (F i).sl.strs):=fun i=>by
   by_cases hi:i<c
   ·obtain⟨v,hv⟩:=a1 i hi;exact⟨v,fun _=>hv⟩
   ·exact⟨.aa,fun h=>absurd h hi⟩
  obtain⟨g,hg⟩:=Classical.axiomOfChoice hex
  have ec:∀i t,((F i).cell t).oneCell'=true:=fun i t=>by
   match t with
   |0=>rfl
   |1=>rfl
   |t+2=>exact jB.one
  have R9:∀i t,i<c->VR μ1 ((F i).mc (g i) t) ((F i).cell t):=fun i t hi=>by
   match t with
   |0=>simp[ti.mc,ti.cell,VR]
   |1=>simp[ti.mc,ti.cell,VR]
   |t+2=>exact(hg i hi).1
  obtain⟨μ',S',k,q1,q2,q3,q4,q5⟩:=s1.slice (r:=⟨b,c*3,fun j=>(F (j/3)).cell (j%3),fun j=>(F (j/3)).mc (g (j/3)) (j%3)⟩) ⟨by show 0<c*3;omega,h3,fun _ _=>ec _ _⟩ (fun j hj=>R9 _ _ (by have:j<c*3:=hj;omega)) (len:=l) (cap:=c) (z:=3) rfl h1 (by decide)
  refine⟨μ',S',_,q1,g1.trans q2,q3,(List.range l).map fun i=>[.int .i64 (F i).act,.str (F i).am.data.toList,g i],.inr ⟨k,0,some c,_,_,false,by simp,q4,q5,fun j x hj=>?_,by simp;omega,fun k hk=>by simp at hk ⊢;omega⟩,by simp[lG.ps],fun j x hj=>?_⟩
  ·have wh:j<l:=by have:=mM hj;simpa using this
   have hx:x=[.int .i64 (F j).act,.str (F j).am.data.toList,g j]:=by simpa[wh]using hj.symm
   subst hx
   unfold aJ
   rw[aF (by simp;omega)]
   congr 1
   apply m7
   intro t
   rw[gV]
   by_cases ht:t<3
   ·rw[aF ht,fG]
    have e1:(0+j*3+t)/3=j:=by omega
    have e2:(0+j*3+t)%3=t:=by omega
    have e3:0+j*3+t<c*3:=by omega
    rw[jf,FT e3]
    simp only[wK,e1,e2]
    have:t=0\/t=1\/t=2:=by omega
    rcases this with rfl|rfl|rfl<;>rfl
   ·rw[au ht,gJ (by simp;omega)]
  ·have wh:j<l:=by
    apply qd;intro hc
    rw[gJ (by simp[lG.ps];omega)]at hj;cases hj
   have hx:x=F j:=by simpa[lG.ps,wh]using hj.symm
   subst hx
   exact⟨g j,by simp[wh],((hg j (by omega)).2).ae q2.ae⟩
theorem Ymn(a:Addr)(x y:Nat):(a.add x).add y=a.add (x+y):=by
 unfold Addr.add
 by_cases hx:x=0
 ·subst hx;simp
 ·by_cases hy:y=0
  ·subst hy;simp[hx]
  ·simp[hx,hy,nD]
theorem Ya0{P:Program}{r i s l:TypeId}{f0 f1 f2:Field}(hr:P.underlying r=some (.struct #[f0,f1,f2]))(o0:f0.offset=0/\f0.type=i)(o1:f1.offset=1/\f1.type=s)(o2:f2.offset=2/\f2.type=l)(hi:P.underlying i=some (.int .i64))(hs:P.underlying s=some .string)(hl:P.underlying l=some (.slice s))(cr:P.cellsOf r=3)(ci:P.cellsOf i=1)(cs:P.cellsOf s=1)(cl:P.cellsOf l=1){H:Type}{enc:TypeId×Value->H}{W:World}{fuel:Nat}{xs:List Value}{x:DataW H×List MemPlace}
  (h:DataW.trod enc P W 0 (fun _=>true) true fuel r xs=some x):∃p:ti,(∀t,t<3->xs[t]?=some (p.cell t))/\p.sl.ok W/\p.sl.strs.length<9223372036854775808:=by
 obtain⟨ys,n,_,rfl,hn,hlen,hf⟩:=DataW.trod_struct hr h
 rw[cr]at hn
 match xs,hn with
 |[c0,c1,c2],_=>
  match ys,hlen with
  |[y0,y1,y2],_=>
   have h0:=hf 0 _ rfl
   have h1:=hf 1 _ rfl
   have h2:=hf 2 _ rfl
   simp[o0.1,o0.2,o1.1,o1.2,o2.1,o2.2,ci,cs,cl]at h0 h1 h2
   obtain⟨m0,e0,_⟩:=DataW.trod_int hi h0
   obtain⟨m1,e1,_⟩:=DataW.trod_string hs h1
   obtain⟨i2,e2,ok⟩:=Ya1 hl hs cs h2
   simp only[gK,and_true]at e0 e1
   refine⟨⟨m0,m1,i2⟩,fun t ht=>?_,ok⟩
   have:t=0\/t=1\/t=2:=by omega
   rcases this with rfl|rfl|rfl<;>simp[ti.cell,e0,e1,e2]
theorem tj{t r i s l:TypeId}{f0 f1 f2:Field}(ht:P.underlying t=some (.slice r))(hr:P.underlying r=some (.struct #[f0,f1,f2]))(o0:f0.offset=0/\f0.type=i)(o1:f1.offset=1/\f1.type=s)(o2:f2.offset=2/\f2.type=l)(hi:P.underlying i=some (.int .i64))(hs:P.underlying s=some .string)(hl:P.underlying l=some (.slice s))(cr:P.cellsOf r=3)(ci:P.cellsOf i=1)(cs:P.cellsOf s=1)(cl:P.cellsOf l=1){H:Type}{enc:TypeId×Value->H}{W:World}{fuel:Nat}{a:Option Addr}{n c:Nat}{x:DataW H×List MemPlace}
  (h:DataW.trod enc P W 0 (fun _=>true) true fuel t [.slice a n c]=some x):∃m:lG,Value.slice a n c=m.val/\m.ok W/\m.ps.length=n/\∀p∈m.ps,p.sl.strs.length<9223372036854775808:=by
 rcases open_slice ht h with⟨hc,_⟩|⟨a',sF,D3,m,n',D,Pl,hc,_,uk,di,hm,_,hx⟩
 ·have mb:Value.slice a n c=.slice none 0 0:=by simpa using hc
  have hn:n=0:=by simp at mb;exact mb.2.1
  exact⟨.nil,mb,trivial,by simp[lG.ps,hn],fun p hp=>by simp[lG.ps]at hp⟩
 ·simp only[if_true]at hm
  subst hm
  have mb:Value.slice a n c=.slice (some a') sF m:=by simpa using hc
  have hn:n=sF:=by simp at mb;exact mb.2.1
  rcases CT m with h0|h0
  ·subst h0
   have:sF=0:=by omega
   subst this
   exact⟨.emp a',mb,trivial,by simp[lG.ps,hn],fun p hp=>by simp[lG.ps]at hp⟩
  ·rw[cr]at hx
   have eP:∀k,∃p:ti,k<m->(∀t,t<3->W.cell? (a'.add (k*3+t))=some (p.cell t))/\p.sl.ok W/\p.sl.strs.length<9223372036854775808:=fun k=>by
    by_cases hk:k<m
    ·obtain⟨Aq,g1,g2⟩:=hx k hk
     obtain⟨p,q1,q2⟩:=Ya0 hr o0 o1 o2 hi hs hl cr ci cs cl g2
     obtain⟨_,_,g3⟩:=World.cells?_some g1
     exact⟨p,fun _=>⟨fun t ht=>by rw[<-Ymn,g3 t ht];exact q1 t ht,q2⟩⟩
    ·exact⟨⟨0,⟨#[]⟩,.nil⟩,fun h=>absurd h hk⟩
   obtain⟨F,hF⟩:=Classical.axiomOfChoice eP
   refine⟨.sl a' sF m F,mb,⟨uk,h0,fun j hj=>?_,fun k hk=>(hF k hk).2.1⟩,by simp[lG.ps,hn],fun p hp=>?_⟩
   ·have:=(hF (j/3) (by omega)).1 (j%3) (jg _ (by decide))
    rw[show j/3*3+j%3=j by omega]at this
    exact this
   ·obtain⟨k,hk,rfl⟩:=iy.1 hp
    exact(hF k (by have:=zB.1 hk;omega)).2.2
end Go.Mx
