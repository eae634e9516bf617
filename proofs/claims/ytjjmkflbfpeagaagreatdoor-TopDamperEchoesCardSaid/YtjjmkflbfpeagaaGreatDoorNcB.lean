/-strconv-/
import Derived.Test.YtjjmkflbfpeagaaGreatDoorNcA
set_option linter.all false
set_option maxHeartbeats 1000000
namespace Go.Mx
noncomputable section
open Go Go.Proofs
variable {j o x:Nat}
set_option maxRecDepth 1000000
def A.b262:=A.q Tryz.f262
def A.k262:=@A.kk 262 32 [.tmp 4] A.b262 (by kernel_rfl) rfl
def A.b285:=A.q Tryz.f285
def A.k285:=@A.kk 285 54 [.tmp 4] A.b285 (by kernel_rfl) rfl
def A.b257:=A.q Tryz.f257
def A.k257:=@A.kk 257 5 [.tmp 2] A.b257 (by kernel_rfl) rfl
def A.b230:=A.q Tryz.f230
def A.k230:=@A.kk 230 5 [.tmp 2] A.b230 (by kernel_rfl) rfl
def A.b232:=A.q Tryz.f232
def A.k232:=@A.kk 232 8 [.tmp 4] A.b232 (by kernel_rfl) rfl
def Yg0:∀{x:Nat},(j:Nat)->j<(cZ x).length->(cZ x)[j]?=some (cW (x/10^((cZ x).length-1-j))):=by
 intro x
 induction x using Nat.strongRecOn with
 |_ x ih=>
  intro j hj
  by_cases h0:x=0
  ·subst h0;rw[qN]at hj;simp at hj
  ·have e:=uN h0
   have hl:(cZ x).length=(cZ (x/10)).length+1:=by rw[e];simp
   rw[hl]
   rw[e]
   by_cases nH:j<(cZ (x/10)).length
   ·rw[nj nH,ih _ (zX (by omega) (by decide)) j nH,Dq]
    congr 3
    rw[show (cZ (x/10)).length+1-1-j=((cZ (x/10)).length-1-j)+1 by omega,fv,fR]
   ·have:j=(cZ (x/10)).length:=by omega
    subst this
    simp
def U5{L:Nat}{f:Nat->V}(hL:L=(cZ x).length)(hf:∀j,j<L->f (o+j)=vB (cW (x/10^(L-1-j)))):(List.range L).map (fun j=>f (o+j))=(cZ x).map vB:=by
 apply nX
 intro j
 rw[ko,ko]
 by_cases hj:j<L
 ·rw[ID hj,Yg0 j (by omega),<-hL]
  simp[hf j hj]
 ·rw[jC (by simpa using hj),jC (by omega)]
  rfl
def U6{Z L:Nat}{f:Nat->V}(h:o+L<=Z):aM (tv Z f) o L=some ((List.range L).map fun j=>f (o+j)):=by
 unfold aM
 rw[yw,aJ h]
 congr 1
 apply nX
 intro j
 rw[kg,ko]
 by_cases hj:j<L
 ·rw[aJ hj,gk,OL (by omega),ID hj];rfl
 ·rw[aq hj,jC (by simpa using hj)];rfl
def OP:V->Option UInt8
 |.int .u8 n=>some (UInt8.ofNat n.toNat)
 |_=>none
def KR(st:St):Option (List V)->Option (V×St)
 |some l=>match l.mapM OP with
  |some s=>some (.str s,st)
  |none=>none
 |none=>none
def OQ(st:St)(o len:Nat):Option (List V×TypeId×Bool)->Option (V×St)
 |some (c,_,_)=>KR st (aM c o len)
 |none=>none
def U7(st:St):Option V->Option (V×St)
 |some .aa=>some (.str [],st)
 |some (.slice i o len _ 1)=>OQ st o len (st.row i)
 |_=>none
def U8{x:Src}{call:cH}{r:T V}{st:St}:DI x call r st=U7 st (x.ev r):=by
 unfold DI U7 OQ KR
 rfl
def U9{st:St}{i len:Nat}{c:Option Nat}:U7 st (some (.slice i o len c 1))=OQ st o len (st.row i):=rfl
def Va{st:St}{len:Nat}{c:List V}{e:TypeId}{b:Bool}:OQ st o len (some (c,e,b))=KR st (aM c o len):=rfl
def Vb{st:St}:∀{s:aU},KR st (some (s.map vB))=some (.str s,st):=by
 intro s
 have:(s.map vB).mapM OP=some s:=by
  induction s with
  |nil=>rfl
  |cons c s ih=>
   rw[km,List.mapM_cons,ih]
   have:OP (vB c)=some c:=by simp[OP,vB,cJ]
   simp[this]
 simp only[KR,this]
def Yqc:∀j:Nat,j<10->(List.take (j+1) UU).drop j=[cW j]:=by decide+kernel
def Yn4:∀j:Nat,j<100->(List.take (2*j+2) pK).drop (2*j)=[cW (j/10),cW j]:=by decide+kernel
def Zzc:UU.length=36:=by decide+kernel
def Ydb:pK.length=200:=by decide+kernel
def Ydh(h:j<10):aj j=[cW j]:=by
 unfold aj
 split
 ·subst j;rfl
 ·rw[uN (by assumption),show j/10=0 by omega,qN];rfl
def Zzd(h:j<100)(h2:10<=j):aj j=[cW (j/10),cW j]:=by
 unfold aj
 rw[aq (by omega),uN (by omega),uN (by omega),show j/10/10=0 by omega,qN];rfl
def Zu4(hj:j<100){h:T O}{N:Nat}:Fn A.C 286 [.int .i64 j] h N (fun v h' N'=>h'=h/\N'=N/\v=.str (aj j)):=by
 intro w
 rw[aQ,A.k286 (by simp)]
 by_cases c:j<10
 ·have e1:=Yqc j c
  have e2:(j:Int)+1<=36:=by omega
  have e3:((j:Int)+1).toNat=j+1:=by omega
  have e4:(j:Int)<10:=by omega
  have e5:(0:Int)<=(j:Int)+1:=by omega
  have e8:(j:Int)<=(j:Int)+1:=by omega
  simp(disch:=omega) [A.b286,e4,wF,az,dt,jP,Zzc,e1,e2,e3,e5,e8,aA,Ydh c]
  exact ad.refl
 ·have e1:=Yn4 j hj
  have e4:¬(j:Int)<10:=by omega
  have e2:(j:Int)*2+2<=200:=by omega
  have e3:((j:Int)*2+2).toNat=2*j+2:=by omega
  have e5:(0:Int)<=(j:Int)*2+2:=by omega
  have e6:(0:Int)<=(j:Int)*2:=by omega
  have e8:(j:Int)*2<=2*(j:Int)+2:=by omega
  have e7:((j:Int)*2).toNat=2*j:=by omega
  simp(disch:=omega) [A.b286,e4,wF,az,dt,jP,Ydb,e1,e2,e3,e5,e6,e7,e8,aA,Zzd hj (vz.1 c)]
  exact ad.refl
def Vc:[V.int .u8 0,V.int .u8 0,V.int .u8 0,V.int .u8 0,V.int .u8 0,V.int .u8 0,V.int .u8 0,V.int .u8 0,V.int .u8 0,V.int .u8 0,V.int .u8 0,V.int .u8 0,V.int .u8 0,V.int .u8 0,V.int .u8 0,V.int .u8 0,V.int .u8 0,V.int .u8 0,V.int .u8 0,V.int .u8 0,V.int .u8 0,V.int .u8 0,V.int .u8 0,V.int .u8 0]=tv 24 (fun _=>.int .u8 0):=rfl
def Zo2(hx:x<18446744073709551616):(cZ x).length<=20:=nO.1 (by omega)
def Fp(h:x≠0):aj x=cZ x:=by unfold aj;rw[aq h]
def Yp5(hx:x<18446744073709551616){h:T O}{N:Nat}(hp:jB h N):Fn A.C 262 [.int .u64 x,.int .i64 10] h N (fun v h' N'=>v=.str (aj x)):=by
 intro w
 rw[aQ,A.k262 (by simp)]
 by_cases c:x<100
 ·have c1:(x:Int)<100:=by omega
  have e1:bb .i64 (x:Int)=(x:Int):=cb (by omega) (by omega)
  simp[A.b262,c1,e1]
  refine au (Zu4 c) ?_
  rintro _ _ _ _ ⟨rfl,rfl,rfl⟩
  simp[aA]
  exact ad.refl
 ·have c1:¬(x:Int)<100:=by omega
  simp[A.b262,c1,Vc]
  refine au (UX hx (by omega) (hp.ae (aG ad.refl _))) ?_
  rintro _ _ _ _ ⟨rfl,rfl,rfl⟩
  have hl:=Zo2 hx
  obtain⟨L,hL⟩:∃L,(cZ x).length=L:=⟨_,rfl⟩
  have OR:x<10^L:=nO.2 (by omega)
  have e2:(L:Int)<=24:=by omega
  rw[hL]
  rw[hL]at hl
  simp[xG,az,dt,jP,e2,yw]
  refine zK (U4 (n2:=N) (Z:=24) (o:=0) (x:=x) (f0:=fun _=>.int .u8 0) (e:=311) (by omega) (by omega) (aR N) (q9 N) OR hx (by rw[T.ai,aJ rfl])) ?_
  rintro v ⟨H2,n2,W2⟩ ⟨hn,hW,hO,f,hr,hd,_⟩
  simp only at hn hW hO hr
  subst hn
  have cO:=U6 (f:=f) (show 0+L<=24 by omega)
  rw[U5 hL.symm hd]at cO
  simp[xG,az,dt,jP,e2,yw,U8,U9,Va,hr,cO,Vb,aA]
  have Bi:aB N W2=[]:=hW
  rw[Bi,Fp (by omega)]
  refine⟨rfl,⟨wC _,fun i hi=>?_⟩,rfl⟩
  rw[hO i (by omega),T.ai,aq (by omega)]
def Yh8(hx:x<18446744073709551616){h:T O}{N:Nat}(hp:jB h N):Fn A.C 232 [.int .u64 x,.int .i64 10] h N (fun v h' N'=>v=.str (aj x)):=by
 intro w
 rw[aQ,A.k232 (by simp)]
 simp[A.b232]
 refine au (Yp5 hx hp) ?_
 rintro _ _ _ k1 rfl
 simp[aA]
 exact k1
def Yp7{z:Int}(h1: -9223372036854775808<=z)(h2:z<9223372036854775808){h:T O}{N:Nat}(hp:jB h N):Fn A.C 285 [.int .i64 z,.int .i64 10] h N (fun v h' N'=>v=.str (aK z)):=by
 intro w
 rw[aQ,A.k285 (by simp)]
 by_cases c:0<=z/\z<100
 ·obtain⟨j,rfl⟩:=Bz c.1
  have c1:(j:Int)<100:=c.2
  have hj:aK (j:Int)=aj j:=by unfold aK;rw[aq (by omega)];rfl
  simp[A.b285,c1]
  refine au (Zu4 (by omega)) ?_
  rintro _ _ _ _ ⟨rfl,rfl,rfl⟩
  simp[aA,hj]
  exact ad.refl
 ·have hx:z.natAbs<18446744073709551616:=by omega
  have oR:z.natAbs≠0:=by omega
  obtain⟨x,Vd⟩:∃x,z.natAbs=x:=⟨_,rfl⟩
  have hl:=Zo2 (Vd▸hx)
  obtain⟨L,hL⟩:∃L,(cZ x).length=L:=⟨_,rfl⟩
  have OR:x<10^L:=nO.2 (by omega)
  have hL0:0<L:=by rw[<-hL];exact Zsa (by omega)
  rw[hL]at hl
  have e2:(L:Int)+1<=24:=by omega
  have e3:(0:Int)<=(L:Int)+1:=by omega
  have e4:((L:Int)+1).toNat=L+1:=by omega
  have e5:(1:Int)<=(L:Int)+1:=by omega
  have e6:(1:Int)+(L:Int)=(L:Int)+1:=by omega
  by_cases hz:z<0
  ·have c2:¬0<=z:=by omega
   have w1:IntKind.wrap .u64 (-(bb .u64 z))=(x:Int):=by rw[He,Hf];omega
   simp[A.b285,c2,hz,Vc,w1]
   refine au (UX (x:=x) (by omega) (by omega) (hp.ae (aG ad.refl _))) ?_
   rintro _ _ _ _ ⟨rfl,rfl,rfl⟩
   rw[hL]
   simp(disch:=omega) [xG,az,dt,jP,e2,e3,e4,e5,e6,yw]
   refine zK (U4 (n2:=N) (Z:=24) (o:=1) (x:=x) (f0:=fun _=>.int .u8 0) (e:=311) (by omega) (by omega) (aR N) (q9 N) OR (by omega) (by rw[T.ai,aJ rfl])) ?_
   rintro v ⟨H2,n2,W2⟩ ⟨hn,hW,hO,f,hr,hd,_⟩
   simp only at hn hW hO hr
   subst hn
   have Bi:aB N W2=[]:=hW
   have cO:=U6 (f:=ka f 0 (.int .u8 45)) (show 0+(L+1)<=24 by omega)
   have wN:(List.range (L+1)).map (fun j=>ka f 0 (.int .u8 45) (0+j))=(45::cZ x).map vB:=by
    rw[List.range_succ_eq_map,km,List.map_map,km,<-U5 hL.symm hd]
    congr 1
    apply List.map_congr_left
    intro j _
    show ka f 0 _ (0+(j+1))=_
    rw[ka,aq (by omega)]
    congr 1;omega
   rw[wN]at cO
   have zU:aK z=45::cZ x:=by unfold aK;rw[aJ hz,Vd,Fp (by omega)]
   obtain⟨S,hS⟩:∃S,45::cZ x=S:=⟨_,rfl⟩
   rw[hS]at cO zU
   simp(disch:=omega) [xG,Aw,az,dt,jP,e2,e3,e4,e6,yw,U8,U9,Va,hr,hz,KO,cO,Vb,aA,zU,Bi]
   refine⟨wC _,fun i hi=>?_⟩
   rw[T.ai,aq (by omega),hO i (by omega),T.ai,aq (by omega)]
  ·have c2:0<=z:=by omega
   have c3:¬z<100:=by omega
   have w1:bb .u64 z=(x:Int):=by rw[Co (by omega) (by omega)];omega
   simp[A.b285,c2,c3,hz,Vc,w1]
   refine au (UX (x:=x) (by omega) (by omega) (hp.ae (aG ad.refl _))) ?_
   rintro _ _ _ _ ⟨rfl,rfl,rfl⟩
   rw[hL]
   simp(disch:=omega) [xG,az,dt,jP,e2,e3,e4,e5,e6,yw]
   refine zK (U4 (n2:=N) (Z:=24) (o:=1) (x:=x) (f0:=fun _=>.int .u8 0) (e:=311) (by omega) (by omega) (aR N) (q9 N) OR (by omega) (by rw[T.ai,aJ rfl])) ?_
   rintro v ⟨H2,n2,W2⟩ ⟨hn,hW,hO,f,hr,hd,_⟩
   simp only at hn hW hO hr
   subst hn
   have Bi:aB N W2=[]:=hW
   have cO:=U6 (f:=f) (show 1+L<=24 by omega)
   rw[U5 hL.symm hd]at cO
   have zU:aK z=cZ x:=by unfold aK;rw[aq hz,Vd,Fp (by omega)]
   simp(disch:=omega) [xG,az,dt,jP,e2,e3,e4,e5,e6,yw,U8,U9,Va,hr,hz,cO,Vb,aA,zU,Bi]
   refine⟨wC _,fun i hi=>?_⟩
   rw[hO i (by omega),T.ai,aq (by omega)]
def Yk2{z:Int}(h1: -9223372036854775808<=z)(h2:z<9223372036854775808){h:T O}{N:Nat}(hp:jB h N):Fn A.C 230 [.int .i64 z] h N (fun v h' N'=>v=.str (aK z)):=by
 intro w
 rw[aQ,A.k230 (by simp)]
 simp[A.b230]
 refine au (?_:Fn A.C 257 [.int .i64 z] h N (fun v h' N'=>v=.str (aK z))) ?_
 ·intro w
  rw[aQ,A.k257 (by simp)]
  simp[A.b257]
  refine au (Yp7 h1 h2 hp) ?_
  rintro _ _ _ k1 rfl
  simp[aA]
  exact k1
 ·rintro _ _ _ k1 rfl
  simp[aA]
  exact k1
def Ve:List UInt8:=List.replicate 128 32
def Vf:List UInt8:=List.replicate 128 45
def Yhs:List UInt8:=List.replicate 128 61
def Ym0:List UInt8:=List.replicate 64 9
def Fq:List UInt8:=List.replicate 64 48
def A.Bj:cj:=.seq (sr [c1 111 265 9,mv 112 7,bi 113 .lss 111 112]
 (cd 113
 (.skip)
 (.exit 3)))
 (.block 4 (sr [mv 114 7,c1 115 265 9,bi 116 .sub 114 115,c1 117 265 9,mv 118 8,ge 119 (.mn [tq 116,tq 117,tq 118]),mv 10 119]
 (.fL [c1 120 235 9,mv 121 10,ge 122 (.cr (tq 120) none (some (tq 121))),c2 123 234 9 122])))
def A.b233:cj:=sr [ge 4 (.mF (.const (.str [])))]
 (.seq (sr [mv 11 1]
 (.block 0 (sr [ei 13 11 0,mv 12 13]
 (cd 12
 (sr [ge 4 (.mF (.const (.str [])))]
 (.ret))
 (sr [ei 15 11 1,mv 14 15]
 (cd 14
 (sr [mv 16 0,mv 4 16]
 (.ret))
 (.skip)))))))
 (.seq (sr [mv 17 1,bc 18 .lss 17 0]
 (cd 18
 (.fL [ge 19 (.gQ 9 (.const (.str [115,116,114,105,110,103,115,58,32,110,101,103,97,116,105,118,101,32,82,101,112,101,97,116,32,99,111,117,110,116]))),gn (.stop)])
 (.skip)))
 (sr [mv 21 0,ge 22 (.len 0 (tq 21)),ge 23 (.cR .u64 (tq 22)),mv 24 1,ge 25 (.cR .u64 (tq 24)),c2 26 263 23 25,mv 20 26,xt 27 20 0,xt 28 20 1,mv 5 27,mv 6 28]
 (.seq (sr [mv 29 5,ge 30 (.bin .gtr (.node []) false (tq 29) (.const (.int .u64 0))),mv 31 30,mh 32 6 31,gz 33 31 (.bin .gtr (.node []) false (tq 32) (.const (.int .u64 9223372036854775807))),pt 34 31 33]
 (cd 34
 (.fL [ge 35 (.gQ 9 (.const (.str [115,116,114,105,110,103,115,58,32,82,101,112,101,97,116,32,111,117,116,112,117,116,32,108,101,110,103,116,104,32,111,118,101,114,102,108,111,119]))),gn (.stop)])
 (.skip)))
 (sr [mv 36 6,ge 37 (.cR .i64 (tq 36)),mv 7 37]
 (.seq (sr [mv 38 0,ge 39 (.len 0 (tq 38)),ei 40 39 0]
 (cd 40
 (sr [ge 4 (.mF (.const (.str [])))]
 (.ret))
 (.skip)))
 (.seq (sr [mv 41 0,ge 42 (.bG (tq 41) (kq 0))]
 (.block 1 (.seq (sr [ge 44 (.bin .eql (.cQ .int) true (tq 42) (.const (.int .u8 32))),mv 43 44]
 (cd 43
 (.skip)
 (sr [ge 45 (.bin .eql (.cQ .int) true (tq 42) (.const (.int .u8 45))),mv 43 45]
 (cd 43
 (.skip)
 (sr [ge 46 (.bin .eql (.cQ .int) true (tq 42) (.const (.int .u8 48))),mv 43 46]
 (cd 43
 (.skip)
 (sr [ge 47 (.bin .eql (.cQ .int) true (tq 42) (.const (.int .u8 61))),mv 43 47]
 (cd 43
 (.skip)
 (.fL [ge 48 (.bin .eql (.cQ .int) true (tq 42) (.const (.int .u8 9))),mv 43 48])))))))))
 (cd 43
 (.block 2 (sr [mv 50 7,bc 51 .leq 50 128,mv 52 51,mg 53 0 52,gy 54 52 (.call (fq 184) [(.const (.str Ve)),tq 53]),pf 55 52 54,mv 49 55]
 (cd 49
 (sr [mv 56 7,ge 57 (.cr (.const (.str Ve)) none (some (tq 56))),mv 4 57]
 (.ret))
 (sr [mv 59 7,bc 60 .leq 59 128,mv 61 60,mg 62 0 61,gy 63 61 (.call (fq 184) [(.const (.str Vf)),tq 62]),pf 64 61 63,mv 58 64]
 (cd 58
 (sr [mv 65 7,ge 66 (.cr (.const (.str Vf)) none (some (tq 65))),mv 4 66]
 (.ret))
 (sr [mv 68 7,bc 69 .leq 68 64,mv 70 69,mg 71 0 70,gy 72 70 (.call (fq 184) [(.const (.str Fq)),tq 71]),pf 73 70 72,mv 67 73]
 (cd 67
 (sr [mv 74 7,ge 75 (.cr (.const (.str Fq)) none (some (tq 74))),mv 4 75]
 (.ret))
 (sr [mv 77 7,bc 78 .leq 77 128,mv 79 78,mg 80 0 79,gy 81 79 (.call (fq 184) [(.const (.str Yhs)),tq 80]),pf 82 79 81,mv 76 82]
 (cd 76
 (sr [mv 83 7,ge 84 (.cr (.const (.str Yhs)) none (some (tq 83))),mv 4 84]
 (.ret))
 (sr [mv 86 7,bc 87 .leq 86 64,mv 88 87,mg 89 0 88,gy 90 88 (.call (fq 184) [(.const (.str Ym0)),tq 89]),pf 91 88 90,mv 85 91]
 (cd 85
 (sr [mv 92 7,ge 93 (.cr (.const (.str Ym0)) none (some (tq 92))),mv 4 93]
 (.ret))
 (.skip))))))))))))
 (.skip)))))
 (sr [mv 94 7,mv 8 94]
 (.seq (sr [mv 95 7,bc 96 .gtr 95 8192]
 (cd 96
 (sr [mv 97 0,ge 98 (.len 0 (tq 97)),ge 99 (.bin .quo (.node []) false (kq 8192) (tq 98)),mv 100 0,ge 101 (.len 0 (tq 100)),bi 102 .mul 99 101,mv 8 102]
 (sr [mv 103 8,ei 104 103 0]
 (cd 104
 (.fL [mv 105 0,ge 106 (.len 0 (tq 105)),mv 8 106])
 (.skip))))
 (.skip)))
 (sr [ge 9 (.alloc [.bF,.aa] 262)]
 (sr [mv 107 7,c2 108 264 9 107]
 (sr [mv 109 0,c2 110 234 9 109]
 (.seq (.block 3 (.loop A.Bj))
 (sr [c1 124 235 9,mv 4 124]
 (.ret)))))))))))))))
def A.k233:=@A.kk 233 125 [.tmp 4] A.b233 (by kernel_rfl) rfl
def A.b263:=A.q Tryz.f263
def A.k263:=@A.kk 263 30 [.tmp 4,.tmp 5] A.b263 (by kernel_rfl) rfl
def Ylz{h:T O}{N:Nat}{x y:Nat}(hx:x<18446744073709551616)(hy:y<18446744073709551616):Fn A.C 263 [.int .u64 x,.int .u64 y] h N (fun v' h' N'=>h'=h/\N'=N/\v'=.aY [.int .u64 (bZ (x*y):Nat),.int .u64 (bs (x*y):Nat)]):=by
 intro w
 rw[aQ,A.k263 (by simp)]
 simp[A.b263]
 refine au (Kh hx hy) ?_
 rintro _ _ _ k1 ⟨rfl,rfl,rfl⟩
 simp[aA]
 exact k1
def Vg{a c:UInt8}{s:aU}{st:St}:A.C.call (.func 184 [] []) [.str (a::s),.str [c]] st=some (.bool (decide (a=c)),st):=by
 have e:(([a]:aU)==[c])=decide (a=c):=by
  rw[Bool.eq_iff_iff]
  simp
 have h1:(1:Int)<=(s.length:Int)+1:=by omega
 apply Call.eq
 rw[aQ,A.k184 (by simp)]
 have qk:∀st,A.C.call (.func 224 [] []) [.str (a::s),.str [c]] st=some (.bool (decide (a=c)),st):=fun st=>by
  apply Call.eq
  rw[aQ,A.k224 (by simp)]
  simp[A.b224,az,dt,jP,wF,e,h1]
 simp[A.b184,qk]
def Yr6{st:St}:A.C.call (.func 184 [] []) [.str Ve,.str [48]] st=some (.bool false,st):=Vg (a:=32) (s:=List.replicate 127 32)
def Yr5{st:St}:A.C.call (.func 184 [] []) [.str Vf,.str [48]] st=some (.bool false,st):=Vg (a:=45) (s:=List.replicate 127 45)
def Yr4{st:St}:A.C.call (.func 184 [] []) [.str Fq,.str [48]] st=some (.bool true,st):=Vg (a:=48) (s:=List.replicate 63 48)
def Zxe{k:Nat}(h:k<=64):List.take k Fq=List.replicate k 48:=by
 unfold Fq
 rw[List.take_replicate,nU h]
def Yaq:Fq.length=64:=by simp[Fq]
def Zqx{k:Nat}(hk:k<=18){h:T O}{N:Nat}:Fn A.C 233 [.str [48],.int .i64 k] h N (fun v h' N'=>v=.str (List.replicate k 48)):=by
 intro w
 rw[aQ,A.k233 (by simp)]
 by_cases c0:k=0
 ·subst c0
  simp[A.b233,aA]
  exact ad.refl
 ·by_cases c1:k=1
  ·subst c1
   simp[A.b233,aA]
   exact ad.refl
  ·have c3:¬(k:Int)=1:=by omega
   have e0:bb .u64 (1:Int)=((1:Nat):Int):=Co (by omega) (by omega)
   have e1:bb .u64 (k:Int)=(k:Int):=Co (by omega) (by omega)
   have c4:¬(k:Int)<0:=by omega
   simp[A.b233,c0,c3,c4,e0,e1]
   refine au (Ylz (x:=1) (y:=k) (by omega) (by omega)) ?_
   rintro _ _ _ _ ⟨rfl,rfl,rfl⟩
   have g1:bZ (1*k)=0:=by unfold bZ;omega
   have g2:bs (1*k)=k:=by unfold bs;omega
   have g3:¬(9223372036854775807:Int)<(k:Int):=by omega
   have g4:bb .i64 (k:Int)=(k:Int):=cb (by omega) (by omega)
   have g7:cJ 48=48:=rfl
   have g5:(k:Int)<=128:=by omega
   have g6:(k:Int)<=64:=by omega
   rw[g1,g2]
   simp(disch:=omega) [g3,g4,g5,g6,g7,Yr6,Yr5,Yr4,wF,az,dt,jP,Yaq,Zxe,aA]
   exact ad.refl
variable {N b:Nat} {h:T O} {s:aU}
def A.b266:cj:=sr [mv 2 0,ge 3 (.mI (tq 2)),fa 4 0 3,ld 5 4,ge 6 (.bin .eql (.cQ .ptr) true (tq 5) (.const .bF))]
 (cd 6
 (.fL [mv 7 0,mv 8 0,ge 9 (.Gt none (tq 8)),ge 10 (.ext .same [tq 9]),ge 11 (.Gt (some (262,2)) (tq 10)),ge 12 (.mI (tq 7)),fa 13 0 12,so 13 11])
 (sr [mv 14 0,ge 15 (.mI (tq 14)),fa 16 0 15,ld 17 16,mv 18 0,ge 19 (.bin .neq (.cQ .ptr) false (tq 17) (tq 18))]
 (cd 19
 (.stop)
 (.skip))))
def A.k266:=@A.kk 266 20 [] A.b266 (by kernel_rfl) rfl
def A.b234:=A.q Tryz.f234
def A.k234:=@A.kk 234 19 [.tmp 4,.tmp 5] A.b234 (by kernel_rfl) rfl
def A.b235:=A.q Tryz.f235
def A.k235:=@A.kk 235 14 [.tmp 2] A.b235 (by kernel_rfl) rfl
def Bd(h:T O)(N b:Nat)(s:aU):Prop:=b<N/\∃p v,h.get b=some (.cells [p,v] 262 true)/\(p=.bF\/p=.ptr b 0)/\((v=.aa/\s=[])\/∃j,v=.slice j 0 s.length none 1/\b<j/\j<N/\s≠[]/\h.get j=some (.cells (s.map vB) 5 true))
def Ylv{n2:Nat}{w:List Nat}(eZ:n2<=b)(hb:Bd h N b s):Call A.C (.func 266 [] []) [.ptr b 0] ⟨h,N,w⟩ (fun _ st=>st.n=N/\aB n2 st.w=aB n2 w/\(∀i,i<b->st.h.get i=h.get i)/\Bd st.h N b s):=by
 obtain⟨hN,p,v,hr,hp,hv⟩:=hb
 have oM:¬b<n2:=by omega
 rw[aQ,A.k266 (by simp)]
 rcases hp with rfl|rfl
 ·simp[A.b266,hr,aW,BZ,hN,oM]
  refine⟨fun i hi hc=>by omega,hN,.ptr b 0,v,?_,.inr rfl,?_⟩
  ·rw[T.ai,aJ rfl];rfl
  ·rcases hv with hv|⟨j,h1,h2,h3,h4,h5⟩
   ·exact .inl hv
   ·exact .inr ⟨j,h1,h2,h3,h4,by rw[T.ai,aq (by omega)];exact h5⟩
 ·simp[A.b266,hr,aW]
  exact⟨hN,.ptr b 0,v,hr,.inr rfl,hv⟩
def Zzw{n0:Nat}{t:aU}{w:List Nat}(uK:n0<=b)(hb:Bd h N b s)(ht:t≠[])(hl:s.length+t.length<1000000000000):Call A.C (.func 234 [] []) [.ptr b 0,.str t] ⟨h,N,w⟩ (fun _ st=>st.n=N+1/\aB n0 st.w=aB n0 w/\(∀i,i<b->st.h.get i=h.get i)/\Bd st.h (N+1) b (s++t)):=by
 rw[aQ,A.k234 (by simp)]
 simp[A.b234]
 refine zK (Ylv uK hb) ?_
 rintro _ ⟨H2,n2,W2⟩ ⟨hn,hW,hO,oM⟩
 simp only at hn hW hO oM
 subst hn
 obtain⟨hN,p,v,hr,hp,hv⟩:=oM
 have nA:¬t.length=0:=by simpa using ht
 have hc:(t.map vB).length=t.length:=by simp
 have hW0:aB n0 W2=[]:=hW
 have m1:2*t.length<=281474976710656:=by omega
 have m2:¬281474976710656<2*(s.length+t.length):=by omega
 have m3:¬s.length+t.length<=s.length:=by omega
 have bK:¬b=n2:=by omega
 have py:¬b<n0:=by omega
 rcases hv with⟨rfl,rfl⟩|⟨j,rfl,h2,h3,h4,h5⟩
 ·simp[-aB,hr,Ax,nI,iQ,zv,nA,St.alloc,m1,bK,bS,ag]
  refine⟨Kd (Ke (by simp[aB,hW0,py])),fun i hi=>?_,by omega,p,.slice n2 0 t.length none 1,by rw[T.ai,aJ rfl],hp,.inr ⟨n2,rfl,hN,by omega,ht,by rw[T.ai,aq (by omega),T.ai,aJ rfl];rfl⟩⟩
  rw[aq (by omega),aq (by omega)];exact hO i hi
 ·have jR:¬b=j:=by omega
  have DY:¬j<n0:=by omega
  simp[-aB,hr,Ax,nI,iQ,zv,nA,St.alloc,St.row,h5,m2,m3,bK,jR,bS,ag]
  refine⟨Kd (Ke (by simp[aB,hW0,py,DY])),fun i hi=>?_,by omega,p,.slice n2 0 (s.length+t.length) none 1,by rw[T.ai,aJ rfl],hp,.inr ⟨n2,by simp,hN,by omega,by simp[h4],by rw[T.ai,aq (by omega),T.ai,aJ rfl,List.map_append];rfl⟩⟩
  rw[aq (by omega),aq (by omega),aq (by omega)];exact hO i hi
def Yi9{α:Type}(c:List α):aM c 0 c.length=some c:=by unfold aM;simp
def Zse:∀(s:aU),DR (s.map vB)=some s
 |[]=>rfl
 |c::s=>by
  rw[km]
  have h1:Nh (vB c)=some c:=by
   unfold Nh vB cJ
   have:=c.toNat_lt
   simp
   omega
  simp only[DR,h1,Zse s]
def Yly{n0:Nat}{w:List Nat}(uK:n0<=b)(hb:Bd h N b s)(hs:s≠[])(hl:s.length<1000000000000):Call A.C (.func 235 [] []) [.ptr b 0] ⟨h,N,w⟩ (fun v st=>v=.str s/\st.n=N/\aB n0 st.w=aB n0 w/\(∀i,i<b->st.h.get i=h.get i)):=by
 obtain⟨hN,p,v,hr,hp,hv⟩:=hb
 rw[aQ,A.k235 (by simp)]
 rcases hv with⟨_,rfl⟩|⟨j,rfl,h2,h3,h4,h5⟩
 ·exact absurd rfl hs
 ·have h0:0<s.length:=List.length_pos_iff.2 hs
  have qk:(0:Int)<(s.length:Int):=by omega
  have hm:(s.length:Int)<=9223372036854775807:=by omega
  have cO:aM (s.map vB) 0 s.length=some (s.map vB):=by
   have:=Yi9 (s.map vB)
   rw[List.length_map]at this
   exact this
  have hbm:=Zse s
  have DY:¬j<n0:=by omega
  simp[A.b235,hr,GM,GN,h0,hm,h5,h3,hN,cO,hbm,DY]
  exact fun i hi hc=>by omega
end
end Go.Mx
