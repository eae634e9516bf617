/-strconv-/
import Derived.Test.YtokjleejipaidaaGreatDoorNbK
set_option linter.all false
namespace Go.Mx
noncomputable section
open Go Go.Proofs
variable {j o x:Nat}
set_option maxHeartbeats 1000000
set_option maxRecDepth 1000000
def A.b253:=A.q Tryz.f253
def A.k253:=@A.kk 253 32 [.tmp 4] A.b253 (by kernel_rfl) rfl
def A.b278:=A.q Tryz.f278
def A.k278:=@A.kk 278 54 [.tmp 4] A.b278 (by kernel_rfl) rfl
def A.b248:=A.q Tryz.f248
def A.k248:=@A.kk 248 5 [.tmp 2] A.b248 (by kernel_rfl) rfl
def A.b211:=A.q Tryz.f211
def A.k211:=@A.kk 211 5 [.tmp 2] A.b211 (by kernel_rfl) rfl
def A.b213:=A.q Tryz.f213
def A.k213:=@A.kk 213 8 [.tmp 4] A.b213 (by kernel_rfl) rfl
def Yk0:∀{x:Nat},(j:Nat)->j<(de x).length->(de x)[j]?=some (cZ (x/10^((de x).length-1-j))):=by
 intro x
 induction x using Nat.strongRecOn with
 |_ x ih=>
  intro j hj
  by_cases h0:x=0
  ·subst h0;rw[ux]at hj;simp at hj
  ·have e:=yc h0
   have hl:(de x).length=(de (x/10)).length+1:=by rw[e];simp
   rw[hl]
   rw[e]
   by_cases oR:j<(de (x/10)).length
   ·rw[iS oR,ih _ (CV (by omega) (by decide)) j oR,GY]
    congr 3
    rw[show (de (x/10)).length+1-1-j=((de (x/10)).length-1-j)+1 by omega,gw,jg]
   ·have:j=(de (x/10)).length:=by omega
    subst this
    simp
def Zz{L:Nat}{f:Nat->V}(hL:L=(de x).length)(hf:∀j,j<L->f (o+j)=vB (cZ (x/10^(L-1-j)))):(List.range L).map (fun j=>f (o+j))=(de x).map vB:=by
 apply og
 intro j
 rw[fm,fm]
 by_cases hj:j<L
 ·rw[CK hj,Yk0 j (by omega),<-hL]
  simp[hf j hj]
 ·rw[fv (by simpa using hj),fv (by omega)]
  rfl
def ZA{Z L:Nat}{f:Nat->V}(h:o+L<=Z):aC (wM Z f) o L=some ((List.range L).map fun j=>f (o+j)):=by
 unfold aC
 rw[Bb,ax h]
 congr 1
 apply og
 intro j
 rw[iI,fm]
 by_cases hj:j<L
 ·rw[ax hj,ff,Sr (by omega),CK hj];rfl
 ·rw[ak hj,fv (by simpa using hj)];rfl
def Sw:V->Option UInt8
 |.int .u8 n=>some (UInt8.ofNat n.toNat)
 |_=>none
def Oh(st:St):Option (List V)->Option (V×St)
 |some l=>match l.mapM Sw with
  |some s=>some (.str s,st)
  |none=>none
 |none=>none
def Sx(st:St)(o len:Nat):Option (List V×TypeId×Bool)->Option (V×St)
 |some (c,_,_)=>Oh st (aC c o len)
 |none=>none
def ZB(st:St):Option V->Option (V×St)
 |some .aa=>some (.str [],st)
 |some (.slice i o len _ 1)=>Sx st o len (st.row i)
 |_=>none
def ZC{x:Src}{call:cH}{r:T V}{st:St}:Hl x call r st=ZB st (x.ev r):=by
 unfold Hl ZB Sx Oh
 rfl
def ZD{st:St}{i len:Nat}{c:Option Nat}:ZB st (some (.slice i o len c 1))=Sx st o len (st.row i):=rfl
def ZE{st:St}{len:Nat}{c:List V}{e:TypeId}{b:Bool}:Sx st o len (some (c,e,b))=Oh st (aC c o len):=rfl
def ZF{st:St}:∀{s:aQ},Oh st (some (s.map vB))=some (.str s,st):=by
 intro s
 have:(s.map vB).mapM Sw=some s:=by
  induction s with
  |nil=>rfl
  |cons c s ih=>
   rw[mU,List.mapM_cons,ih]
   have:Sw (vB c)=some c:=by simp[Sw,vB,cK]
   simp[this]
 simp only[Oh,this]
def Yv6:∀j:Nat,j<10->(List.take (j+1) Zr).drop j=[cZ j]:=by decide+kernel
def Yt0:∀j:Nat,j<100->(List.take (2*j+2) sh).drop (2*j)=[cZ (j/10),cZ j]:=by decide+kernel
def Ybt:Zr.length=36:=by decide+kernel
def Yge:sh.length=200:=by decide+kernel
def Ygj(h:j<10):aq j=[cZ j]:=by
 unfold aq
 split
 ·subst j;rfl
 ·rw[yc (by assumption),show j/10=0 by omega,ux];rfl
def Ybu(h:j<100)(h2:10<=j):aq j=[cZ (j/10),cZ j]:=by
 unfold aq
 rw[ak (by omega),yc (by omega),yc (by omega),show j/10/10=0 by omega,ux];rfl
def Zxl(hj:j<100){h:T O}{N:Nat}:Fn A.C 279 [.int .i64 j] h N (fun v h' N'=>h'=h/\N'=N/\v=.str (aq j)):=by
 intro w
 rw[aM,A.k279 (by simp)]
 by_cases c:j<10
 ·have e1:=Yv6 j c
  have e2:(j:Int)+1<=36:=by omega
  have e3:((j:Int)+1).toNat=j+1:=by omega
  have e4:(j:Int)<10:=by omega
  have e5:(0:Int)<=(j:Int)+1:=by omega
  have e8:(j:Int)<=(j:Int)+1:=by omega
  simp(disch:=omega) [A.b279,e4,zE,aB,dB,kR,Ybt,e1,e2,e3,e5,e8,az,Ygj c]
  exact ab.refl
 ·have e1:=Yt0 j hj
  have e4:¬(j:Int)<10:=by omega
  have e2:(j:Int)*2+2<=200:=by omega
  have e3:((j:Int)*2+2).toNat=2*j+2:=by omega
  have e5:(0:Int)<=(j:Int)*2+2:=by omega
  have e6:(0:Int)<=(j:Int)*2:=by omega
  have e8:(j:Int)*2<=2*(j:Int)+2:=by omega
  have e7:((j:Int)*2).toNat=2*j:=by omega
  simp(disch:=omega) [A.b279,e4,zE,aB,dB,kR,Yge,e1,e2,e3,e5,e6,e7,e8,az,Ybu hj (tK.1 c)]
  exact ab.refl
def ZG:[V.int .u8 0,V.int .u8 0,V.int .u8 0,V.int .u8 0,V.int .u8 0,V.int .u8 0,V.int .u8 0,V.int .u8 0,V.int .u8 0,V.int .u8 0,V.int .u8 0,V.int .u8 0,V.int .u8 0,V.int .u8 0,V.int .u8 0,V.int .u8 0,V.int .u8 0,V.int .u8 0,V.int .u8 0,V.int .u8 0,V.int .u8 0,V.int .u8 0,V.int .u8 0,V.int .u8 0]=wM 24 (fun _=>.int .u8 0):=rfl
def Zqy(hx:x<18446744073709551616):(de x).length<=20:=qd.1 (by omega)
def II(h:x≠0):aq x=de x:=by unfold aq;rw[ak h]
def Yv2(hx:x<18446744073709551616){h:T O}{N:Nat}(hp:lE h N):Fn A.C 253 [.int .u64 x,.int .i64 10] h N (fun v h' N'=>v=.str (aq x)):=by
 intro w
 rw[aM,A.k253 (by simp)]
 by_cases c:x<100
 ·have c1:(x:Int)<100:=by omega
  have e1:bh .i64 (x:Int)=(x:Int):=cE (by omega) (by omega)
  simp[A.b253,c1,e1]
  refine ay (Zxl c) ?_
  rintro _ _ _ _ ⟨rfl,rfl,rfl⟩
  simp[az]
  exact ab.refl
 ·have c1:¬(x:Int)<100:=by omega
  simp[A.b253,c1,ZG]
  refine ay (Zt hx (by omega) (hp.ad (aN ab.refl _))) ?_
  rintro _ _ _ _ ⟨rfl,rfl,rfl⟩
  have hl:=Zqy hx
  obtain⟨L,hL⟩:∃L,(de x).length=L:=⟨_,rfl⟩
  have Sy:x<10^L:=qd.2 (by omega)
  have e2:(L:Int)<=24:=by omega
  rw[hL]
  rw[hL]at hl
  simp[AD,aB,dB,kR,e2,Bb]
  refine An (Zy (n2:=N) (Z:=24) (o:=0) (x:=x) (f0:=fun _=>.int .u8 0) (e:=265) (by omega) (by omega) (aO N) (vS N) Sy hx (by rw[T.ag,ax rfl])) ?_
  rintro v ⟨H2,n2,W2⟩ ⟨hn,hW,hO,f,hr,hd,_⟩
  simp only at hn hW hO hr
  subst hn
  have cD:=ZA (f:=f) (show 0+L<=24 by omega)
  rw[Zz hL.symm hd]at cD
  simp[AD,aB,dB,kR,e2,Bb,ZC,ZD,ZE,hr,cD,ZF,az]
  have si:ar N W2=[]:=hW
  rw[si,II (by omega)]
  refine⟨rfl,⟨vF _,fun i hi=>?_⟩,rfl⟩
  rw[hO i (by omega),T.ag,ak (by omega)]
def Ymk(hx:x<18446744073709551616){h:T O}{N:Nat}(hp:lE h N):Fn A.C 213 [.int .u64 x,.int .i64 10] h N (fun v h' N'=>v=.str (aq x)):=by
 intro w
 rw[aM,A.k213 (by simp)]
 simp[A.b213]
 refine ay (Yv2 hx hp) ?_
 rintro _ _ _ k1 rfl
 simp[az]
 exact k1
def Yv3{z:Int}(h1: -9223372036854775808<=z)(h2:z<9223372036854775808){h:T O}{N:Nat}(hp:lE h N):Fn A.C 278 [.int .i64 z,.int .i64 10] h N (fun v h' N'=>v=.str (aL z)):=by
 intro w
 rw[aM,A.k278 (by simp)]
 by_cases c:0<=z/\z<100
 ·obtain⟨j,rfl⟩:=EK c.1
  have c1:(j:Int)<100:=c.2
  have hj:aL (j:Int)=aq j:=by unfold aL;rw[ak (by omega)];rfl
  simp[A.b278,aJ,c1]
  refine ay (Zxl (by omega)) ?_
  rintro _ _ _ _ ⟨rfl,rfl,rfl⟩
  simp[az,hj]
  exact ab.refl
 ·have hx:z.natAbs<18446744073709551616:=by omega
  have nz:z.natAbs≠0:=by omega
  obtain⟨x,ZH⟩:∃x,z.natAbs=x:=⟨_,rfl⟩
  have hl:=Zqy (ZH▸hx)
  obtain⟨L,hL⟩:∃L,(de x).length=L:=⟨_,rfl⟩
  have Sy:x<10^L:=qd.2 (by omega)
  have hL0:0<L:=by rw[<-hL];exact Zuq (by omega)
  rw[hL]at hl
  have e2:(L:Int)+1<=24:=by omega
  have e3:(0:Int)<=(L:Int)+1:=by omega
  have e4:((L:Int)+1).toNat=L+1:=by omega
  have e5:(1:Int)<=(L:Int)+1:=by omega
  have e6:(1:Int)+(L:Int)=(L:Int)+1:=by omega
  by_cases hz:z<0
  ·have c2:¬0<=z:=by omega
   have w1:IntKind.wrap .u64 (-(bh .u64 z))=(x:Int):=by rw[Kw,Kx];omega
   simp[A.b278,aJ,c2,hz,ZG,w1]
   refine ay (Zt (x:=x) (by omega) (by omega) (hp.ad (aN ab.refl _))) ?_
   rintro _ _ _ _ ⟨rfl,rfl,rfl⟩
   rw[hL]
   simp(disch:=omega) [AD,aB,dB,kR,e2,e3,e4,e5,e6,Bb]
   refine An (Zy (n2:=N) (Z:=24) (o:=1) (x:=x) (f0:=fun _=>.int .u8 0) (e:=265) (by omega) (by omega) (aO N) (vS N) Sy (by omega) (by rw[T.ag,ax rfl])) ?_
   rintro v ⟨H2,n2,W2⟩ ⟨hn,hW,hO,f,hr,hd,_⟩
   simp only at hn hW hO hr
   subst hn
   have si:ar N W2=[]:=hW
   have cD:=ZA (f:=lZ f 0 (.int .u8 45)) (show 0+(L+1)<=24 by omega)
   have du:(List.range (L+1)).map (fun j=>lZ f 0 (.int .u8 45) (0+j))=(45::de x).map vB:=by
    rw[List.range_succ_eq_map,mU,List.map_map,mU,<-Zz hL.symm hd]
    congr 1
    apply yB
    intro j _
    show lZ f 0 _ (0+(j+1))=_
    rw[lZ,ak (by omega)]
    congr 1;omega
   rw[du]at cD
   have Cn:aL z=45::de x:=by unfold aL;rw[ax hz,ZH,II (by omega)]
   obtain⟨S,hS⟩:∃S,45::de x=S:=⟨_,rfl⟩
   rw[hS]at cD Cn
   simp(disch:=omega) [AD,C1,aB,dB,kR,e2,e3,e4,e5,e6,Bb,ZC,ZD,ZE,hr,hz,Od,cD,ZF,az,Cn,si]
   refine⟨vF _,fun i hi=>?_⟩
   rw[T.ag,ak (by omega),hO i (by omega),T.ag,ak (by omega)]
  ·have c2:0<=z:=by omega
   have c3:¬z<100:=by omega
   have w1:bh .u64 z=(x:Int):=by rw[FK (by omega) (by omega)];omega
   simp[A.b278,aJ,c2,c3,hz,ZG,w1]
   refine ay (Zt (x:=x) (by omega) (by omega) (hp.ad (aN ab.refl _))) ?_
   rintro _ _ _ _ ⟨rfl,rfl,rfl⟩
   rw[hL]
   simp(disch:=omega) [AD,aB,dB,kR,e2,e3,e4,e5,e6,Bb]
   refine An (Zy (n2:=N) (Z:=24) (o:=1) (x:=x) (f0:=fun _=>.int .u8 0) (e:=265) (by omega) (by omega) (aO N) (vS N) Sy (by omega) (by rw[T.ag,ax rfl])) ?_
   rintro v ⟨H2,n2,W2⟩ ⟨hn,hW,hO,f,hr,hd,_⟩
   simp only at hn hW hO hr
   subst hn
   have si:ar N W2=[]:=hW
   have cD:=ZA (f:=f) (show 1+L<=24 by omega)
   rw[Zz hL.symm hd]at cD
   have Cn:aL z=de x:=by unfold aL;rw[ak hz,ZH,II (by omega)]
   simp(disch:=omega) [AD,aB,dB,kR,e2,e3,e4,e5,e6,Bb,ZC,ZD,ZE,hr,hz,cD,ZF,az,Cn,si]
   refine⟨vF _,fun i hi=>?_⟩
   rw[hO i (by omega),T.ag,ak (by omega)]
def Yp1{z:Int}(h1: -9223372036854775808<=z)(h2:z<9223372036854775808){h:T O}{N:Nat}(hp:lE h N):Fn A.C 211 [.int .i64 z] h N (fun v h' N'=>v=.str (aL z)):=by
 intro w
 rw[aM,A.k211 (by simp)]
 simp[A.b211]
 refine ay (?_:Fn A.C 248 [.int .i64 z] h N (fun v h' N'=>v=.str (aL z))) ?_
 ·intro w
  rw[aM,A.k248 (by simp)]
  simp[A.b248]
  refine ay (Yv3 h1 h2 hp) ?_
  rintro _ _ _ k1 rfl
  simp[az]
  exact k1
 ·rintro _ _ _ k1 rfl
  simp[az]
  exact k1
def ZI:List UInt8:=List.replicate 128 32
def ZJ:List UInt8:=List.replicate 128 45
def Yl1:List UInt8:=List.replicate 128 61
def Ysn:List UInt8:=List.replicate 64 9
def IJ:List UInt8:=List.replicate 64 48
def A.DS:bN:=.seq (sr [c1 111 256 9,mv 112 7,bi 113 .lss 111 112]
 (cd 113
 (.skip)
 (.exit 3)))
 (.block 4 (sr [mv 114 7,c1 115 256 9,bi 116 .sub 114 115,c1 117 256 9,mv 118 8,ge 119 (.mn [tq 116,tq 117,tq 118]),mv 10 119]
 (.dN [c1 120 216 9,mv 121 10,ge 122 (.ct (tq 120) none (some (tq 121))),c2 123 215 9 122])))
def A.b214:bN:=sr [ge 4 (.jF (.const (.str [])))]
 (.seq (sr [mv 11 1]
 (.block 0 (sr [ei 13 11 0,mv 12 13]
 (cd 12
 (sr [ge 4 (.jF (.const (.str [])))]
 (.ret))
 (sr [ei 15 11 1,mv 14 15]
 (cd 14
 (sr [mv 16 0,mv 4 16]
 (.ret))
 (.skip)))))))
 (.seq (sr [mv 17 1,bc 18 .lss 17 0]
 (cd 18
 (.dN [ge 19 (.iy 9 (.const (.str [115,116,114,105,110,103,115,58,32,110,101,103,97,116,105,118,101,32,82,101,112,101,97,116,32,99,111,117,110,116]))),gn (.stop)])
 (.skip)))
 (sr [mv 21 0,ge 22 (.len 0 (tq 21)),ge 23 (.cR .u64 (tq 22)),mv 24 1,ge 25 (.cR .u64 (tq 24)),c2 26 254 23 25,mv 20 26,xt 27 20 0,xt 28 20 1,mv 5 27,mv 6 28]
 (.seq (sr [mv 29 5,ge 30 (.bin .gtr (.node []) false (tq 29) (.const (.int .u64 0))),mv 31 30,mh 32 6 31,gz 33 31 (.bin .gtr (.node []) false (tq 32) (.const (.int .u64 9223372036854775807))),pt 34 31 33]
 (cd 34
 (.dN [ge 35 (.iy 9 (.const (.str [115,116,114,105,110,103,115,58,32,82,101,112,101,97,116,32,111,117,116,112,117,116,32,108,101,110,103,116,104,32,111,118,101,114,102,108,111,119]))),gn (.stop)])
 (.skip)))
 (sr [mv 36 6,ge 37 (.cR .i64 (tq 36)),mv 7 37]
 (.seq (sr [mv 38 0,ge 39 (.len 0 (tq 38)),ei 40 39 0]
 (cd 40
 (sr [ge 4 (.jF (.const (.str [])))]
 (.ret))
 (.skip)))
 (.seq (sr [mv 41 0,ge 42 (.bJ (tq 41) (kq 0))]
 (.block 1 (.seq (sr [ge 44 (.bin .eql (.bI .int) true (tq 42) (.const (.int .u8 32))),mv 43 44]
 (cd 43
 (.skip)
 (sr [ge 45 (.bin .eql (.bI .int) true (tq 42) (.const (.int .u8 45))),mv 43 45]
 (cd 43
 (.skip)
 (sr [ge 46 (.bin .eql (.bI .int) true (tq 42) (.const (.int .u8 48))),mv 43 46]
 (cd 43
 (.skip)
 (sr [ge 47 (.bin .eql (.bI .int) true (tq 42) (.const (.int .u8 61))),mv 43 47]
 (cd 43
 (.skip)
 (.dN [ge 48 (.bin .eql (.bI .int) true (tq 42) (.const (.int .u8 9))),mv 43 48])))))))))
 (cd 43
 (.block 2 (sr [mv 50 7,bc 51 .leq 50 128,mv 52 51,mg 53 0 52,gy 54 52 (.call (fq 206) [(.const (.str ZI)),tq 53]),pf 55 52 54,mv 49 55]
 (cd 49
 (sr [mv 56 7,ge 57 (.ct (.const (.str ZI)) none (some (tq 56))),mv 4 57]
 (.ret))
 (sr [mv 59 7,bc 60 .leq 59 128,mv 61 60,mg 62 0 61,gy 63 61 (.call (fq 206) [(.const (.str ZJ)),tq 62]),pf 64 61 63,mv 58 64]
 (cd 58
 (sr [mv 65 7,ge 66 (.ct (.const (.str ZJ)) none (some (tq 65))),mv 4 66]
 (.ret))
 (sr [mv 68 7,bc 69 .leq 68 64,mv 70 69,mg 71 0 70,gy 72 70 (.call (fq 206) [(.const (.str IJ)),tq 71]),pf 73 70 72,mv 67 73]
 (cd 67
 (sr [mv 74 7,ge 75 (.ct (.const (.str IJ)) none (some (tq 74))),mv 4 75]
 (.ret))
 (sr [mv 77 7,bc 78 .leq 77 128,mv 79 78,mg 80 0 79,gy 81 79 (.call (fq 206) [(.const (.str Yl1)),tq 80]),pf 82 79 81,mv 76 82]
 (cd 76
 (sr [mv 83 7,ge 84 (.ct (.const (.str Yl1)) none (some (tq 83))),mv 4 84]
 (.ret))
 (sr [mv 86 7,bc 87 .leq 86 64,mv 88 87,mg 89 0 88,gy 90 88 (.call (fq 206) [(.const (.str Ysn)),tq 89]),pf 91 88 90,mv 85 91]
 (cd 85
 (sr [mv 92 7,ge 93 (.ct (.const (.str Ysn)) none (some (tq 92))),mv 4 93]
 (.ret))
 (.skip))))))))))))
 (.skip)))))
 (sr [mv 94 7,mv 8 94]
 (.seq (sr [mv 95 7,bc 96 .gtr 95 8192]
 (cd 96
 (sr [mv 97 0,ge 98 (.len 0 (tq 97)),ge 99 (.bin .quo (.node []) false (kq 8192) (tq 98)),mv 100 0,ge 101 (.len 0 (tq 100)),bi 102 .mul 99 101,mv 8 102]
 (sr [mv 103 8,ei 104 103 0]
 (cd 104
 (.dN [mv 105 0,ge 106 (.len 0 (tq 105)),mv 8 106])
 (.skip))))
 (.skip)))
 (sr [ge 9 (.alloc [.bF,.aa] 219)]
 (sr [mv 107 7,c2 108 255 9 107]
 (sr [mv 109 0,c2 110 215 9 109]
 (.seq (.block 3 (.loop A.DS))
 (sr [c1 124 216 9,mv 4 124]
 (.ret)))))))))))))))
def A.k214:=@A.kk 214 125 [.tmp 4] A.b214 (by kernel_rfl) rfl
def A.b254:=A.q Tryz.f254
def A.k254:=@A.kk 254 30 [.tmp 4,.tmp 5] A.b254 (by kernel_rfl) rfl
def Yrb{h:T O}{N:Nat}{x y:Nat}(hx:x<18446744073709551616)(hy:y<18446744073709551616):Fn A.C 254 [.int .u64 x,.int .u64 y] h N (fun v' h' N'=>h'=h/\N'=N/\v'=.aV [.int .u64 (cm (x*y):Nat),.int .u64 (bu (x*y):Nat)]):=by
 intro w
 rw[aM,A.k254 (by simp)]
 simp[A.b254]
 refine ay (Nz hx hy) ?_
 rintro _ _ _ k1 ⟨rfl,rfl,rfl⟩
 simp[az]
 exact k1
def ZK{a c:UInt8}{s:aQ}{st:St}:A.C.call (.func 206 [] []) [.str (a::s),.str [c]] st=some (.bool (decide (a=c)),st):=by
 have e:(([a]:aQ)==[c])=decide (a=c):=by
  rw[Bool.eq_iff_iff]
  simp
 have h1:(1:Int)<=(s.length:Int)+1:=by omega
 apply Call.eq
 rw[aM,A.k206 (by simp)]
 have fZ:∀st,A.C.call (.func 243 [] []) [.str (a::s),.str [c]] st=some (.bool (decide (a=c)),st):=fun st=>by
  apply Call.eq
  rw[aM,A.k243 (by simp)]
  simp[A.b243,aB,dB,kR,zE,e,h1]
 simp[A.b206,fZ]
def Yxx{st:St}:A.C.call (.func 206 [] []) [.str ZI,.str [48]] st=some (.bool false,st):=ZK (a:=32) (s:=List.replicate 127 32)
def Yxw{st:St}:A.C.call (.func 206 [] []) [.str ZJ,.str [48]] st=some (.bool false,st):=ZK (a:=45) (s:=List.replicate 127 45)
def Yxv{st:St}:A.C.call (.func 206 [] []) [.str IJ,.str [48]] st=some (.bool true,st):=ZK (a:=48) (s:=List.replicate 63 48)
def Zz0{k:Nat}(h:k<=64):List.take k IJ=List.replicate k 48:=by
 unfold IJ
 rw[List.take_replicate,qt h]
def Ydj:IJ.length=64:=by simp[IJ]
def Zte{k:Nat}(hk:k<=18){h:T O}{N:Nat}:Fn A.C 214 [.str [48],.int .i64 k] h N (fun v h' N'=>v=.str (List.replicate k 48)):=by
 intro w
 rw[aM,A.k214 (by simp)]
 by_cases c0:k=0
 ·subst c0
  simp[A.b214,az]
  exact ab.refl
 ·by_cases c1:k=1
  ·subst c1
   simp[A.b214,az]
   exact ab.refl
  ·have c3:¬(k:Int)=1:=by omega
   have e0:bh .u64 (1:Int)=((1:Nat):Int):=FK (by omega) (by omega)
   have e1:bh .u64 (k:Int)=(k:Int):=FK (by omega) (by omega)
   have c4:¬(k:Int)<0:=by omega
   simp[A.b214,c0,c3,c4,e0,e1]
   refine ay (Yrb (x:=1) (y:=k) (by omega) (by omega)) ?_
   rintro _ _ _ _ ⟨rfl,rfl,rfl⟩
   have g1:cm (1*k)=0:=by unfold cm;omega
   have g2:bu (1*k)=k:=by unfold bu;omega
   have g3:¬(9223372036854775807:Int)<(k:Int):=by omega
   have g4:bh .i64 (k:Int)=(k:Int):=cE (by omega) (by omega)
   have g7:cK 48=48:=rfl
   have g5:(k:Int)<=128:=by omega
   have g6:(k:Int)<=64:=by omega
   rw[g1,g2]
   simp(disch:=omega) [g3,g4,g5,g6,g7,Yxx,Yxw,Yxv,zE,aB,dB,kR,Ydj,Zz0,az]
   exact ab.refl
variable {N b:Nat} {h:T O} {s:aQ} {w:List Nat}
set_option maxHeartbeats 1000000
def A.b257:bN:=sr [mv 2 0,ge 3 (.oH (tq 2)),fa 4 0 3,ld 5 4,ge 6 (.bin .eql (.bI .ptr) true (tq 5) (.const .bF))]
 (cd 6
 (.dN [mv 7 0,mv 8 0,ge 9 (.JG none (tq 8)),ge 10 (.ext .same [tq 9]),ge 11 (.JG (some (219,2)) (tq 10)),ge 12 (.oH (tq 7)),fa 13 0 12,so 13 11])
 (sr [mv 14 0,ge 15 (.oH (tq 14)),fa 16 0 15,ld 17 16,mv 18 0,ge 19 (.bin .neq (.bI .ptr) false (tq 17) (tq 18))]
 (cd 19
 (.stop)
 (.skip))))
def A.k257:=@A.kk 257 20 [] A.b257 (by kernel_rfl) rfl
def A.b215:=A.q Tryz.f215
def A.k215:=@A.kk 215 19 [.tmp 4,.tmp 5] A.b215 (by kernel_rfl) rfl
def A.b216:=A.q Tryz.f216
def A.k216:=@A.kk 216 14 [.tmp 2] A.b216 (by kernel_rfl) rfl
def Bd(h:T O)(N b:Nat)(s:aQ):Prop:=b<N/\∃p v,h.get b=some (.cells [p,v] 219 true)/\(p=.bF\/p=.ptr b 0)/\((v=.aa/\s=[])\/∃j,v=.slice j 0 s.length none 1/\b<j/\j<N/\s≠[]/\h.get j=some (.cells (s.map vB) 5 true))
def Yq7{n2:Nat}(fg:n2<=b)(hb:Bd h N b s):Call A.C (.func 257 [] []) [.ptr b 0] ⟨h,N,w⟩ (fun _ st=>st.n=N/\ar n2 st.w=ar n2 w/\(∀i,i<b->st.h.get i=h.get i)/\Bd st.h N b s):=by
 obtain⟨hN,p,v,hr,hp,hv⟩:=hb
 have pY:¬b<n2:=by omega
 rw[aM,A.k257 (by simp)]
 rcases hp with rfl|rfl
 ·simp[A.b257,hr,aJ,EZ,hN,pY]
  refine⟨fun i hi hc=>by omega,hN,.ptr b 0,v,?_,.inr rfl,?_⟩
  ·rw[T.ag,ax rfl];rfl
  ·rcases hv with hv|⟨j,h1,h2,h3,h4,h5⟩
   ·exact .inl hv
   ·exact .inr ⟨j,h1,h2,h3,h4,by rw[T.ag,ak (by omega)];exact h5⟩
 ·simp[A.b257,hr,aJ]
  exact⟨hN,.ptr b 0,v,hr,.inr rfl,hv⟩
def Ycd{n0:Nat}{t:aQ}(jE:n0<=b)(hb:Bd h N b s)(ht:t≠[])(hl:s.length+t.length<1000000000000):Call A.C (.func 215 [] []) [.ptr b 0,.str t] ⟨h,N,w⟩ (fun _ st=>st.n=N+1/\ar n0 st.w=ar n0 w/\(∀i,i<b->st.h.get i=h.get i)/\Bd st.h (N+1) b (s++t)):=by
 rw[aM,A.k215 (by simp)]
 simp[A.b215]
 refine An (Yq7 jE hb) ?_
 rintro _ ⟨H2,n2,W2⟩ ⟨hn,hW,hO,pY⟩
 simp only at hn hW hO pY
 subst hn
 obtain⟨hN,p,v,hr,hp,hv⟩:=pY
 have pJ:¬t.length=0:=by simpa using ht
 have hc:(t.map vB).length=t.length:=by simp
 have zj:ar n0 W2=[]:=hW
 have m1:2*t.length<=281474976710656:=by omega
 have m2:¬281474976710656<2*(s.length+t.length):=by omega
 have m3:¬s.length+t.length<=s.length:=by omega
 have aW:¬b=n2:=by omega
 have jj:¬b<n0:=by omega
 rcases hv with⟨rfl,rfl⟩|⟨j,rfl,h2,h3,h4,h5⟩
 ·simp[-ar,hr,C2,gX,ef,uS,pJ,St.alloc,m1,aW,bD,ae]
  refine⟨Nw (Nx (by simp[ar,zj,jj])),fun i hi=>?_,by omega,p,.slice n2 0 t.length none 1,by rw[T.ag,ax rfl],hp,.inr ⟨n2,rfl,hN,by omega,ht,by rw[T.ag,ak (by omega),T.ag,ax rfl];rfl⟩⟩
  rw[ak (by omega),ak (by omega)];exact hO i hi
 ·have jV:¬b=j:=by omega
  have yY:¬j<n0:=by omega
  simp[-ar,hr,C2,gX,ef,uS,pJ,St.alloc,St.row,h5,m2,m3,aW,jV,bD,ae]
  refine⟨Nw (Nx (by simp[ar,zj,jj,yY])),fun i hi=>?_,by omega,p,.slice n2 0 (s.length+t.length) none 1,by rw[T.ag,ax rfl],hp,.inr ⟨n2,by simp,hN,by omega,by simp[h4],by rw[T.ag,ak (by omega),T.ag,ax rfl,List.map_append];rfl⟩⟩
  rw[ak (by omega),ak (by omega),ak (by omega)];exact hO i hi
def Ynv{α:Type}(c:List α):aC c 0 c.length=some c:=by unfold aC;simp
def Zut:∀(s:aQ),Hu (s.map vB)=some s
 |[]=>rfl
 |c::s=>by
  rw[mU]
  have h1:Q2 (vB c)=some c:=by
   unfold Q2 vB cK
   have:=c.toNat_lt
   simp
   omega
  simp only[Hu,h1,Zut s]
def Yra{n0:Nat}(jE:n0<=b)(hb:Bd h N b s)(hs:s≠[])(hl:s.length<1000000000000):Call A.C (.func 216 [] []) [.ptr b 0] ⟨h,N,w⟩ (fun v st=>v=.str s/\st.n=N/\ar n0 st.w=ar n0 w/\(∀i,i<b->st.h.get i=h.get i)):=by
 obtain⟨hN,p,v,hr,hp,hv⟩:=hb
 rw[aM,A.k216 (by simp)]
 rcases hv with⟨_,rfl⟩|⟨j,rfl,h2,h3,h4,h5⟩
 ·exact absurd rfl hs
 ·have h0:0<s.length:=List.length_pos_iff.2 hs
  have fZ:(0:Int)<(s.length:Int):=by omega
  have hm:(s.length:Int)<=9223372036854775807:=by omega
  have cD:aC (s.map vB) 0 s.length=some (s.map vB):=by
   have:=Ynv (s.map vB)
   rw[gY]at this
   exact this
  have hbm:=Zut s
  have yY:¬j<n0:=by omega
  simp[A.b216,hr,J1,J3,h0,hm,h5,h3,hN,cD,hbm,yY]
  exact fun i hi hc=>by omega
end
end Go.Mx
