/-strings-/
import Derived.Test.YteoackkadadmdaaGreatDoorNcA
set_option linter.all false
namespace Go.Mx
open Go Go.Proofs
set_option maxRecDepth 1000000
def WV:List UInt8:=List.replicate 128 32
def WW:List UInt8:=List.replicate 128 45
def Yj5:List UInt8:=List.replicate 128 61
def Yqb:List UInt8:=List.replicate 64 9
def Hg:List UInt8:=List.replicate 64 48
def A.CP:av:=.seq (sr [c1 111 256 9,mv 112 7,bi 113 .lss 111 112]
 (cd 113
 (.skip)
 (.exit 3)))
 (.block 4 (sr [mv 114 7,c1 115 256 9,bi 116 .sub 114 115,c1 117 256 9,mv 118 8,ge 119 (.mn [tq 116,tq 117,tq 118]),mv 10 119]
 (.aR [c1 120 216 9,mv 121 10,ge 122 (.aD (tq 120) none (some (tq 121))),c2 123 215 9 122])))
def A.b214:av:=sr [ge 4 (.ba (.const (.str [])))]
 (.seq (sr [mv 11 1]
 (.block 0 (sr [ei 13 11 0,mv 12 13]
 (cd 12
 (sr [ge 4 (.ba (.const (.str [])))]
 (.ret))
 (sr [ei 15 11 1,mv 14 15]
 (cd 14
 (sr [mv 16 0,mv 4 16]
 (.ret))
 (.skip)))))))
 (.seq (sr [mv 17 1,bc 18 .lss 17 0]
 (cd 18
 (.aR [ge 19 (.e_ 9 (.const (.str [115,116,114,105,110,103,115,58,32,110,101,103,97,116,105,118,101,32,82,101,112,101,97,116,32,99,111,117,110,116]))),gn (.stop)])
 (.skip)))
 (sr [mv 21 0,ge 22 (.len 0 (tq 21)),ge 23 (.bj .u64 (tq 22)),mv 24 1,ge 25 (.bj .u64 (tq 24)),c2 26 254 23 25,mv 20 26,xt 27 20 0,xt 28 20 1,mv 5 27,mv 6 28]
 (.seq (sr [mv 29 5,ge 30 (.bin .gtr (.node []) false (tq 29) (.const (.int .u64 0))),mv 31 30,mh 32 6 31,gz 33 31 (.bin .gtr (.node []) false (tq 32) (.const (.int .u64 9223372036854775807))),pt 34 31 33]
 (cd 34
 (.aR [ge 35 (.e_ 9 (.const (.str [115,116,114,105,110,103,115,58,32,82,101,112,101,97,116,32,111,117,116,112,117,116,32,108,101,110,103,116,104,32,111,118,101,114,102,108,111,119]))),gn (.stop)])
 (.skip)))
 (sr [mv 36 6,ge 37 (.bj .i64 (tq 36)),mv 7 37]
 (.seq (sr [mv 38 0,ge 39 (.len 0 (tq 38)),ei 40 39 0]
 (cd 40
 (sr [ge 4 (.ba (.const (.str [])))]
 (.ret))
 (.skip)))
 (.seq (sr [mv 41 0,ge 42 (.aZ (tq 41) (kq 0))]
 (.block 1 (.seq (sr [ge 44 (.bin .eql (.aM .int) true (tq 42) (.const (.int .u8 32))),mv 43 44]
 (cd 43
 (.skip)
 (sr [ge 45 (.bin .eql (.aM .int) true (tq 42) (.const (.int .u8 45))),mv 43 45]
 (cd 43
 (.skip)
 (sr [ge 46 (.bin .eql (.aM .int) true (tq 42) (.const (.int .u8 48))),mv 43 46]
 (cd 43
 (.skip)
 (sr [ge 47 (.bin .eql (.aM .int) true (tq 42) (.const (.int .u8 61))),mv 43 47]
 (cd 43
 (.skip)
 (.aR [ge 48 (.bin .eql (.aM .int) true (tq 42) (.const (.int .u8 9))),mv 43 48])))))))))
 (cd 43
 (.block 2 (sr [mv 50 7,bc 51 .leq 50 128,mv 52 51,mg 53 0 52,gy 54 52 (.call (fq 206) [(.const (.str WV)),tq 53]),pf 55 52 54,mv 49 55]
 (cd 49
 (sr [mv 56 7,ge 57 (.aD (.const (.str WV)) none (some (tq 56))),mv 4 57]
 (.ret))
 (sr [mv 59 7,bc 60 .leq 59 128,mv 61 60,mg 62 0 61,gy 63 61 (.call (fq 206) [(.const (.str WW)),tq 62]),pf 64 61 63,mv 58 64]
 (cd 58
 (sr [mv 65 7,ge 66 (.aD (.const (.str WW)) none (some (tq 65))),mv 4 66]
 (.ret))
 (sr [mv 68 7,bc 69 .leq 68 64,mv 70 69,mg 71 0 70,gy 72 70 (.call (fq 206) [(.const (.str Hg)),tq 71]),pf 73 70 72,mv 67 73]
 (cd 67
 (sr [mv 74 7,ge 75 (.aD (.const (.str Hg)) none (some (tq 74))),mv 4 75]
 (.ret))
 (sr [mv 77 7,bc 78 .leq 77 128,mv 79 78,mg 80 0 79,gy 81 79 (.call (fq 206) [(.const (.str Yj5)),tq 80]),pf 82 79 81,mv 76 82]
 (cd 76
 (sr [mv 83 7,ge 84 (.aD (.const (.str Yj5)) none (some (tq 83))),mv 4 84]
 (.ret))
 (sr [mv 86 7,bc 87 .leq 86 64,mv 88 87,mg 89 0 88,gy 90 88 (.call (fq 206) [(.const (.str Yqb)),tq 89]),pf 91 88 90,mv 85 91]
 (cd 85
 (sr [mv 92 7,ge 93 (.aD (.const (.str Yqb)) none (some (tq 92))),mv 4 93]
 (.ret))
 (.skip))))))))))))
 (.skip)))))
 (sr [mv 94 7,mv 8 94]
 (.seq (sr [mv 95 7,bc 96 .gtr 95 8192]
 (cd 96
 (sr [mv 97 0,ge 98 (.len 0 (tq 97)),ge 99 (.bin .quo (.node []) false (kq 8192) (tq 98)),mv 100 0,ge 101 (.len 0 (tq 100)),bi 102 .mul 99 101,mv 8 102]
 (sr [mv 103 8,ei 104 103 0]
 (cd 104
 (.aR [mv 105 0,ge 106 (.len 0 (tq 105)),mv 8 106])
 (.skip))))
 (.skip)))
 (sr [ge 9 (.alloc [.bN,.aa] 222)]
 (sr [mv 107 7,c2 108 255 9 107]
 (sr [mv 109 0,c2 110 215 9 109]
 (.seq (.block 3 (.loop A.CP))
 (sr [c1 124 216 9,mv 4 124]
 (.ret)))))))))))))))
def A.c214:A.F 214=some ⟨125,[.tmp 4],A.b214⟩:=by kernel_rfl
def A.k214:=@A.kk 214 _ _ _ A.c214 rfl
def A.b254:av:=sr [ge 4 (.ba (.const (.int .u64 0))),ge 5 (.ba (.const (.int .u64 0)))]
 (.seq (.cond (.const (.bool false))
 (sr [mv 11 0,ge 12 (.bj .u32 (tq 11)),mv 13 1,ge 14 (.bj .u32 (tq 13)),c2 15 280 12 14,mv 10 15,xt 16 10 0,xt 17 10 1,mv 6 16,mv 7 17]
 (sr [mv 18 6,ge 19 (.bj .u64 (tq 18)),mv 20 7,ge 21 (.bj .u64 (tq 20)),mv 4 19,mv 5 21]
 (.ret)))
 (.skip))
 (sr [mv 23 0,mv 24 1,c2 25 202 23 24,mv 22 25,xt 26 22 0,xt 27 22 1,mv 8 26,mv 9 27]
 (sr [mv 28 8,mv 29 9,mv 4 28,mv 5 29]
 (.ret))))
def A.c254:A.F 254=some ⟨30,[.tmp 4,.tmp 5],A.b254⟩:=by kernel_rfl
def A.k254:=@A.kk 254 _ _ _ A.c254 rfl
def Yo5{h:T O}{N:Nat}{x y:Nat}(hx:x<18446744073709551616)(hy:y<18446744073709551616):Fn A.C 254 [.int .u64 x,.int .u64 y] h N (fun v' h' N'=>h'=h/\N'=N/\v'=.bg [.int .u64 (cn (x*y):Nat),.int .u64 (bG (x*y):Nat)]):=by
 intro w
 rw[aO,A.k254 (by simp)]
 simp[A.b254]
 refine aA (LD hx hy) ?_
 rintro _ _ _ k1 ⟨rfl,rfl,rfl⟩
 simp[az]
 exact k1
def WX{a c:UInt8}{s:aQ}{st:St}:A.C.call (.func 206 [] []) [.str (a::s),.str [c]] st=some (.bool (decide (a=c)),st):=by
 have e:(([a]:aQ)==[c])=decide (a=c):=by
  rw[Bool.eq_iff_iff]
  simp
 have h1:(1:Int)<=(s.length:Int)+1:=by omega
 apply Call.eq
 rw[aO,A.k206 (by simp)]
 have jc:∀st,A.C.call (.func 243 [] []) [.str (a::s),.str [c]] st=some (.bool (decide (a=c)),st):=fun st=>by
  apply Call.eq
  rw[aO,A.k243 (by simp)]
  simp[A.b243,aC,dB,ki,yt,e,h1]
 simp[A.b206,jc]
def Yvn{st:St}:A.C.call (.func 206 [] []) [.str WV,.str [48]] st=some (.bool false,st):=WX (a:=32) (s:=List.replicate 127 32)
def Yvm{st:St}:A.C.call (.func 206 [] []) [.str WW,.str [48]] st=some (.bool false,st):=WX (a:=45) (s:=List.replicate 127 45)
def Yvl{st:St}:A.C.call (.func 206 [] []) [.str Hg,.str [48]] st=some (.bool true,st):=WX (a:=48) (s:=List.replicate 63 48)
def Zym{k:Nat}(h:k<=64):List.take k Hg=List.replicate k 48:=by
 unfold Hg
 rw[List.take_replicate,py h]
def Yb4:Hg.length=64:=by simp[Hg]
def Zr9{k:Nat}(hk:k<=18){h:T O}{N:Nat}:Fn A.C 214 [.str [48],.int .i64 k] h N (fun v h' N'=>v=.str (List.replicate k 48)):=by
 intro w
 rw[aO,A.k214 (by simp)]
 by_cases c0:k=0
 ·subst c0
  simp[A.b214,az]
  exact ab.refl
 ·by_cases c1:k=1
  ·subst c1
   simp[A.b214,az]
   exact ab.refl
  ·have c3:¬(k:Int)=1:=by omega
   have e0:bu .u64 (1:Int)=((1:Nat):Int):=Ej (by omega) (by omega)
   have e1:bu .u64 (k:Int)=(k:Int):=Ej (by omega) (by omega)
   have c4:¬(k:Int)<0:=by omega
   simp[A.b214,c0,c3,c4,e0,e1]
   refine aA (Yo5 (x:=1) (y:=k) (by omega) (by omega)) ?_
   rintro _ _ _ _ ⟨rfl,rfl,rfl⟩
   have g1:cn (1*k)=0:=by unfold cn;omega
   have g2:bG (1*k)=k:=by unfold bG;omega
   have g3:¬(9223372036854775807:Int)<(k:Int):=by omega
   have g4:bu .i64 (k:Int)=(k:Int):=cF (by omega) (by omega)
   have g7:cK 48=48:=rfl
   have g5:(k:Int)<=128:=by omega
   have g6:(k:Int)<=64:=by omega
   rw[g1,g2]
   simp(disch:=omega) [g3,g4,g5,g6,g7,Yvn,Yvm,Yvl,yt,aC,dB,ki,Yb4,Zym,az]
   exact ab.refl
variable {N b:Nat} {h:T O} {s:aQ} {w:List Nat}
set_option maxHeartbeats 1000000
def A.b257:av:=sr [mv 2 0,ge 3 (.fR (tq 2)),fa 4 0 3,ld 5 4,ge 6 (.bin .eql (.aM .ptr) true (tq 5) (.const .bN))]
 (cd 6
 (.aR [mv 7 0,mv 8 0,ge 9 (.Ie none (tq 8)),ge 10 (.ext .same [tq 9]),ge 11 (.Ie (some (222,2)) (tq 10)),ge 12 (.fR (tq 7)),fa 13 0 12,so 13 11])
 (sr [mv 14 0,ge 15 (.fR (tq 14)),fa 16 0 15,ld 17 16,mv 18 0,ge 19 (.bin .neq (.aM .ptr) false (tq 17) (tq 18))]
 (cd 19
 (.stop)
 (.skip))))
def A.c257:A.F 257=some ⟨20,[],A.b257⟩:=by kernel_rfl
def A.k257:=@A.kk 257 _ _ _ A.c257 rfl
def A.b215:av:=sr [mc 4 0,ge 5 (.ba (.const .aY))]
 (sr [mv 6 0,c1 7 257 6]
 (sr [mv 8 0,mv 9 0,ge 10 (.fR (tq 9)),fa 11 1 10,ld 12 11,mv 13 1,ge 14 (.append 1 1 5 [.int .u8 0] (tq 12) (tq 13)),ge 15 (.fR (tq 8)),fa 16 1 15,so 16 14]
 (sr [mv 17 1,ge 18 (.len 0 (tq 17)),mv 4 18,ge 5 (.ba (.const .aY))]
 (.ret))))
def A.c215:A.F 215=some ⟨19,[.tmp 4,.tmp 5],A.b215⟩:=by kernel_rfl
def A.k215:=@A.kk 215 _ _ _ A.c215 rfl
def A.b216:av:=sr [ge 2 (.ba (.const (.str [])))]
 (.seq (.aX [mv 3 0,ge 4 (.fR (tq 3)),fa 5 1 4,ld 6 5,ge 7 (.wF (tq 6)),mv 8 0,ge 9 (.fR (tq 8)),fa 10 1 9,ld 11 10,ln 12 11,ge 13 (.BI 5 (tq 7) (tq 12)),mv 2 13] [0,1,3,7,15,0,32,96,224,480,1023,2047])
 (.ret))
def A.c216:A.F 216=some ⟨14,[.tmp 2],A.b216⟩:=by kernel_rfl
def A.k216:=@A.kk 216 _ _ _ A.c216 rfl
def Bd(h:T O)(N b:Nat)(s:aQ):Prop:=b<N/\∃p v,h.get b=some (.cells [p,v] 222 true)/\(p=.bN\/p=.ptr b 0)/\((v=.aa/\s=[])\/∃j,v=.slice j 0 s.length none 1/\b<j/\j<N/\s≠[]/\h.get j=some (.cells (s.map vB) 5 true))
def Yo0{n2:Nat}(ff:n2<=b)(hb:Bd h N b s):Call A.C (.func 257 [] []) [.ptr b 0] ⟨h,N,w⟩ (fun _ st=>st.n=N/\ax n2 st.w=ax n2 w/\(∀i,i<b->st.h.get i=h.get i)/\Bd st.h N b s):=by
 obtain⟨hN,p,v,hr,hp,hv⟩:=hb
 have pe:¬b<n2:=by omega
 rw[aO,A.k257 (by simp)]
 rcases hp with rfl|rfl
 ·simp[A.b257,hr,aI,B0,hN,pe]
  refine⟨fun i hi hc=>by omega,hN,.ptr b 0,v,?_,.inr rfl,?_⟩
  ·rw[T.ag,aF rfl];rfl
  ·rcases hv with hv|⟨j,h1,h2,h3,h4,h5⟩
   ·exact .inl hv
   ·exact .inr ⟨j,h1,h2,h3,h4,by rw[T.ag,ar (by omega)];exact h5⟩
 ·simp[A.b257,hr,aI]
  exact⟨hN,.ptr b 0,v,hr,.inr rfl,hv⟩
def Ya0{n0:Nat}{t:aQ}(oK:n0<=b)(hb:Bd h N b s)(ht:t≠[])(hl:s.length+t.length<1000000000000):Call A.C (.func 215 [] []) [.ptr b 0,.str t] ⟨h,N,w⟩ (fun _ st=>st.n=N+1/\ax n0 st.w=ax n0 w/\(∀i,i<b->st.h.get i=h.get i)/\Bd st.h (N+1) b (s++t)):=by
 rw[aO,A.k215 (by simp)]
 simp[A.b215]
 refine zy (Yo0 oK hb) ?_
 rintro _ ⟨H2,n2,W2⟩ ⟨hn,hW,hO,pe⟩
 simp only at hn hW hO pe
 subst hn
 obtain⟨hN,p,v,hr,hp,hv⟩:=pe
 have oG:¬t.length=0:=by simpa using ht
 have hc:(t.map vB).length=t.length:=by simp
 have yf:ax n0 W2=[]:=hW
 have m1:2*t.length<=281474976710656:=by omega
 have m2:¬281474976710656<2*(s.length+t.length):=by omega
 have m3:¬s.length+t.length<=s.length:=by omega
 have bB:¬b=n2:=by omega
 have kW:¬b<n0:=by omega
 rcases hv with⟨rfl,rfl⟩|⟨j,rfl,h2,h3,h4,h5⟩
 ·simp[-ax,hr,BY,gj,eD,tJ,oG,St.alloc,m1,bB,bO,ad]
  refine⟨LP (LQ (by simp[ax,yf,kW])),fun i hi=>?_,by omega,p,.slice n2 0 t.length none 1,by rw[T.ag,aF rfl],hp,.inr ⟨n2,rfl,hN,by omega,ht,by rw[T.ag,ar (by omega),T.ag,aF rfl];rfl⟩⟩
  rw[ar (by omega),ar (by omega)];exact hO i hi
 ·have nY:¬b=j:=by omega
  have Gi:¬j<n0:=by omega
  simp[-ax,hr,BY,gj,eD,tJ,oG,St.alloc,St.row,h5,m2,m3,bB,nY,bO,ad]
  refine⟨LP (LQ (by simp[ax,yf,kW,Gi])),fun i hi=>?_,by omega,p,.slice n2 0 (s.length+t.length) none 1,by rw[T.ag,aF rfl],hp,.inr ⟨n2,by simp,hN,by omega,by simp[h4],by rw[T.ag,ar (by omega),T.ag,aF rfl,List.map_append];rfl⟩⟩
  rw[ar (by omega),ar (by omega),ar (by omega)];exact hO i hi
def Ylz{α:Type}(c:List α):aE c 0 c.length=some c:=by unfold aE;simp
def Zto:∀(s:aQ),Gb (s.map vB)=some s
 |[]=>rfl
 |c::s=>by
  rw[my]
  have h1:OB (vB c)=some c:=by
   unfold OB vB cK
   have:=c.toNat_lt
   simp
   omega
  simp only[Gb,h1,Zto s]
def Yo4{n0:Nat}(oK:n0<=b)(hb:Bd h N b s)(hs:s≠[])(hl:s.length<1000000000000):Call A.C (.func 216 [] []) [.ptr b 0] ⟨h,N,w⟩ (fun v st=>v=.str s/\st.n=N/\ax n0 st.w=ax n0 w/\(∀i,i<b->st.h.get i=h.get i)):=by
 obtain⟨hN,p,v,hr,hp,hv⟩:=hb
 rw[aO,A.k216 (by simp)]
 rcases hv with⟨_,rfl⟩|⟨j,rfl,h2,h3,h4,h5⟩
 ·exact absurd rfl hs
 ·have h0:0<s.length:=List.length_pos_iff.2 hs
  have jc:(0:Int)<(s.length:Int):=by omega
  have hm:(s.length:Int)<=9223372036854775807:=by omega
  have cE:aE (s.map vB) 0 s.length=some (s.map vB):=by
   have:=Ylz (s.map vB)
   rw[jP]at this
   exact this
  have hbm:=Zto s
  have Gi:¬j<n0:=by omega
  simp[A.b216,hr,IA,IB,h0,hm,h5,h3,hN,cE,hbm,Gi]
  exact fun i hi hc=>by omega
variable {b nB:Nat} {gs:List aQ} {r:T V} {sT:St} {v:V}
set_option maxHeartbeats 4000000
def A.mW:av:=.seq (sr [mv 59 11,bc 60 .geq 59 0]
 (cd 60
 (.skip)
 (.exit 2)))
 (.seq (.block 3 (.aR [mv 63 6,mv 64 11,ia 65 1 63 64,ld 66 65,c2 67 215 10 66]))
 (.aR [mv 61 11,bc 62 .sub 61 1,mv 11 62]))
def A.mX:av:=.seq (sr [mv 24 4,ln 25 24,bc 26 .gtr 25 0]
 (cd 26
 (.skip)
 (.exit 0)))
 (.block 1 (sr [mv 28 4,mv 29 5,c2 30 212 28 29,mv 27 30,xt 31 27 0,xt 32 27 1,mv 7 31,mv 8 32]
 (sr [ge 9 (.ba (.const (.str [48])))]
 (.seq (sr [mv 33 8,ln 34 33,bc 35 .gtr 34 0]
 (cd 35
 (.aR [mv 36 8,ge 37 (.aU 1 (tq 36) (kq 0)),ld 38 37,ge 39 (.call (fq 213) [tq 38,.const (.int .i64 10)]),mv 9 39])
 (.skip)))
 (.seq (sr [mv 40 7,ln 41 40,bc 42 .gtr 41 0]
 (cd 42
 (.aR [mv 43 9,ge 44 (.len 0 (tq 43)),ge 45 (.bin .sub (.node []) false (kq 18) (tq 44)),ge 46 (.call (fq 214) [(.const (.str [48])),tq 45]),mv 47 9,bi 48 .add 46 47,mv 9 48])
 (.skip)))
 (sr [mv 49 6,mv 50 9,ge 51 (.aV 9 1 1 [(.str [])] [(0,1,(tq 50))]),ge 52 (.append 1 16 9 [(.str [])] (tq 49) (tq 51)),mv 6 52]
 (.aR [mv 53 7,mv 4 53])))))))
def A.qQ:av:=.seq (sr [mv 56 6,ln 57 56,bc 58 .sub 57 1,mv 11 58]
 (.block 2 (.loop A.mW)))
 (sr [c1 68 216 10,mv 2 68]
 (.ret))
def A.b152:av:=sr [bx 1 101 0,ge 2 (.ba (.const (.str [])))]
 (.seq (sr [fa 12 1 1,ld 13 12,ge 14 (.bin .eql (.aM .slice) true (tq 13) (.const .aa))]
 (cd 14
 (sr [fa 15 0 1,ld 16 15,c1 17 211 16,mv 2 17]
 (.ret))
 (.skip)))
 (sr [lN 19 2 1,c1 20 196 19,mv 18 20,xt 21 18 0,xt 22 18 1,mv 3 21,mv 4 22]
 (sr [ge 23 (.aV 203 1 1 [.int .u64 0] [(0,1,(.const (.int .u64 1000000000000000000)))]),mv 5 23]
 (sr [mN 6]
 (.seq (.block 0 (.loop A.mX))
 (sr [ge 10 (.alloc [.bN,.aa] 222)]
 (.seq (sr [mv 54 3]
 (cd 54
 (.aR [ge 55 (.call (fq 215) [tq 10,(.const (.str [45]))])])
 (.skip)))
 A.qQ)))))))
def A.c152:A.F 152=some ⟨69,[.tmp 2],A.b152⟩:=by kernel_rfl
def A.k152:=@A.kk 152 _ _ _ A.c152 rfl
def qT(n:Nat):List aQ:=if h:n=0 then [] else (if n/1000000000000000000=0 then aq n else ic (n%1000000000000000000) 18)::qT (n/1000000000000000000)
termination_by n
decreasing_by omega
def Qc:qT 0=[]:=by unfold qT;simp
def Qd{n:Nat}(h:n≠0):qT n=(if n/1000000000000000000=0 then aq n else ic (n%1000000000000000000) 18)::qT (n/1000000000000000000):=by
 conv=>lhs;unfold qT
 rw[dif_neg h]
def Yn4:∀{n:Nat},n≠0->(qT n).reverse.flatten=aq n:=by
 intro n
 induction n using Nat.strongRecOn with
 |_ n ih=>
  intro h
  rw[Qd h]
  by_cases h0:n/1000000000000000000=0
  ·rw[aF h0,h0,Qc];simp
  ·rw[ar h0,List.reverse_cons,List.flatten_append,ih _ (by omega) h0,Hf h,Hf h0]
   have e:=Zp6 (k:=18) (a:=n/1000000000000000000) (b:=n%1000000000000000000) h0 (kh _ (by decide))
   rw[show n/1000000000000000000*10^18+n%1000000000000000000=n by have:=tP n 1000000000000000000;omega]at e
   rw[e];simp
def Ztj{a:Nat}(h:a<=b):(di a).length<=(di b).length:=pd.1 (rW h (pd.2 (aW _)))
def Yd8:∀{n:Nat},(qT n).length<=(di n).length:=by
 intro n
 induction n using Nat.strongRecOn with
 |_ n ih=>
  by_cases h:n=0
  ·subst h;rw[Qc];simp
  ·rw[Qd h,bD,xc h,iN]
   have h1:=ih (n/1000000000000000000) (by omega)
   have h2:=Ztj (a:=n/1000000000000000000) (b:=n/10) (by omega)
   simp;omega
def Ykq:∀{n:Nat} {s:aQ},s∈qT n->s≠[]:=by
 intro n
 induction n using Nat.strongRecOn with
 |_ n ih=>
  intro s hs
  by_cases h:n=0
  ·subst h;rw[Qc]at hs;cases hs
  ·rw[Qd h]at hs
   rcases kv.1 hs with hs|hs
   ·subst hs
    split
    ·exact IY n
    ·intro hc
     have:=Yi6 (b:=n%1000000000000000000) (k:=18) (kh _ (by decide))
     rw[hc]at this;simp at this
   ·exact ih _ (by omega) hs
def vD(l:List aQ):List (List V):=l.map fun s=>[.str s]
def Ypv{q:V}{Q n n':Nat}{h h':T O}{e:TypeId}(hq:Wn h n q Q)(hQ:Q≠0)(hv:Own 1 e nB h n v (vD gs))(hh:∀j,j<n->h'.get j=h.get j\/(∃o m c y,v=.slice j o m c y))(hn:n<=n'):Wn h' n' q Q:=by
 obtain⟨d,hd⟩:∃d,(aJ Q)[0]?=some d:=by rw[mG hQ];exact⟨_,rfl⟩
 rcases hq with⟨hz,_⟩|⟨i,o,cp,c,ee,rw,rfl,q1,q2,q3,q4⟩
 ·rw[mG hQ]at hz;simp[dg]at hz
 ·refine .inr ⟨i,o,cp,c,ee,rw,rfl,fE q1 hn,?_,q3,q4⟩
  rcases hh i q1 with h1|⟨o',m,c',y,rfl⟩
  ·rw[h1];exact q2
  ·exfalso
   rcases hv with⟨_,⟨_,h1⟩|⟨i',h1,_,_,h2⟩⟩
   ·cases h1
   ·simp only[V.slice.injEq]at h1
    obtain⟨rfl,_⟩:=h1
    rw[q2]at h2
    simp only[al,O.cells.injEq]at h2
    have h3:=q3 0 (by rw[bI,mG hQ];simp)
    rw[fv hd,h2.1]at h3
    have:=cm h3
    obtain⟨l,hl,hx⟩:=List.mem_flatten.1 this
    obtain⟨s,_,rfl⟩:=eM.1 hl
    simp at hx
structure Mt (hB:T O) (nB M:Nat) (m:Nat) (r:T V) (st:St):Prop where
 w:ax nB st.w=[]
 ae:ab hB nB st.h st.n
 ex:∃u v gs,r.get 4=some u/\r.get 6=some v/\oD u=some (aJ m).length/\(m≠0->Wn st.h st.n u m)/\Own 1 9 nB st.h st.n v (vD gs)/\gs++qT m=qT M
def Ygn{hB:T O}{M m:Nat}{r0:T V}{t:V}(hP:kJ hB nB)(hM:(di M).length<100000000000)(hm:m<=M)(ht:Wn hB nB t 1000000000000000000)(a5:r.get 5=some t)(hf:Fx [(4,4),(6,9),(24,53)] r0 69 ⟨r,69,[]⟩)(s:Mt hB nB M m r sT):
  Code A.C none A.mX ⟨r,69,[]⟩ sT (Rd [(4,4),(6,9),(24,53)] r0 69 (fun k r st=>k<=M/\Mt hB nB M k r st) m (fun e r st=>e=.exit 0/\Mt hB nB M 0 r st)):=by
 obtain⟨H,n1,W⟩:=sT
 obtain⟨hW,hK,u,v,gs,a4,a6,lu,hu,ho,hg⟩:=s
 simp only at hW hK hu ho
 rw[bq]
 by_cases h0:m=0
 ·subst h0
  rw[qG]at lu
  simp[A.mX,hf,a4,lu]
  exact⟨hW,hK,u,v,gs,by simp[a4],by simp[a6],by rw[qG];exact lu,hu,ho,hg⟩
 ·replace hu:=hu h0
  have lp:0<(aJ m).length:=by rw[mG h0];simp
  have lp':(0:Int)<((aJ m).length:Int):=by omega
  have DZ:(aJ m).length<1000000000000:=by
   have h1:=EB (n:=m) (k:=(di M).length) (pd.2 (Ztj hm))
   unfold wl at h1
   simp at h1
   omega
  have CQ:(aJ 1000000000000000000).length<1000000000000:=by rw[GR (by decide) (by decide)];decide
  have xl:gs.length+(qT m).length<=(di M).length:=by
   rw[<-iN,hg];exact Yd8
  have lD:=Qd h0
  rw[lD,bD]at xl
  simp[A.mX,a4,a5,lu,lp]
  refine aA (Ztf hu (ht.ae hK) (by decide) DZ CQ) ?_
  rintro _ h2 n2 k2 ⟨q,Ev,rfl,hq,KT⟩
  have lq:=hq.len
  have lr:=KT.len
  rw[bI]at lq lr
  have wx:m%1000000000000000000<18446744073709551616:=by omega
  obtain⟨R,hR⟩:∃R,m%1000000000000000000=R:=⟨_,rfl⟩
  obtain⟨Q,hQ⟩:∃Q,m/1000000000000000000=Q:=⟨_,rfl⟩
  rw[hR]at lr KT lD
  rw[hQ]at lq hq lD xl
  have kk:=hK.trans k2
  have yz:=hP.ae kk
  have app:∀(h3:T O) (n3:Nat) (W3:List Nat) (g:aQ),ab h2 n2 h3 n3->ax nB W3=[]->g=(if Q=0 then aq m else ic R 18)->
    ∃v' h' w',gj ⟨h3.set n3 (.cells [.str g] 9 true),n3+1,W3⟩ 1 16 9 v (.slice n3 0 1 (some 1) 1)=some (v',⟨h',n3+1+1,w'⟩)/\ax nB w'=[]/\ab hB nB h' (n3+1+1)/\(Q≠0->Wn h' (n3+1+1) q Q)/\Own 1 9 nB h' (n3+1+1) v' (vD (gs++[g]))/\(gs++[g])++qT Q=qT M:=by
   intro h3 n3 W3 g k3 Bg oH
   have kk3:=kk.trans k3
   have fi:=kk3.le
   have tS:=(ho.ae (k2.trans k3)).ae (aP ab.refl (.cells [.str g] 9 true))
   obtain⟨v',h',w',e1,e2,e3,e4,e5⟩:=sE (x:=[.str g]) (u:=.slice n3 0 1 (some 1) 1) (bytes:=16) (w:=W3) tS (by omega) (by decide) rfl (by simp[eD,St.row,aE]) (by simp[vD];omega)
   refine⟨v',h',w',e1,by rw[e2];exact Bg,(kk3.trans (aP ab.refl _)).then e3,fun CR=>?_,by simpa[vD]using e5,by rw[oH,<-hg,lD,tL];rfl⟩
   have Mc:=(hq.ae k3).ae (aP ab.refl (.cells [.str g] 9 true))
   refine Ypv Mc CR tS (fun j hj=>?_) (uz _)
   rcases e4 j with h1|h1|h1
   ·exact .inl h1
   ·omega
   ·exact .inr h1
  have f18:((18:Int)-1)=((17:Nat):Int):=rfl
  by_cases y_:R=0
  ·have CR:Q≠0:=by omega
   have Jk:0<(aJ Q).length:=by rw[mG CR];simp
   have xW:(0:Int)<((aJ Q).length:Int):=by omega
   have oH:[48,48,48,48,48,48,48,48,48,48,48,48,48,48,48,48,48,48]=(if Q=0 then aq m else ic R 18):=by rw[ar CR,y_];unfold ic;rw[tf];rfl
   rw[y_,qG]at lr
   simp[lq,lr,Jk]
   refine aA (Zr9 (k:=17) (by decide)) ?_
   rintro _ h3 n3 k3 rfl
   obtain⟨v',h',w',e1,e2,e3,e4,e5,e6⟩:=app h3 n3 W _ k3 hW oH
   simp[hf,a6,gO,ad,e1]
   exact⟨Q,by omega,by omega,⟨e2,e3,q,v',_,by simp,by simp,lq,e4,e5,e6⟩⟩
  ·have hRw:aJ R=[R]:=GR (by unfold B;omega) y_
   obtain⟨i,o,c,e,wr,p1,p2,p3,p4⟩:=KT.at (fv (l:=aJ R) (j:=0) (n:=R) (by rw[hRw];rfl))
   rw[hRw]at lr
   have lr:oD Ev=some 1:=lr
   have WY:=Hf y_
   rw[ka]at p4
   by_cases CR:Q=0
   ·have oH:aq R=(if Q=0 then aq m else ic R 18):=by rw[aF CR];congr 1;omega
    have lqz:(aJ Q).length=0:=by rw[CR,qG];rfl
    rw[lqz]at lq
    simp[lr,p1,p3,p4]
    refine aA (Yks (x:=R) (by omega) yz) ?_
    rintro _ h3 n3 k3 rfl
    obtain⟨v',h',w',e1,e2,e3,e4,e5,e6⟩:=app h3 n3 W _ k3 hW oH
    simp[hf,a6,lq,ad,e1]
    exact⟨Q,by omega,by omega,⟨e2,e3,q,v',_,by simp,by simp,by rw[lqz];exact lq,e4,e5,e6⟩⟩
   ·have Jk:0<(aJ Q).length:=by rw[mG CR];simp
    have xW:(0:Int)<((aJ Q).length:Int):=by omega
    have zaG:(di R).length<=18:=pd.1 (by omega)
    have oH:List.replicate (18-(aq R).length) 48++aq R=(if Q=0 then aq m else ic R 18):=by rw[ar CR,WY];rfl
    have hs:(18:Int)-((aq R).length:Int)=((18-(aq R).length:Nat):Int):=by rw[WY];omega
    have Jl:¬(9223372036854775807:Int)<(((List.replicate (18-(aq R).length) (48:UInt8)).length+(aq R).length:Nat):Int):=by rw[List.length_replicate,WY];omega
    simp[lr,p1,p3,p4]
    refine aA (Yks (x:=R) (by omega) yz) ?_
    rintro _ h3 n3 k3 rfl
    generalize aq R=S at*
    simp(disch:=omega) [lq,Jk,hs]
    refine aA (Zr9 (k:=18-S.length) (by omega)) ?_
    rintro _ h4 n4 k4 rfl
    obtain⟨v',h',w',e1,e2,e3,e4,e5,e6⟩:=app h4 n4 W _ (k3.trans k4) hW oH
    generalize List.replicate (18-S.length) (48:UInt8)=Z at*
    have dh:IntKind.max .i64=9223372036854775807:=rfl
    have WZ:¬(9223372036854775807:Int)<(Z.length:Int)+(S.length:Int):=by omega
    simp[hf,a6,gO,dh,WZ,ad,e1]
    exact⟨Q,by omega,by omega,⟨e2,e3,q,v',_,by simp,by simp,lq,e4,e5,e6⟩⟩
structure Mv (hb:T O) (n0 b:Nat) (gs:List aQ) (pre:aQ) (k:Nat) (r:T V) (st:St):Prop where
 hk:k<=gs.length
 vA:r.get 11=some (.int .i64 ((k:Int)-1))
 w:ax n0 st.w=[]
 Mq:∀i,i<b->st.h.get i=hb.get i
 bd:Bd st.h st.n b (pre++(gs.drop k).reverse.flatten)
def Yi1(gs:List aQ)(k:Nat):gs.reverse.flatten=(gs.drop k).reverse.flatten++(gs.take k).reverse.flatten:=by
 conv=>lhs;rw[<-BL k gs]
 rw[List.reverse_append,List.flatten_append]
def Ygk{j:Nat}{s:aQ}(h:gs[j]?=some s):(vD gs).flatten[j]?=some (.str s):=by
 have:∀gs:List aQ,(vD gs).flatten=gs.map V.str:=by
  intro gs
  induction gs with
  |nil=>rfl
  |cons a gs ih=>show V.str a::(vD gs).flatten=_;rw[ih];rfl
 rw[this,gG,h];rfl
def Ygm{hb:T O}{nB n0 b k:Nat}{gs:List aQ}{pre:aQ}{v:V}{r r0:T V}{sT:St}(oK:n0<=b)(hl:pre.length+gs.reverse.flatten.length<1000000000000)(xl:gs.length<1000000000000)(bB:∀s∈gs,s≠[])(ho:Own 1 9 nB hb b v (vD gs))(a6:r.get 6=some v)(Jb:r.get 10=some (.ptr b 0))(hf:Fx [(11,11),(59,67)] r0 69 ⟨r,69,[]⟩)(s:Mv hb n0 b gs pre k r sT):
  Code A.C none A.mW ⟨r,69,[]⟩ sT (Rd [(11,11),(59,67)] r0 69 (Mv hb n0 b gs pre) k (fun e r st=>e=.exit 2/\Mv hb n0 b gs pre 0 r st)):=by
 obtain⟨H,n1,W⟩:=sT
 obtain⟨hk,CF,hW,hO,EC⟩:=s
 simp only at hW hO EC
 rw[bq]
 cases k with
 |zero=>
  have c1:¬(0:Int)<=((0:Nat):Int)-1:=by omega
  have Mw:r.get 11=some (.int .i64 (-1)):=CF
  simp[A.mW,hf,Mw]
  exact⟨hk,by simp[Mw],hW,hO,EC⟩
 |succ j=>
  have e1:((j+1:Nat):Int)-1=(j:Int):=by omega
  rw[e1]at CF
  obtain⟨g,hg⟩:∃g,gs[j]?=some g:=⟨_,cZ (by omega)⟩
  have CM:=Ygk hg
  have lv:=ho.len
  have lg:(vD gs).length=gs.length:=by simp[vD]
  rw[lg]at lv
  have Gy:(j:Int)<(gs.length:Int):=by omega
  rcases ho with⟨_,⟨h1,_⟩|⟨i,rfl,h2,h3,h4⟩⟩
  ·exfalso
   have:gs=[]:=by simpa[vD]using h1
   subst this;simp at hk
  ·have ak:=(hO i h3).trans h4
   have Hh:(gs.drop j).reverse.flatten=(gs.drop (j+1)).reverse.flatten++g:=by
    have:gs.drop j=g::gs.drop (j+1):=by
     rw[FJ (by omega)]
     congr 1
     rw[cZ (by omega)]at hg
     simpa using hg
    rw[this,List.reverse_cons,List.flatten_append];simp
   have W7:=congrArg List.length (Yi1 gs j)
   rw[Hh,iN,iN]at W7
   simp[A.mW,a6,Jb,CF,ak,CM,Gy,lg]
   refine zy (Ya0 oK EC (bB g (cm hg)) (by rw[iN];omega)) ?_
   rintro _ ⟨H2,n2,W2⟩ ⟨hn,dX,wW,pe⟩
   simp only at hn dX wW pe
   subst hn
   simp(disch:=first|(simp;done)|omega|(simp only[bI,cC,bD];omega)|rfl) [hf,CF]
   refine⟨j,by omega,by omega,by simp,by rw[dX,hW],fun i hi=>(wW i hi).trans (hO i hi),?_⟩
   rw[Hh,<-tL];exact pe
def Ybj{hb:T O}{n0:Nat}{pre:aQ}(oK:n0<=b)(hl:pre.length+gs.reverse.flatten.length<1000000000000)(xl:gs.length<1000000000000)(bB:∀s∈gs,s≠[])(Qe:pre++gs.reverse.flatten≠[])(ho:Own 1 9 nB hb b v (vD gs))(a6:r.get 6=some v)(Jb:r.get 10=some (.ptr b 0))
  (hW:ax n0 sT.w=[]) (hO:∀i,i<b->sT.h.get i=hb.get i) (EC:Bd sT.h sT.n b pre):
  Code A.C none A.qQ ⟨r,69,[]⟩ sT (fun e fr st=>e=.ret/\∃r',fr=⟨r',69,[]⟩/\r'.get 2=some (.str (pre++gs.reverse.flatten))/\ax n0 st.w=[]/\(∀i,i<b->st.h.get i=hb.get i)/\b<=st.n):=by
 obtain⟨H,n1,W⟩:=sT
 simp only at hW hO EC
 rw[bq]
 have lv:=ho.len
 rw[show (vD gs).length=gs.length by simp[vD]]at lv
 simp(disch:=omega) [A.qQ,a6,lv]
 refine bP [(11,11),(59,67)] (fun e r st=>e=.exit 2/\Mv hb n0 b gs pre 0 r st) (Mv hb n0 b gs pre) gs.length ?_ ?_ ?_
 ·exact⟨aW _,by simp,hW,hO,by simpa using EC⟩
 ·intro k r' aB hr hf J
  exact Ygm oK hl xl bB ho (by rw[hr 6 (by decide)];simp[a6]) (by rw[hr 10 (by decide)];simp[Jb]) hf J
 ·rintro e r' ⟨H2,n2,W2⟩ hr ⟨rfl,hk,_,dX,wW,pe⟩
  simp only at dX wW pe
  rw[yk]at pe
  have hb3:=pe.1
  have W8:r'.get 10=some (.ptr b 0):=by rw[hr 10 (by decide)];simp[Jb]
  simp[W8]
  refine zy (Yo4 oK pe Qe (by rw[iN];omega)) ?_
  rintro _ ⟨H3,n3,W3⟩ ⟨rfl,hn,Bg,Ew⟩
  simp only at hn Bg Ew
  subst hn
  simp[]
  exact⟨by rw[Bg,dX],fun i hi=>(Ew i hi).trans (wW i hi),by omega⟩
def Qf{x:V}{z:Int}{h:T O}{N:Nat}(hx:In h N x z)(hP:kJ h N)(hl:(di z.natAbs).length<100000000000):Fn A.C 152 [x] h N (fun v h' N'=>v=.str (aN z)):=by
 intro w
 rw[aO,A.k152 (by simp)]
 rcases id hx with⟨rfl,h1,h2⟩|⟨i0,o0,l0,c0,rfl,hw0,rQ⟩
 ·simp[A.b152,aS,aI]
  refine aA (Ynw h1 h2 (hP.ae (aP ab.refl _))) ?_
  rintro _ h3 n3 k3 rfl
  simp[az]
  exact(aP ab.refl _).trans k3
 ·simp[A.b152,aS,aE,aI]
  refine aA (CJ (hx.ae (aP ab.refl (.cells [.int .i64 (xV z),.slice i0 o0 l0 c0 1] 101 true)))) ?_
  rintro _ h1 n1 k1 ⟨u,rfl,hu⟩
  obtain⟨M,hM⟩:∃M,z.natAbs=M:=⟨_,rfl⟩
  rw[hM]at hu hl
  have hM0:M≠0:=by omega
  have lu:=hu.len
  rw[bI]at lu
  have kN:=(aP (ab.refl (h:=h) (n:=N)) (.cells [.int .i64 (xV z),.slice i0 o0 l0 c0 1] 101 true)).trans k1
  have kT:=aP (ab.refl (h:=h1) (n:=n1)) (.cells [.int .u64 1000000000000000000] 203 true)
  have hT:Wn (h1.set n1 (.cells [.int .u64 1000000000000000000] 203 true)) (n1+1) (.slice n1 0 1 (some 1) 1) 1000000000000000000:=by
   unfold Wn
   rw[GR (by decide) (by decide)]
   exact Sl.row (e:=203) (rw:=true) (L:=1) (by omega) (by simp[dg]) (by simp) (by simp)
  simp[ad]
  generalize jH:h1.set n1 (.cells [.int .u64 1000000000000000000] 203 true)=hB at*
  have hPB:=(hP.ae kN).ae kT
  refine bP [(4,4),(6,9),(24,53)] (fun e r st=>e=.exit 0/\Mt hB (n1+1) M 0 r st) (fun k r st=>k<=M/\Mt hB (n1+1) M k r st) M ?_ ?_ ?_
  ·exact⟨aW _,by simp[ax],ab.refl,u,.aa,[],by simp,by simp,lu,fun _=>hu.ae kT,Own.nil,rfl⟩
  ·rintro m r st hr hf ⟨hm,J⟩
   exact Ygn hPB hl hm hT (by rw[hr 5 (by decide)];simp) hf J
  ·rintro e r ⟨H,n2,W⟩ hr ⟨rfl,hW,hK,u2,v,gs,a4,a6,_,_,ho,hg⟩
   rw[Qc,zn]at hg
   subst hg
   simp only at hW hK ho
   have fi:=hK.le
   have vt:=kN.le
   have a3:r.get 3=some (.bool (decide (z<0))):=by rw[hr 3 (by decide)];simp
   have kY:=Yn4 hM0
   have xl:(qT M).length<1000000000000:=rW Yd8 (by omega)
   have iz:(aq M).length<100000000000:=by rw[Hf hM0];exact hl
   have uY:Bd (H.set n2 (.cells [.bN,.aa] 222 true)) (n2+1) n2 []:=⟨uG _,.bN,.aa,by rw[T.ag,aF rfl],.inl rfl,.inl ⟨rfl,rfl⟩⟩
   by_cases hz:z<0
   ·have Bj:aN z=[45]++(qT M).reverse.flatten:=by unfold aN;rw[aF hz,hM,kY];rfl
    simp[a3,hz]
    refine zy (Ya0 (n0:=n1+1) fi uY (t:=[45]) (by decide) (by decide)) ?_
    rintro _ ⟨H2,n3,W2⟩ ⟨hn,dX,wW,pe⟩
    simp only at hn dX wW pe
    subst hn
    simp[]
    refine jZ (Ybj (nB:=n1+1) (n0:=n1+1) (b:=n2) (hb:=H) (gs:=qT M) (pre:=[45]) (v:=v) fi (by rw[kY];simp;omega) xl (fun s hs=>Ykq hs) (by simp) ho (by simp[a6]) (by simp) (by rw[dX,hW]) (fun i hi=>by rw[wW i hi,T.ag,ar (by omega)]) pe) ?_
    rintro e fr ⟨H6,n6,W6⟩ ⟨rfl,r6,rfl,g2,g3,g4,g5⟩
    simp only at g3 g4 g5
    have W9:=Jc (show N<=n1+1 by omega) g3
    simp[g2,az,W9,Bj]
    exact⟨by omega,fun i hi=>by rw[g4 i (by omega),hK.get i (by omega),<-jH,T.ag,ar (by omega),kN.get i hi]⟩
   ·have Bj:aN z=[]++(qT M).reverse.flatten:=by unfold aN;rw[ar hz,hM,kY];rfl
    simp[a3,hz]
    refine jZ (Ybj (nB:=n1+1) (n0:=n1+1) (b:=n2) (hb:=H) (gs:=qT M) (pre:=[]) (v:=v) fi (by rw[kY];simp;omega) xl (fun s hs=>Ykq hs) (by rw[List.nil_append,kY];exact IY M) ho (by simp[a6]) (by simp) hW (fun i hi=>by rw[T.ag,ar (by omega)]) uY) ?_
    rintro e fr ⟨H6,n6,W6⟩ ⟨rfl,r6,rfl,g2,g3,g4,g5⟩
    simp only at g3 g4 g5
    have W9:=Jc (show N<=n1+1 by omega) g3
    simp[g2,az,W9,Bj]
    exact⟨by omega,fun i hi=>by rw[g4 i (by omega),hK.get i (by omega),<-jH,T.ag,ar (by omega),kN.get i hi]⟩
variable {N:Nat} {a b z:Int} {h:T O} {x:V}
set_option maxHeartbeats 2000000
def A.b145:av:=sr [bx 1 101 0,ge 2 (.alloc [.int .i64 0,.aa,.int .i64 0,.aa] 103)]
 (.seq (.aX [lN 3 2 1,ge 4 (.call (fq 163) [.const (.int .i64 1)]),ge 5 (.build [.int .i64 0,.aa,.int .i64 0,.aa] [(0,2,(tq 3)),(2,2,(tq 4))]),gn (.store 4 (tq 2) (tq 5))] [0,0,3,7])
 (.ret))
def A.c145:A.F 145=some ⟨6,[.cell 2 (some 4)],A.b145⟩:=by kernel_rfl
def A.k145:=@A.kk 145 _ _ _ A.c145 rfl
def A.b99:av:=sr [ge 2 (.alloc [.int .i64 0,.aa,.int .i64 0,.aa] 103)]
 (sr [mv 3 0,c1 4 163 3,c1 5 145 4,gn (.store 4 (tq 2) (tq 5))]
 (.ret))
def A.c99:A.F 99=some ⟨6,[.cell 2 (some 4)],A.b99⟩:=by kernel_rfl
def A.k99:=@A.kk 99 _ _ _ A.c99 rfl
def A.b144:av:=sr [bx 1 103 0,ge 2 (.ba (.const (.bool false)))]
 (sr [fa 3 2 1,fa 4 1 3,ld 5 4,ge 6 (.bin .eql (.aM .slice) true (tq 5) (.const .aa)),mv 7 6,gy 8 7 (.eI 2 (tq 1)),gy 9 7 (.eI 0 (tq 8)),gy 10 7 (.load none (tq 9)),gy 11 7 (.bin .eql (.aM .int) true (tq 10) (kq 1)),pf 12 7 11,mv 2 12]
 (.ret))
def A.c144:A.F 144=some ⟨13,[.tmp 2],A.b144⟩:=by kernel_rfl
def A.k144:=@A.kk 144 _ _ _ A.c144 rfl
def A.mY:av:=sr [lN 24 2 2,lN 25 2 3,c2 26 194 24 25,ge 5 (.alloc [.int .i64 0,.aa] 101),gn (.store 2 (tq 5) (tq 26))]
 (.seq (.aX [lN 27 2 2,lN 28 2 5,c2 29 201 27 28,lN 30 2 3,lN 31 2 5,c2 32 201 30 31,ge 33 (.build [.int .i64 0,.aa,.int .i64 0,.aa] [(0,2,(tq 29)),(2,2,(tq 32))]),gn (.store 4 (tq 4) (tq 33))] [0,0,3,0,0,31,63,127])
 (.ret))
def A.il:av:=.seq (sr [fa 13 1 3,ld 14 13,ge 15 (.bin .eql (.aM .slice) true (tq 14) (.const .aa)),mv 16 15,gy 17 16 (.eI 0 (tq 3)),gy 18 16 (.load none (tq 17)),gy 19 16 (.bin .eql (.aM .int) true (tq 18) (kq 1)),pf 20 16 19]
 (cd 20
 (sr [lN 21 2 2,lN 22 2 3,ge 23 (.build [.int .i64 0,.aa,.int .i64 0,.aa] [(0,2,(tq 21)),(2,2,(tq 22))]),gn (.store 4 (tq 4) (tq 23))]
 (.ret))
 (.skip)))
 A.mY
def A.b147:av:=sr [bx 2 101 0,bx 3 101 1,ge 4 (.alloc [.int .i64 0,.aa,.int .i64 0,.aa] 103)]
 (.seq (sr [lN 6 2 3,c1 7 167 6,bc 8 .lss 7 0]
 (cd 8
 (.aX [lN 9 2 2,c1 10 189 9,lN 11 2 3,c1 12 189 11,gn (.store 2 (tq 2) (tq 10)),gn (.store 2 (tq 3) (tq 12))] [0,1,0,7,15,31])
 (.skip)))
 A.il)
def A.c147:A.F 147=some ⟨34,[.cell 4 (some 4)],A.b147⟩:=by kernel_rfl
def A.k147:=@A.kk 147 _ _ _ A.c147 rfl
def Fc(h:T O)(N:Nat)(x:V)(q:Rat):Prop:=∃n1 u1 n2 u2,x=.agg [.int .i64 n1,u1,.int .i64 n2,u2]/\In h N (.agg [.int .i64 n1,u1]) q.num/\In h N (.agg [.int .i64 n2,u2]) (q.den:Nat)
def Fc.ae{h':T O}{N':Nat}{q:Rat}(s:Fc h N x q)(k:ab h N h' N'):Fc h' N' x q:=by
 obtain⟨n1,u1,n2,u2,rfl,s1,s2⟩:=s
 exact⟨n1,u1,n2,u2,rfl,s1.ae k,s2.ae k⟩
def dN{n:Int}{u:V}(s:In h N (.agg [.int .i64 n,u]) z):V.one u=true:=by
 obtain⟨n',u',e,h1⟩:=s.cells
 simp at e
 rw[e.2];exact h1
def Xa(hx:In h N x z):Fn A.C 145 [x] h N (fun v h' N'=>Fc h' N' v (z:Rat)):=by
 intro w
 rw[aO,A.k145 (by simp)]
 obtain⟨n,u,rfl,hu⟩:=hx.cells
 have mE:=hu
 unfold V.one at mE
 simp[A.b145,aS,aE,mE]
 refine aA GP ?_
 rintro _ h1 n1 k1 rfl
 have vt:=k1.le
 have g0:=k1.get (N+1) (by omega)
 simp at g0
 simp[aS,aE,ad,bO,g0,mE,cA.cB,az]
 have kk:=(((aP (aP ab.refl (.cells [.int .i64 n,u] 101 true)) (.cells [.int .i64 0,.aa,.int .i64 0,.aa] 103 true)).trans k1).set (h:=h) (n:=N) (i:=N+1) (o:=.cells [.int .i64 n,u,.int .i64 1,.aa] 103 true) (by omega))
 refine⟨?_,kk,n,u,1,.aa,rfl,?_,?_⟩
 ·split<;>simp[ax]
 ·exact hx.ae kk
 ·exact In.small (by decide) (by decide)
def Ytu(h1: -9223372036854775808<=z)(h2:z<9223372036854775808){h:T O}{N:Nat}:Fn A.C 99 [.int .i64 z] h N (fun v h' N'=>Fc h' N' v (z:Rat)):=by
 intro w
 rw[aO,A.k99 (by simp)]
 simp[A.b99]
 refine aA GP ?_
 rintro _ h3 n3 k3 rfl
 simp[]
 refine aA (Xa (In.small h1 h2)) ?_
 rintro _ h4 n4 k4 ⟨n1,u1,n2,u2,rfl,s1,s2⟩
 have vt:=k3.le
 have tm:=k4.le
 have g0:=(k4.get N (by omega)).trans (k3.get N (by omega))
 simp at g0
 have o1:=dN s1
 have o2:=dN s2
 unfold V.one at o1 o2
 simp[aS,aE,ad,bO,g0,o1,o2,az]
 have kk:=(((aP (ab.refl (h:=h) (n:=N)) (.cells [.int .i64 0,.aa,.int .i64 0,.aa] 103 true)).trans k3).trans k4).set (h:=h) (n:=N) (i:=N) (o:=.cells [.int .i64 n1,u1,.int .i64 n2,u2] 103 true) (by omega)
 have g1:=(k4.get N (by omega)).trans (k3.get N (by omega))
 rw[T.ag,aF rfl]at g1
 have hn:∀x∈[V.int .i64 0,V.aa,V.int .i64 0,V.aa],∀m,x≠.int .u64 m:=by
  intro x hx m hc
  simp at hx
  rcases hx with rfl|rfl|rfl|rfl<;>cases hc
 exact⟨kk,n1,u1,n2,u2,rfl,s1.aK g1 hn rfl,s2.aK g1 hn rfl⟩
def oa:∀x∈[V.int .i64 0,V.aa,V.int .i64 0,V.aa],∀m,x≠.int .u64 m:=by
 intro x hx m hc
 simp at hx
 rcases hx with rfl|rfl|rfl|rfl<;>cases hc
structure Qg (H:T O) (N:Nat) (q:Rat) (st:St):Prop where
 w:ax N st.w=[]
 old:∀i,i<N->st.h.get i=H.get i
 le:N+3<=st.n
 ex:∃n1 u1 n2 u2,st.h.get (N+2)=some (.cells [.int .i64 n1,u1,.int .i64 n2,u2] 103 true)/\Fc st.h st.n (.agg [.int .i64 n1,u1,.int .i64 n2,u2]) q
def Yvk{H:T O}{n:Nat}{W:List Nat}{r:T V}{n1 n2:Int}{u1 u2:V}(hn:N+3<=n)(hW:ax N W=[])(g1:H.get N=some (.cells [.int .i64 n1,u1] 101 true))(g2:H.get (N+1)=some (.cells [.int .i64 n2,u2] 101 true))(g3:H.get (N+2)=some (.cells [.int .i64 0,.aa,.int .i64 0,.aa] 103 true))
  (hx:In H n (.agg [.int .i64 n1,u1]) a) (hy:In H n (.agg [.int .i64 n2,u2]) b) (hb:0<b) (la:wl a<10000000000) (lb:wl b<10000000000) (a2:r.get 2=some (.ptr N 0)) (a3:r.get 3=some (.ptr (N+1) 0)) (a4:r.get 4=some (.ptr (N+2) 0)):
  Code A.C none A.mY ⟨r,34,[]⟩ ⟨H,n,W⟩ (fun e fr st=>e=.ret/\∃r',fr=⟨r',34,[]⟩/\r'.get 4=some (.ptr (N+2) 0)/\Qg H N (Rat.divInt a b) st):=by
 rw[bq]
 have o1:=dN hx
 have o2:=dN hy
 unfold V.one at o1 o2
 simp[A.mY,a2,a3,g1,g2,aS,aE]
 refine aA (Ykr hx hy la lb) ?_
 rintro _ h1 m1 k1 hg
 obtain⟨ng,ug,rfl,hug⟩:=hg.cells
 have Hi:=hug
 unfold V.one at Hi
 have vt:=k1.le
 have Bz:=(k1.get N (by omega)).trans g1
 have rN:=(k1.get (N+1) (by omega)).trans g2
 have Fj:=(k1.get (N+2) (by omega)).trans g3
 have d1:¬N=m1:=by omega
 have d2:¬N+1=m1:=by omega
 have d3:¬N+2=m1:=by omega
 have e1:N<m1+1:=by omega
 have e2:N+1<m1+1:=by omega
 have e3:N+2<m1+1:=by omega
 have lD:0<Int.gcd a b:=Int.gcd_pos_of_ne_zero_right a (by omega)
 obtain⟨G,hG⟩:∃G,Int.gcd a b=G:=⟨_,rfl⟩
 rw[hG]at lD hg
 have hGb:(G:Int)<=b:=by
  rw[<-hG]
  exact Int.le_of_dvd hb (Int.gcd_dvd_right ..)
 have lg:wl (G:Int)<10000000000:=rW (GV (by omega)) lb
 have kS:ab h1 m1 ((h1.set m1 (.cells [.int .i64 0,.aa] 101 true)).set m1 (.cells [.int .i64 ng,ug] 101 true)) (m1+1):=(aP ab.refl _).set (aW _)
 simp[a2,Bz,d1,aS,aE,ad,bO,Hi,e1]
 refine aA (Yj6 ((hx.ae k1).ae kS) (hg.ae kS) (by omega) la lg) ?_
 rintro _ h2 m2 k2 pr
 obtain⟨n3,u3,rfl,Jm⟩:=pr.cells
 have o3:=Jm
 unfold V.one at o3
 have kT:=(k1.trans kS).trans k2
 have gX:=kT.le
 have f1:=(kT.get N (by omega)).trans g1
 have f2:=(kT.get (N+1) (by omega)).trans g2
 have f3:=(kT.get (N+2) (by omega)).trans g3
 have f5:=k2.get m1 (by omega)
 rw[T.ag,aF rfl]at f5
 have jd:=k2.le
 have e4:N+1<m2:=by omega
 have e5:m1<m2:=by omega
 have e6:N+2<m2:=by omega
 simp[a3,f2,f5,aS,aE,e4,e5]
 refine aA (Yj6 ((hy.ae kT)) ((hg.ae kS).ae k2) (by omega) lb lg) ?_
 rintro _ h3 m3 k3 jV
 obtain⟨n4,u4,rfl,Mr⟩:=jV.cells
 have o4:=Mr
 unfold V.one at o4
 have kU:=kT.trans k3
 have tm:=kU.le
 have f6:=(kU.get (N+2) (by omega)).trans g3
 have e7:N+2<m3:=by omega
 simp[a4,f6,ad,bO,o3,o4,e7,cA.cB]
 have Hj:(Rat.divInt a b).num=a/(G:Int):=by
  rw[Rat.num_divInt,Int.sign_eq_one_of_pos hb,Int.one_mul,Int.gcd_comm,hG]
 have Xb:((Rat.divInt a b).den:Int)=b/(G:Int):=by
  rw[Rat.den_divInt,ar (by omega),Int.gcd_comm,hG,Int.natCast_ediv,Int.natAbs_of_nonneg (by omega)]
 have ph:¬N+2<N:=by omega
 have n3':¬m1<N:=by omega
 refine⟨by simp[ax,hW,ph,n3'],fun i hi=>?_,by show N+3<=m3;omega,n3,u3,n4,u4,by show T.get (T.set _ _ _) _=_;rw[T.ag,aF rfl],n3,u3,n4,u4,rfl,?_,?_⟩
 ·show T.get (T.set _ _ _) _=_
  rw[T.ag,ar (by omega),kU.get i (by omega)]
 ·rw[Hj];exact(pr.ae k3).aK f6 oa rfl
 ·rw[Xb];exact jV.aK f6 oa rfl
def Yvj{H:T O}{n:Nat}{W:List Nat}{r:T V}{n1 n2:Int}{u1 u2:V}(hn:N+3<=n)(hW:ax N W=[])(g1:H.get N=some (.cells [.int .i64 n1,u1] 101 true))(g2:H.get (N+1)=some (.cells [.int .i64 n2,u2] 101 true))(g3:H.get (N+2)=some (.cells [.int .i64 0,.aa,.int .i64 0,.aa] 103 true))
  (hx:In H n (.agg [.int .i64 n1,u1]) a) (hy:In H n (.agg [.int .i64 n2,u2]) b) (hb:0<b) (la:wl a<10000000000) (lb:wl b<10000000000) (a2:r.get 2=some (.ptr N 0)) (a3:r.get 3=some (.ptr (N+1) 0)) (a4:r.get 4=some (.ptr (N+2) 0)):
  Code A.C none A.il ⟨r,34,[]⟩ ⟨H,n,W⟩ (fun e fr st=>e=.ret/\∃r',fr=⟨r',34,[]⟩/\r'.get 4=some (.ptr (N+2) 0)/\Qg H N (Rat.divInt a b) st):=by
 rw[bq]
 have o1:=dN hx
 have o2:=dN hy
 unfold V.one at o1 o2
 have fin:∀r':T V,r'.get 2=some (.ptr N 0)->r'.get 3=some (.ptr (N+1) 0)->r'.get 4=some (.ptr (N+2) 0)->bH A.C [] (eH (A.C.code none A.mY ⟨r',34,[]⟩ ⟨H,n,W⟩)) (UW (fun e fr st=>e=.ret/\∃r',fr=⟨r',34,[]⟩/\r'.get 4=some (.ptr (N+2) 0)/\Qg H N (Rat.divInt a b) st)):=fun r' b2 b3 b4=>bq.1 (Yvk hn hW g1 g2 g3 hx hy hb la lb b2 b3 b4)
 have xf:=hy
 rcases xf with⟨e0,_,_⟩|⟨i,o,l,c,e0,_,_⟩
 ·simp only[V.agg.injEq,iO,V.int.injEq,true_and,and_true]at e0
  obtain⟨rfl,rfl⟩:=e0
  by_cases c1:n2=1
  ·subst c1
   simp[A.il,a2,a3,a4,g1,g2,g3,aS,aE,ad,aI,bO,o1]
   have ph:¬N+2<N:=by omega
   refine⟨by simp[ax,hW,ph],fun i hi=>?_,hn,n1,u1,1,.aa,by show T.get (T.set _ _ _) _=_;rw[T.ag,aF rfl],n1,u1,1,.aa,rfl,?_,?_⟩
   ·show T.get (T.set _ _ _) _=_
    rw[T.ag,ar (by omega)]
   ·rw[show (Rat.divInt a 1).num=a by rw[Rat.num_divInt];simp];exact hx.aK g3 oa rfl
   ·rw[show ((Rat.divInt a 1).den:Int)=1 by rw[Rat.den_divInt];simp];exact In.small (by decide) (by decide)
  ·simp[A.il,a3,g2,aS,aI,c1]
   exact fin _ (by simp[a2]) (by simp[a3]) (by simp[a4])
 ·simp only[V.agg.injEq,iO,V.int.injEq,true_and,and_true]at e0
  obtain⟨rfl,rfl⟩:=e0
  simp[A.il,a3,g2,aS,aI]
  exact fin _ (by simp[a2]) (by simp[a3]) (by simp[a4])
def Xc{y:V}(hx:In h N x a)(hy:In h N y b)(hb:b≠0)(la:wl a<10000000000)(lb:wl b<10000000000):Fn A.C 147 [x,y] h N (fun v h' n'=>Fc h' n' v (Rat.divInt a b)):=by
 intro w
 rw[aO,A.k147 (by simp)]
 obtain⟨n1,u1,rfl,xO⟩:=hx.cells
 obtain⟨n2,u2,rfl,fu⟩:=hy.cells
 have o1:=xO
 have o2:=fu
 unfold V.one at o1 o2
 have kB:ab h N (((h.set N (.cells [.int .i64 n1,u1] 101 true)).set (N+1) (.cells [.int .i64 n2,u2] 101 true)).set (N+2) (.cells [.int .i64 0,.aa,.int .i64 0,.aa] 103 true)) (N+3):=aP (aP (aP ab.refl _) _) _
 have done:∀(r:T V) (h1:T O) (m:Nat) (W1:List Nat) (a' b' xm ph:Int) (Xd Xe:V),N+3<=m->ax N W1=[]->(∀i,i<N->h1.get i=h.get i)->h1.get N=some (.cells [.int .i64 xm,Xd] 101 true)->h1.get (N+1)=some (.cells [.int .i64 ph,Xe] 101 true)->h1.get (N+2)=some (.cells [.int .i64 0,.aa,.int .i64 0,.aa] 103 true)->
   In h1 m (.agg [.int .i64 xm,Xd]) a'->In h1 m (.agg [.int .i64 ph,Xe]) b'->0<b'->wl a'<10000000000->wl b'<10000000000->Rat.divInt a' b'=Rat.divInt a b->r.get 2=some (.ptr N 0)->r.get 3=some (.ptr (N+1) 0)->r.get 4=some (.ptr (N+2) 0)->
   bH A.C [.fin [.cell 4 (some 4)] ⟨h,N,w⟩] (eH (A.C.code none A.il ⟨r,34,[]⟩ ⟨h1,m,W1⟩)) (Ci (az (fun v h' n'=>Fc h' n' v (Rat.divInt a b)) h N w)):=by
  intro r h1 m W1 a' b' xm ph Xd Xe hm DX hO g1 g2 g3 i1 i2 rT Ez P0 hq b2 b3 b4
  refine jZ (Yvj hm DX g1 g2 g3 i1 i2 rT Ez P0 b2 b3 b4) ?_
  rintro e fr ⟨H6,n6,W6⟩ ⟨rfl,r6,rfl,c4,q1,q2,q3,m1,v1,m2,v2,q4,q5⟩
  simp only at q1 q2 q3 q4 q5
  rw[hq]at q5
  simp[c4,q4,aS,aE,az,q1]
  exact⟨⟨by omega,fun i hi=>(q2 i hi).trans (hO i hi)⟩,q5⟩
 simp[A.b147,aS,aE,o1,o2]
 generalize jH:((h.set N (.cells [.int .i64 n1,u1] 101 true)).set (N+1) (.cells [.int .i64 n2,u2] 101 true)).set (N+2) (.cells [.int .i64 0,.aa,.int .i64 0,.aa] 103 true)=hB at*
 have b1:hB.get N=some (.cells [.int .i64 n1,u1] 101 true):=by rw[<-jH];simp
 have b2:hB.get (N+1)=some (.cells [.int .i64 n2,u2] 101 true):=by rw[<-jH];simp
 have b3:hB.get (N+2)=some (.cells [.int .i64 0,.aa,.int .i64 0,.aa] 103 true):=by rw[<-jH];simp
 refine aA (GQ (hy.ae kB)) ?_
 rintro _ h1 m1 k1 rfl
 have kk:=kB.trans k1
 have vt:=kk.le
 have fl:=k1.le
 have f1:=(k1.get N (by omega)).trans b1
 have f2:=(k1.get (N+1) (by omega)).trans b2
 have f3:=(k1.get (N+2) (by omega)).trans b3
 by_cases hbn:b<0
 ·have s1:dW b= -1:=by unfold dW;rw[aF hbn]
  have l1:N<m1:=by omega
  simp[s1,f1,l1,aS,aE]
  refine aA (Je (hx.ae kk) (by omega)) ?_
  rintro _ h2 m2 k2 q1
  obtain⟨n3,u3,rfl,Jm⟩:=q1.cells
  have o3:=Jm
  unfold V.one at o3
  have gX:=k2.le
  have f4:=(k2.get N (by omega)).trans f1
  have f5:=(k2.get (N+1) (by omega)).trans f2
  have f6:=(k2.get (N+2) (by omega)).trans f3
  have l2:N+1<m2:=by omega
  simp[f5,l2,aS,aE]
  refine aA (Je ((hy.ae kk).ae k2) (by omega)) ?_
  rintro _ h3 m3 k3 q2
  obtain⟨n4,u4,rfl,Mr⟩:=q2.cells
  have o4:=Mr
  unfold V.one at o4
  have jd:=k3.le
  have f7:=(k3.get N (by omega)).trans f4
  have f8:=(k3.get (N+1) (by omega)).trans f5
  have f9:=(k3.get (N+2) (by omega)).trans f6
  have l3:N+1<m3:=by omega
  have l4:N<m3:=by omega
  simp[f7,f8,l3,l4,ad,bO,o3,o4,cA.cB]
  have i1:=(q1.ae k3).aK (c1:=[.int .i64 n3,u3]) (e1:=101) (w1:=true) f7 hx.nu rfl
  have i2:=q2.aK (c1:=[.int .i64 n3,u3]) (e1:=101) (w1:=true) f7 hx.nu rfl
  have f8':((h3.set N (.cells [.int .i64 n3,u3] 101 true)):T O).get (N+1)=some (.cells [.int .i64 n2,u2] 101 true):=by rw[T.ag,ar (by omega)];exact f8
  have j1:=i1.aK (c1:=[.int .i64 n4,u4]) (e1:=101) (w1:=true) f8' hy.nu rfl
  have j2:=i2.aK (c1:=[.int .i64 n4,u4]) (e1:=101) (w1:=true) f8' hy.nu rfl
  have l5:¬N+1<N:=by omega
  exact done _ _ _ _ (-a) (-b) n3 n4 u3 u4 (by omega) (by simp[ax,l5]) (fun i hi=>by rw[T.ag,ar (by omega),T.ag,ar (by omega),k3.get i (by omega),k2.get i (by omega),kk.get i hi]) (by rw[T.ag,ar (by omega),T.ag,aF rfl]) (by rw[T.ag,aF rfl]) (by rw[T.ag,ar (by omega),T.ag,ar (by omega)];exact f9) j1 j2 (by omega) (by rw[My];exact la) (by rw[My];exact lb) (Rat.neg_divInt_neg a b) (by simp) (by simp) (by simp)
 ·have s1:dW b=1:=by unfold dW;rw[ar hbn,ar hb]
  simp[s1]
  exact done _ _ _ _ a b n1 n2 u1 u2 (by omega) (by simp[ax]) (fun i hi=>kk.get i hi) f1 f2 f3 (hx.ae kk) (hy.ae kk) (by omega) la lb rfl (by simp) (by simp) (by simp)
end Go.Mx
