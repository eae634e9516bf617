/-strings-/
import Derived.Test.YthekjfgljafnaaaGreatDoorNcA
set_option linter.all false
namespace Go.Mx
open Go Go.Proofs
set_option maxRecDepth 1000000
def Yb7:List UInt8:=List.replicate 128 32
def Yb6:List UInt8:=List.replicate 128 45
def Yj2:List UInt8:=List.replicate 128 61
def Yqg:List UInt8:=List.replicate 64 9
def Znb:List UInt8:=List.replicate 64 48
def A.lb220_0:Zaw:=.seq (sr [c1 111 247 9,mv 112 7,bi 113 .lss 111 112]
 (cd 113
 (.skip)
 (.exit 3)))
 (.block 4 (sr [mv 114 7,c1 115 247 9,bi 116 .sub 114 115,c1 117 247 9,mv 118 8,ge 119 (.mn [tq 116,tq 117,tq 118]),mv 10 119]
 (.reg [c1 120 222 9,mv 121 10,ge 122 (.sliceStr (tq 120) none (some (tq 121))),c2 123 221 9 122])))
def A.b220:Zaw:=sr [ge 4 (.mov (.const (.str [])))]
 (.seq (sr [mv 11 1]
 (.block 0 (sr [ei 13 11 0,mv 12 13]
 (cd 12
 (sr [ge 4 (.mov (.const (.str [])))]
 (.ret))
 (sr [ei 15 11 1,mv 14 15]
 (cd 14
 (sr [mv 16 0,mv 4 16]
 (.ret))
 (.skip)))))))
 (.seq (sr [mv 17 1,bc 18 .lss 17 0]
 (cd 18
 (.reg [ge 19 (.mkiface 9 (.const (.str [115,116,114,105,110,103,115,58,32,110,101,103,97,116,105,118,101,32,82,101,112,101,97,116,32,99,111,117,110,116]))),gn (.stop)])
 (.skip)))
 (sr [mv 21 0,ge 22 (.len 0 (tq 21)),ge 23 (.convInt .u64 (tq 22)),mv 24 1,ge 25 (.convInt .u64 (tq 24)),c2 26 245 23 25,mv 20 26,xt 27 20 0,xt 28 20 1,mv 5 27,mv 6 28]
 (.seq (sr [mv 29 5,ge 30 (.bin .gtr (.node []) false (tq 29) (.const (.int .u64 0))),mv 31 30,mh 32 6 31,gz 33 31 (.bin .gtr (.node []) false (tq 32) (.const (.int .u64 9223372036854775807))),pt 34 31 33]
 (cd 34
 (.reg [ge 35 (.mkiface 9 (.const (.str [115,116,114,105,110,103,115,58,32,82,101,112,101,97,116,32,111,117,116,112,117,116,32,108,101,110,103,116,104,32,111,118,101,114,102,108,111,119]))),gn (.stop)])
 (.skip)))
 (sr [mv 36 6,ge 37 (.convInt .i64 (tq 36)),mv 7 37]
 (.seq (sr [mv 38 0,ge 39 (.len 0 (tq 38)),ei 40 39 0]
 (cd 40
 (sr [ge 4 (.mov (.const (.str [])))]
 (.ret))
 (.skip)))
 (.seq (sr [mv 41 0,ge 42 (.idxStr (tq 41) (kq 0))]
 (.block 1 (.seq (sr [ge 44 (.bin .eql (.prim .int) true (tq 42) (.const (.int .u8 32))),mv 43 44]
 (cd 43
 (.skip)
 (sr [ge 45 (.bin .eql (.prim .int) true (tq 42) (.const (.int .u8 45))),mv 43 45]
 (cd 43
 (.skip)
 (sr [ge 46 (.bin .eql (.prim .int) true (tq 42) (.const (.int .u8 48))),mv 43 46]
 (cd 43
 (.skip)
 (sr [ge 47 (.bin .eql (.prim .int) true (tq 42) (.const (.int .u8 61))),mv 43 47]
 (cd 43
 (.skip)
 (.reg [ge 48 (.bin .eql (.prim .int) true (tq 42) (.const (.int .u8 9))),mv 43 48])))))))))
 (cd 43
 (.block 2 (sr [mv 50 7,bc 51 .leq 50 128,mv 52 51,mg 53 0 52,gy 54 52 (.call (fq 212) [(.const (.str Yb7)),tq 53]),pf 55 52 54,mv 49 55]
 (cd 49
 (sr [mv 56 7,ge 57 (.sliceStr (.const (.str Yb7)) none (some (tq 56))),mv 4 57]
 (.ret))
 (sr [mv 59 7,bc 60 .leq 59 128,mv 61 60,mg 62 0 61,gy 63 61 (.call (fq 212) [(.const (.str Yb6)),tq 62]),pf 64 61 63,mv 58 64]
 (cd 58
 (sr [mv 65 7,ge 66 (.sliceStr (.const (.str Yb6)) none (some (tq 65))),mv 4 66]
 (.ret))
 (sr [mv 68 7,bc 69 .leq 68 64,mv 70 69,mg 71 0 70,gy 72 70 (.call (fq 212) [(.const (.str Znb)),tq 71]),pf 73 70 72,mv 67 73]
 (cd 67
 (sr [mv 74 7,ge 75 (.sliceStr (.const (.str Znb)) none (some (tq 74))),mv 4 75]
 (.ret))
 (sr [mv 77 7,bc 78 .leq 77 128,mv 79 78,mg 80 0 79,gy 81 79 (.call (fq 212) [(.const (.str Yj2)),tq 80]),pf 82 79 81,mv 76 82]
 (cd 76
 (sr [mv 83 7,ge 84 (.sliceStr (.const (.str Yj2)) none (some (tq 83))),mv 4 84]
 (.ret))
 (sr [mv 86 7,bc 87 .leq 86 64,mv 88 87,mg 89 0 88,gy 90 88 (.call (fq 212) [(.const (.str Yqg)),tq 89]),pf 91 88 90,mv 85 91]
 (cd 85
 (sr [mv 92 7,ge 93 (.sliceStr (.const (.str Yqg)) none (some (tq 92))),mv 4 93]
 (.ret))
 (.skip))))))))))))
 (.skip)))))
 (sr [mv 94 7,mv 8 94]
 (.seq (sr [mv 95 7,bc 96 .gtr 95 8192]
 (cd 96
 (sr [mv 97 0,ge 98 (.len 0 (tq 97)),ge 99 (.bin .quo (.node []) false (kq 8192) (tq 98)),mv 100 0,ge 101 (.len 0 (tq 100)),bi 102 .mul 99 101,mv 8 102]
 (sr [mv 103 8,ei 104 103 0]
 (cd 104
 (.reg [mv 105 0,ge 106 (.len 0 (tq 105)),mv 8 106])
 (.skip))))
 (.skip)))
 (sr [ge 9 (.alloc [.nilptr,.nilslice] 224)]
 (sr [mv 107 7,c2 108 246 9 107]
 (sr [mv 109 0,c2 110 221 9 109]
 (.seq (.block 3 (.loop A.lb220_0))
 (sr [c1 124 222 9,mv 4 124]
 (.ret)))))))))))))))
def A.k220:=@A.kk 220 125 [.tmp 4] A.b220 (by kernel_rfl) rfl
noncomputable def A.b245:=A.q Tryz.f245
def A.k245:=@A.kk 245 30 [.tmp 4,.tmp 5] A.b245 (by kernel_rfl) rfl
def Yo3{h:T O}{N:Nat}{x y:Nat}(hx:x<18446744073709551616)(hy:y<18446744073709551616):Fn A.C 245 [.int .u64 x,.int .u64 y] h N (fun v' h' N'=>h'=h∧N'=N∧v'=.tup [.int .u64 (hi64 (x*y):Nat),.int .u64 (lo64 (x*y):Nat)]):=by
 intro w
 rw[Zab,A.k245 (by simp)]
 simp[A.b245]
 refine Zac (Zkd hx hy) ?_
 rintro _ _ _ k1 ⟨rfl,rfl,rfl⟩
 simp[Ret]
 exact k1
def Yd8{a c:UInt8}{s:Str}{st:St}:A.C.call (.func 212 [] []) [.str (a::s),.str [c]] st=some (.bool (decide (a=c)),st):=by
 have e:(([a]:Str)==[c])=decide (a=c):=by
  rw[Bool.eq_iff_iff]
  simp
 have h1:(1:Int)≤(s.length:Int)+1:=by omega
 apply Call.eq
 rw[Zab,A.k212 (by simp)]
 have h0':∀st,A.C.call (.func 234 [] []) [.str (a::s),.str [c]] st=some (.bool (decide (a=c)),st):=fun st=>by
  apply Call.eq
  rw[Zab,A.k234 (by simp)]
  simp[A.b234,evOpt,Za2,Zei,Zbn,e,h1]
 simp[A.b212,h0']
def Yvs{st:St}:A.C.call (.func 212 [] []) [.str Yb7,.str [48]] st=some (.bool false,st):=Yd8 (a:=32) (s:=List.replicate 127 32)
def Yvr{st:St}:A.C.call (.func 212 [] []) [.str Yb6,.str [48]] st=some (.bool false,st):=Yd8 (a:=45) (s:=List.replicate 127 45)
def Yvq{st:St}:A.C.call (.func 212 [] []) [.str Znb,.str [48]] st=some (.bool true,st):=Yd8 (a:=48) (s:=List.replicate 63 48)
def Zyo{k:Nat}(h:k≤64):List.take k Znb=List.replicate k 48:=by
 unfold Znb
 rw[List.take_replicate,Yxh h]
def Yb5:Znb.length=64:=by simp[Znb]
def Zr3{k:Nat}(hk:k≤18){h:T O}{N:Nat}:Fn A.C 220 [.str [48],.int .i64 k] h N (fun v h' N'=>v=.str (List.replicate k 48)):=by
 intro w
 rw[Zab,A.k220 (by simp)]
 by_cases c0:k=0
 ·subst c0
  simp[A.b220,Zad,Ret]
  exact Keeps.refl
 ·by_cases c1:k=1
  ·subst c1
   simp[A.b220,Zad,Ret]
   exact Keeps.refl
  ·have c3:¬(k:Int)=1:=by omega
   have e0:Zar .u64 (1:Int)=((1:Nat):Int):=Zeo (by omega) (by omega)
   have e1:Zar .u64 (k:Int)=(k:Int):=Zeo (by omega) (by omega)
   have c4:¬(k:Int)<0:=by omega
   simp[A.b220,Zad,c0,c1,c3,c4,e0,e1]
   refine Zac (Yo3 (x:=1) (y:=k) (by omega) (by omega)) ?_
   rintro _ _ _ _ ⟨rfl,rfl,rfl⟩
   have g1:hi64 (1*k)=0:=by unfold hi64;omega
   have g2:lo64 (1*k)=k:=by unfold lo64;omega
   have g3:¬(9223372036854775807:Int)<(k:Int):=by omega
   have g4:Zar .i64 (k:Int)=(k:Int):=Zaj (by omega) (by omega)
   have g7:u8I 48=48:=rfl
   have g5:(k:Int)≤128:=by omega
   have g6:(k:Int)≤64:=by omega
   rw[g1,g2]
   simp(disch:=omega) [Zad,c0,c1,c3,c4,g3,g4,g5,g6,g7,Zem,Yvs,Yvr,Yvq,Zbn,evOpt,Za2,Zei,Yb5,Zyo,Ret]
   exact Keeps.refl
variable {N b:Nat} {h:T O} {s:Str} {w:List Nat}
set_option maxHeartbeats 1000000
def A.b248:Zaw:=sr [mv 2 0,ge 3 (.nilck (tq 2)),fa 4 0 3,ld 5 4,ge 6 (.bin .eql (.prim .ptr) true (tq 5) (.const .nilptr))]
 (cd 6
 (.reg [mv 7 0,mv 8 0,ge 9 (.uns none (tq 8)),ge 10 (.ext .same [tq 9]),ge 11 (.uns (some (224,2)) (tq 10)),ge 12 (.nilck (tq 7)),fa 13 0 12,so 13 11])
 (sr [mv 14 0,ge 15 (.nilck (tq 14)),fa 16 0 15,ld 17 16,mv 18 0,ge 19 (.bin .neq (.prim .ptr) false (tq 17) (tq 18))]
 (cd 19
 (.stop)
 (.skip))))
def A.k248:=@A.kk 248 20 [] A.b248 (by kernel_rfl) rfl
noncomputable def A.b221:=A.q Tryz.f221
def A.k221:=@A.kk 221 19 [.tmp 4,.tmp 5] A.b221 (by kernel_rfl) rfl
noncomputable def A.b222:=A.q Tryz.f222
def A.k222:=@A.kk 222 14 [.tmp 2] A.b222 (by kernel_rfl) rfl
def Bd(h:T O)(N b:Nat)(s:Str):Prop:=b<N∧∃p v,h.get b=some (.cells [p,v] 224 true)∧(p=.nilptr∨p=.ptr b 0)∧((v=.nilslice∧s=[])∨∃j,v=.slice j 0 s.length none 1∧b<j∧j<N∧s≠[]∧h.get j=some (.cells (s.map vB) 5 true))
def Yoy{n2:Nat}(hn2:n2≤b)(hb:Bd h N b s):Call A.C (.func 248 [] []) [.ptr b 0] ⟨h,N,w⟩ (fun _ st=>st.n=N∧Zaa n2 st.w=Zaa n2 w∧(∀i,i<b→st.h.get i=h.get i)∧Bd st.h N b s):=by
 obtain⟨hN,p,v,hr,hp,hv⟩:=hb
 have hb2:¬b<n2:=by omega
 rw[Zab,A.k248 (by simp)]
 rcases hp with rfl|rfl
 ·simp[A.b248,hr,Zad,Zkb,hN,hb2]
  refine⟨fun i hi hc=>by omega,hN,.ptr b 0,v,?_,.inr rfl,?_⟩
  ·rw[T.get_set,Yv6 rfl];rfl
  ·rcases hv with hv|⟨j,h1,h2,h3,h4,h5⟩
   ·exact .inl hv
   ·exact .inr ⟨j,h1,h2,h3,h4,by rw[T.get_set,Yv4 (by omega)];exact h5⟩
 ·simp[A.b248,hr,Zad,Zkb]
  exact⟨hN,.ptr b 0,v,hr,.inr rfl,hv⟩
def Ya0{n0:Nat}{t:Str}(hn0:n0≤b)(hb:Bd h N b s)(ht:t≠[])(hl:s.length+t.length<1000000000000):Call A.C (.func 221 [] []) [.ptr b 0,.str t] ⟨h,N,w⟩ (fun _ st=>st.n=N+1∧Zaa n0 st.w=Zaa n0 w∧(∀i,i<b→st.h.get i=h.get i)∧Bd st.h (N+1) b (s++t)):=by
 rw[Zab,A.k221 (by simp)]
 simp[A.b221]
 refine Zek (Yoy hn0 hb) ?_
 rintro _ ⟨H2,n2,W2⟩ ⟨hn,hW,hO,hb2⟩
 simp only at hn hW hO hb2
 subst hn
 obtain⟨hN,p,v,hr,hp,hv⟩:=hb2
 have ht0:¬t.length=0:=by simpa using ht
 have hc:(t.map vB).length=t.length:=by simp
 have hW0:Zaa n0 W2=[]:=hW
 have m1:2*t.length≤281474976710656:=by omega
 have m2:¬281474976710656<2*(s.length+t.length):=by omega
 have m3:¬s.length+t.length≤s.length:=by omega
 have hne:¬b=n2:=by omega
 have hb0:¬b<n0:=by omega
 rcases hv with⟨rfl,rfl⟩|⟨j,rfl,h2,h3,h4,h5⟩
 ·simp[-Zaa,hr,Zdy,Zb0,Zaz,Zda,ht0,St.alloc,m1,hne,Zal,splice]
  refine⟨Zf6 (Zf4 (by simp[Zaa,hW0,hb0])),fun i hi=>?_,by omega,p,.slice n2 0 t.length none 1,by rw[T.get_set,Yv6 rfl],hp,.inr ⟨n2,rfl,hN,by omega,ht,by rw[T.get_set,Yv4 (by omega),T.get_set,Yv6 rfl];rfl⟩⟩
  rw[Yv4 (by omega),Yv4 (by omega)];exact hO i hi
 ·have hne2:¬b=j:=by omega
  have hj0:¬j<n0:=by omega
  simp[-Zaa,hr,Zdy,Zb0,Zaz,Zda,ht0,St.alloc,St.row,h5,m1,m2,m3,hne,hne2,Zal,splice]
  refine⟨Zf6 (Zf4 (by simp[Zaa,hW0,hb0,hj0])),fun i hi=>?_,by omega,p,.slice n2 0 (s.length+t.length) none 1,by rw[T.get_set,Yv6 rfl],hp,.inr ⟨n2,by simp,hN,by omega,by simp[h4],by rw[T.get_set,Yv4 (by omega),T.get_set,Yv6 rfl,List.map_append];rfl⟩⟩
  rw[Yv4 (by omega),Yv4 (by omega),Yv4 (by omega)];exact hO i hi
def Ylt{α:Type}(c:List α):slc c 0 c.length=some c:=by unfold slc;simp
def Ztg:∀(s:Str),Zom (s.map vB)=some s
 |[]=>rfl
 |c::s=>by
  rw[Yxk]
  have h1:Yjf (vB c)=some c:=by
   unfold Yjf vB u8I
   have:=c.toNat_lt
   simp
   omega
  simp only[Zom,h1,Ztg s]
def Yo2{n0:Nat}(hn0:n0≤b)(hb:Bd h N b s)(hs:s≠[])(hl:s.length<1000000000000):Call A.C (.func 222 [] []) [.ptr b 0] ⟨h,N,w⟩ (fun v st=>v=.str s∧st.n=N∧Zaa n0 st.w=Zaa n0 w∧(∀i,i<b→st.h.get i=h.get i)):=by
 obtain⟨hN,p,v,hr,hp,hv⟩:=hb
 rw[Zab,A.k222 (by simp)]
 rcases hv with⟨_,rfl⟩|⟨j,rfl,h2,h3,h4,h5⟩
 ·exact absurd rfl hs
 ·have h0:0<s.length:=List.length_pos_iff.2 hs
  have h0':(0:Int)<(s.length:Int):=by omega
  have hm:(s.length:Int)≤9223372036854775807:=by omega
  have hsl:slc (s.map vB) 0 s.length=some (s.map vB):=by
   have:=Ylt (s.map vB)
   rw[Yw7]at this
   exact this
  have hbm:=Ztg s
  have hj0:¬j<n0:=by omega
  simp[A.b222,hr,Zif,Zlg,h0,h0',hm,h5,h3,hN,hsl,hbm,hj0]
  exact fun i hi hc=>by omega
variable {b nB:Nat} {gs:List Str} {r:T V} {sT:St} {v:V}
set_option maxHeartbeats 4000000
def A.lb170_0:Zaw:=.seq (sr [mv 59 11,bc 60 .geq 59 0]
 (cd 60
 (.skip)
 (.exit 2)))
 (.seq (.block 3 (.reg [mv 63 6,mv 64 11,ia 65 1 63 64,ld 66 65,c2 67 221 10 66]))
 (.reg [mv 61 11,bc 62 .sub 61 1,mv 11 62]))
def A.lb170_1:Zaw:=.seq (sr [mv 24 4,ln 25 24,bc 26 .gtr 25 0]
 (cd 26
 (.skip)
 (.exit 0)))
 (.block 1 (sr [mv 28 4,mv 29 5,c2 30 218 28 29,mv 27 30,xt 31 27 0,xt 32 27 1,mv 7 31,mv 8 32]
 (sr [ge 9 (.mov (.const (.str [48])))]
 (.seq (sr [mv 33 8,ln 34 33,bc 35 .gtr 34 0]
 (cd 35
 (.reg [mv 36 8,ge 37 (.iaddrSl 1 (tq 36) (kq 0)),ld 38 37,ge 39 (.call (fq 219) [tq 38,.const (.int .i64 10)]),mv 9 39])
 (.skip)))
 (.seq (sr [mv 40 7,ln 41 40,bc 42 .gtr 41 0]
 (cd 42
 (.reg [mv 43 9,ge 44 (.len 0 (tq 43)),ge 45 (.bin .sub (.node []) false (kq 18) (tq 44)),ge 46 (.call (fq 220) [(.const (.str [48])),tq 45]),mv 47 9,bi 48 .add 46 47,mv 9 48])
 (.skip)))
 (sr [mv 49 6,mv 50 9,ge 51 (.bslice 9 1 1 [(.str [])] [(0,1,(tq 50))]),ge 52 (.append 1 16 9 [(.str [])] (tq 49) (tq 51)),mv 6 52]
 (.reg [mv 53 7,mv 4 53])))))))
def A.ta170_0:Zaw:=.seq (sr [mv 56 6,ln 57 56,bc 58 .sub 57 1,mv 11 58]
 (.block 2 (.loop A.lb170_0)))
 (sr [c1 68 222 10,mv 2 68]
 (.ret))
def A.b170:Zaw:=sr [bx 1 109 0,ge 2 (.mov (.const (.str [])))]
 (.seq (sr [fa 12 1 1,ld 13 12,ge 14 (.bin .eql (.prim .slice) true (tq 13) (.const .nilslice))]
 (cd 14
 (sr [fa 15 0 1,ld 16 15,c1 17 217 16,mv 2 17]
 (.ret))
 (.skip)))
 (sr [lN 19 2 1,c1 20 202 19,mv 18 20,xt 21 18 0,xt 22 18 1,mv 3 21,mv 4 22]
 (sr [ge 23 (.bslice 205 1 1 [.int .u64 0] [(0,1,(.const (.int .u64 1000000000000000000)))]),mv 5 23]
 (sr [mN 6]
 (.seq (.block 0 (.loop A.lb170_1))
 (sr [ge 10 (.alloc [.nilptr,.nilslice] 224)]
 (.seq (sr [mv 54 3]
 (cd 54
 (.reg [ge 55 (.call (fq 221) [tq 10,(.const (.str [45]))])])
 (.skip)))
 A.ta170_0)))))))
def A.k170:=@A.kk 170 69 [.tmp 2] A.b170 (by kernel_rfl) rfl
def grp(n:Nat):List Str:=if h:n=0 then [] else (if n/1000000000000000000=0 then decN n else Zim (n%1000000000000000000) 18)::grp (n/1000000000000000000)
termination_by n
decreasing_by omega
def Zmm:grp 0=[]:=by unfold grp;simp
def Zq3{n:Nat}(h:n≠0):grp n=(if n/1000000000000000000=0 then decN n else Zim (n%1000000000000000000) 18)::grp (n/1000000000000000000):=by
 conv=>lhs;unfold grp
 rw[dif_neg h]
def Yn0:∀{n:Nat},n≠0→(grp n).reverse.flatten=decN n:=by
 intro n
 induction n using Nat.strongRecOn with
 |_ n ih=>
  intro h
  rw[Zq3 h]
  by_cases h0:n/1000000000000000000=0
  ·rw[Yv6 h0,h0,Zmm];simp
  ·rw[Yv4 h0,List.reverse_cons,List.flatten_append,ih _ (by omega) h0,Zg8 h,Zg8 h0]
   have e:=Zp3 (k:=18) (a:=n/1000000000000000000) (b:=n%1000000000000000000) h0 (Yxo _ (by decide))
   rw[show n/1000000000000000000*10^18+n%1000000000000000000=n by have:=Yxv n 1000000000000000000;omega]at e
   rw[e];simp
def Ztc{a:Nat}(h:a≤b):(Zc9 a).length≤(Zc9 b).length:=Za3.1 (Yww h (Za3.2 (Yv5 _)))
def Yea:∀{n:Nat},(grp n).length≤(Zc9 n).length:=by
 intro n
 induction n using Nat.strongRecOn with
 |_ n ih=>
  by_cases h:n=0
  ·subst h;rw[Zmm];simp
  ·rw[Zq3 h,Yv8,Zco h,Ywl]
   have h1:=ih (n/1000000000000000000) (by omega)
   have h2:=Ztc (a:=n/1000000000000000000) (b:=n/10) (by omega)
   simp;omega
def Ykl:∀{n:Nat} {s:Str},s∈grp n→s≠[]:=by
 intro n
 induction n using Nat.strongRecOn with
 |_ n ih=>
  intro s hs
  by_cases h:n=0
  ·subst h;rw[Zmm]at hs;cases hs
  ·rw[Zq3 h]at hs
   rcases Yxa.1 hs with hs|hs
   ·subst hs
    split
    ·exact Zjh n
    ·intro hc
     have:=Yi5 (b:=n%1000000000000000000) (k:=18) (Yxo _ (by decide))
     rw[hc]at this;simp at this
   ·exact ih _ (by omega) hs
def Zt2(l:List Str):List (List V):=l.map fun s=>[.str s]
def Ypw{q:V}{Q n n':Nat}{h h':T O}{e:TypeId}(hq:Wn h n q Q)(hQ:Q≠0)(hv:Own 1 e nB h n v (Zt2 gs))(hh:∀j,j<n→h'.get j=h.get j∨(∃o m c y,v=.slice j o m c y))(hn:n≤n'):Wn h' n' q Q:=by
 obtain⟨d,hd⟩:∃d,(wds Q)[0]?=some d:=by rw[Zbq hQ];exact⟨_,rfl⟩
 rcases hq with⟨hz,_⟩|⟨i,o,cp,c,ee,rw,rfl,q1,q2,q3,q4⟩
 ·rw[Zbq hQ]at hz;simp[dg]at hz
 ·refine .inr ⟨i,o,cp,c,ee,rw,rfl,Ywf q1 hn,?_,q3,q4⟩
  rcases hh i q1 with h1|⟨o',m,c',y,rfl⟩
  ·rw[h1];exact q2
  ·exfalso
   rcases hv with⟨_,⟨_,h1⟩|⟨i',h1,_,_,h2⟩⟩
   ·cases h1
   ·simp only[V.slice.injEq]at h1
    obtain⟨rfl,_⟩:=h1
    rw[q2]at h2
    simp only[Yv3,O.cells.injEq]at h2
    have h3:=q3 0 (by rw[Zaf,Zbq hQ];simp)
    rw[Za9 hd,h2.1]at h3
    have:=Yv7 h3
    obtain⟨l,hl,hx⟩:=List.mem_flatten.1 this
    obtain⟨s,_,rfl⟩:=Ywv.1 hl
    simp at hx
structure StI (hB:T O) (nB M:Nat) (m:Nat) (r:T V) (st:St):Prop where
 w:Zaa nB st.w=[]
 keep:Keeps hB nB st.h st.n
 ex:∃u v gs,r.get 4=some u∧r.get 6=some v∧Zo1 u=some (wds m).length∧(m≠0→Wn st.h st.n u m)∧Own 1 9 nB st.h st.n v (Zt2 gs)∧gs++grp m=grp M
def Ygm{hB:T O}{M m:Nat}{r0:T V}{t:V}(hP:P10 hB nB)(hM:(Zc9 M).length<100000000000)(hm:m≤M)(ht:Wn hB nB t 1000000000000000000)(a5:r.get 5=some t)(hf:Fx [(4,4),(6,9),(24,53)] r0 69 ⟨r,69,[]⟩)(s:StI hB nB M m r sT):
  Code A.C none A.lb170_1 ⟨r,69,[]⟩ sT (Rd [(4,4),(6,9),(24,53)] r0 69 (fun k r st=>k≤M∧StI hB nB M k r st) m (fun e r st=>e=.exit 0∧StI hB nB M 0 r st)):=by
 obtain⟨H,n1,W⟩:=sT
 obtain⟨hW,hK,u,v,gs,a4,a6,lu,hu,ho,hg⟩:=s
 simp only at hW hK hu ho
 rw[Zah]
 by_cases h0:m=0
 ·subst h0
  rw[Zbo]at lu
  simp[A.lb170_1,hf,a4,lu]
  exact⟨hW,hK,u,v,gs,by simp[a4],by simp[a6],by rw[Zbo];exact lu,hu,ho,hg⟩
 ·replace hu:=hu h0
  have lp:0<(wds m).length:=by rw[Zbq h0];simp
  have lp':(0:Int)<((wds m).length:Int):=by omega
  have hwl:(wds m).length<1000000000000:=by
   have h1:=Zfn (n:=m) (k:=(Zc9 M).length) (Za3.2 (Ztc hm))
   unfold wl at h1
   simp at h1
   omega
  have hB0:(wds 1000000000000000000).length<1000000000000:=by rw[Zfd (by decide) (by decide)];decide
  have hgl:gs.length+(grp m).length≤(Zc9 M).length:=by
   rw[←Ywl,hg];exact Yea
  have hgp:=Zq3 h0
  rw[hgp,Yv8]at hgl
  simp[A.lb170_1,hf,a4,a5,lu,lp,lp']
  refine Zac (Zs7 hu (ht.keep hK) (by decide) hwl hB0) ?_
  rintro _ h2 n2 k2 ⟨q,rw0,rfl,hq,hrw⟩
  have lq:=hq.len
  have lr:=hrw.len
  rw[Zaf]at lq lr
  have hrl:m%1000000000000000000<18446744073709551616:=by omega
  obtain⟨R,hR⟩:∃R,m%1000000000000000000=R:=⟨_,rfl⟩
  obtain⟨Q,hQ⟩:∃Q,m/1000000000000000000=Q:=⟨_,rfl⟩
  rw[hR]at lr hrw hgp
  rw[hQ]at lq hq hgp hgl
  have kk:=hK.trans k2
  have hp2:=hP.keep kk
  have app:∀(h3:T O) (n3:Nat) (W3:List Nat) (g:Str),Keeps h2 n2 h3 n3→Zaa nB W3=[]→g=(if Q=0 then decN m else Zim R 18)→
    ∃v' h' w',Zb0 ⟨h3.set n3 (.cells [.str g] 9 true),n3+1,W3⟩ 1 16 9 v (.slice n3 0 1 (some 1) 1)=some (v',⟨h',n3+1+1,w'⟩)∧Zaa nB w'=[]∧Keeps hB nB h' (n3+1+1)∧(Q≠0→Wn h' (n3+1+1) q Q)∧Own 1 9 nB h' (n3+1+1) v' (Zt2 (gs++[g]))∧(gs++[g])++grp Q=grp M:=by
   intro h3 n3 W3 g k3 hW3 hge
   have kk3:=kk.trans k3
   have nle:=kk3.le
   have ho3:=(ho.keep (k2.trans k3)).keep (kset Keeps.refl (.cells [.str g] 9 true))
   obtain⟨v',h',w',e1,e2,e3,e4,e5⟩:=Zbs (x:=[.str g]) (u:=.slice n3 0 1 (some 1) 1) (bytes:=16) (w:=W3) ho3 (by omega) (by decide) rfl (by simp[Zaz,St.row,slc]) (by simp[Zt2];omega)
   refine⟨v',h',w',e1,by rw[e2];exact hW3,(kk3.trans (kset Keeps.refl _)).then e3,fun hQ0=>?_,by simpa[Zt2]using e5,by rw[hge,←hg,hgp,Yxf];rfl⟩
   have hq3:=(hq.keep k3).keep (kset Keeps.refl (.cells [.str g] 9 true))
   refine Ypw hq3 hQ0 ho3 (fun j hj=>?_) (Yy6 _)
   rcases e4 j with h1|h1|h1
   ·exact .inl h1
   ·omega
   ·exact .inr h1
  have f18:((18:Int)-1)=((17:Nat):Int):=rfl
  by_cases hR0:R=0
  ·have hQ0:Q≠0:=by omega
   have lqp:0<(wds Q).length:=by rw[Zbq hQ0];simp
   have lqp':(0:Int)<((wds Q).length:Int):=by omega
   have hge:[48,48,48,48,48,48,48,48,48,48,48,48,48,48,48,48,48,48]=(if Q=0 then decN m else Zim R 18):=by rw[Yv4 hQ0,hR0];unfold Zim;rw[Zbk];rfl
   rw[hR0,Zbo]at lr
   simp[hf,a4,a5,a6,lq,lr,lqp,lqp']
   refine Zac (Zr3 (k:=17) (by decide)) ?_
   rintro _ h3 n3 k3 rfl
   obtain⟨v',h',w',e1,e2,e3,e4,e5,e6⟩:=app h3 n3 W _ k3 hW hge
   simp[hf,a4,a5,a6,lq,lr,lqp,lqp',Zbm,splice,e1]
   exact⟨Q,by omega,by omega,⟨e2,e3,q,v',_,by simp,by simp,lq,e4,e5,e6⟩⟩
  ·have hRw:wds R=[R]:=Zfd (by unfold B;omega) hR0
   obtain⟨i,o,c,e,wr,p1,p2,p3,p4⟩:=hrw.at (Za9 (l:=wds R) (j:=0) (n:=R) (by rw[hRw];rfl))
   rw[hRw]at lr
   have lr:Zo1 rw0=some 1:=lr
   have hRd:=Zg8 hR0
   rw[Yxc]at p4
   by_cases hQ0:Q=0
   ·have hge:decN R=(if Q=0 then decN m else Zim R 18):=by rw[Yv6 hQ0];congr 1;omega
    have lqz:(wds Q).length=0:=by rw[hQ0,Zbo];rfl
    rw[lqz]at lq
    simp[hf,a4,a5,a6,lq,lr,p1,p3,p4]
    refine Zac (Ykn (x:=R) (by omega) hp2) ?_
    rintro _ h3 n3 k3 rfl
    obtain⟨v',h',w',e1,e2,e3,e4,e5,e6⟩:=app h3 n3 W _ k3 hW hge
    simp[hf,a4,a5,a6,lq,lr,Zbm,splice,e1]
    exact⟨Q,by omega,by omega,⟨e2,e3,q,v',_,by simp,by simp,by rw[lqz];exact lq,e4,e5,e6⟩⟩
   ·have lqp:0<(wds Q).length:=by rw[Zbq hQ0];simp
    have lqp':(0:Int)<((wds Q).length:Int):=by omega
    have hR18:(Zc9 R).length≤18:=Za3.1 (by omega)
    have hge:List.replicate (18-(decN R).length) 48++decN R=(if Q=0 then decN m else Zim R 18):=by rw[Yv4 hQ0,hRd];rfl
    have hs:(18:Int)-((decN R).length:Int)=((18-(decN R).length:Nat):Int):=by rw[hRd];omega
    have hln:¬(9223372036854775807:Int)<(((List.replicate (18-(decN R).length) (48:UInt8)).length+(decN R).length:Nat):Int):=by rw[List.length_replicate,hRd];omega
    simp[hf,a4,a5,a6,lq,lr,lqp,lqp',p1,p3,p4]
    refine Zac (Ykn (x:=R) (by omega) hp2) ?_
    rintro _ h3 n3 k3 rfl
    generalize decN R=S at*
    simp(disch:=omega) [hf,a4,a5,a6,lq,lr,lqp,lqp',hs]
    refine Zac (Zr3 (k:=18-S.length) (by omega)) ?_
    rintro _ h4 n4 k4 rfl
    obtain⟨v',h',w',e1,e2,e3,e4,e5,e6⟩:=app h4 n4 W _ (k3.trans k4) hW hge
    generalize List.replicate (18-S.length) (48:UInt8)=Z at*
    have hmx:IntKind.max .i64=9223372036854775807:=rfl
    have hln2:¬(9223372036854775807:Int)<(Z.length:Int)+(S.length:Int):=by omega
    simp[hf,a4,a5,a6,lq,lr,lqp,lqp',Zbm,hmx,hln,hln2,splice,e1]
    exact⟨Q,by omega,by omega,⟨e2,e3,q,v',_,by simp,by simp,lq,e4,e5,e6⟩⟩
structure SbI (hb:T O) (n0 b:Nat) (gs:List Str) (pre:Str) (k:Nat) (r:T V) (st:St):Prop where
 hk:k≤gs.length
 r11:r.get 11=some (.int .i64 ((k:Int)-1))
 w:Zaa n0 st.w=[]
 oth:∀i,i<b→st.h.get i=hb.get i
 bd:Bd st.h st.n b (pre++(gs.drop k).reverse.flatten)
def Yix(gs:List Str)(k:Nat):gs.reverse.flatten=(gs.drop k).reverse.flatten++(gs.take k).reverse.flatten:=by
 conv=>lhs;rw[←Yx2 k gs]
 rw[List.reverse_append,List.flatten_append]
def Ygj{j:Nat}{s:Str}(h:gs[j]?=some s):(Zt2 gs).flatten[j]?=some (.str s):=by
 have:∀gs:List Str,(Zt2 gs).flatten=gs.map V.str:=by
  intro gs
  induction gs with
  |nil=>rfl
  |cons a gs ih=>show V.str a::(Zt2 gs).flatten=_;rw[ih];rfl
 rw[this,Ywj,h];rfl
def Ygl{hb:T O}{nB n0 b k:Nat}{gs:List Str}{pre:Str}{v:V}{r r0:T V}{sT:St}(hn0:n0≤b)(hl:pre.length+gs.reverse.flatten.length<1000000000000)(hgl:gs.length<1000000000000)(hne:∀s∈gs,s≠[])(ho:Own 1 9 nB hb b v (Zt2 gs))(a6:r.get 6=some v)(a10:r.get 10=some (.ptr b 0))(hf:Fx [(11,11),(59,67)] r0 69 ⟨r,69,[]⟩)(s:SbI hb n0 b gs pre k r sT):
  Code A.C none A.lb170_0 ⟨r,69,[]⟩ sT (Rd [(11,11),(59,67)] r0 69 (SbI hb n0 b gs pre) k (fun e r st=>e=.exit 2∧SbI hb n0 b gs pre 0 r st)):=by
 obtain⟨H,n1,W⟩:=sT
 obtain⟨hk,a11,hW,hO,hbd⟩:=s
 simp only at hW hO hbd
 rw[Zah]
 cases k with
 |zero=>
  have c1:¬(0:Int)≤((0:Nat):Int)-1:=by omega
  have a11':r.get 11=some (.int .i64 (-1)):=a11
  simp[A.lb170_0,hf,a11']
  exact⟨hk,by simp[a11'],hW,hO,hbd⟩
 |succ j=>
  have e1:((j+1:Nat):Int)-1=(j:Int):=by omega
  rw[e1]at a11
  obtain⟨g,hg⟩:∃g,gs[j]?=some g:=⟨_,Yv9 (by omega)⟩
  have hsg:=Ygj hg
  have lv:=ho.len
  have lg:(Zt2 gs).length=gs.length:=by simp[Zt2]
  rw[lg]at lv
  have hjl:(j:Int)<(gs.length:Int):=by omega
  rcases ho with⟨_,⟨h1,_⟩|⟨i,rfl,h2,h3,h4⟩⟩
  ·exfalso
   have:gs=[]:=by simpa[Zt2]using h1
   subst this;simp at hk
  ·have hrow:=(hO i h3).trans h4
   have hdc:(gs.drop j).reverse.flatten=(gs.drop (j+1)).reverse.flatten++g:=by
    have:gs.drop j=g::gs.drop (j+1):=by
     rw[Yyn (by omega)]
     congr 1
     rw[Yv9 (by omega)]at hg
     simpa using hg
    rw[this,List.reverse_cons,List.flatten_append];simp
   have hcut:=congrArg List.length (Yix gs j)
   rw[hdc,Ywl,Ywl]at hcut
   simp[A.lb170_0,hf,a6,a10,a11,lv,hrow,hsg,hjl,lg]
   refine Zek (Ya0 hn0 hbd (hne g (Yv7 hg)) (by rw[Ywl];omega)) ?_
   rintro _ ⟨H2,n2,W2⟩ ⟨hn,hW2,hO2,hb2⟩
   simp only at hn hW2 hO2 hb2
   subst hn
   simp(disch:=first|(simp;done)|omega|(simp only[Zaf,Zag,Yv8];omega)|rfl) [hf,a11]
   refine⟨j,by omega,by omega,by simp,by rw[hW2,hW],fun i hi=>(hO2 i hi).trans (hO i hi),?_⟩
   rw[hdc,←Yxf];exact hb2
def Ybi{hb:T O}{n0:Nat}{pre:Str}(hn0:n0≤b)(hl:pre.length+gs.reverse.flatten.length<1000000000000)(hgl:gs.length<1000000000000)(hne:∀s∈gs,s≠[])(hnn:pre++gs.reverse.flatten≠[])(ho:Own 1 9 nB hb b v (Zt2 gs))(a6:r.get 6=some v)(a10:r.get 10=some (.ptr b 0))
  (hW:Zaa n0 sT.w=[]) (hO:∀i,i<b→sT.h.get i=hb.get i) (hbd:Bd sT.h sT.n b pre):
  Code A.C none A.ta170_0 ⟨r,69,[]⟩ sT (fun e fr st=>e=.ret∧∃r',fr=⟨r',69,[]⟩∧r'.get 2=some (.str (pre++gs.reverse.flatten))∧Zaa n0 st.w=[]∧(∀i,i<b→st.h.get i=hb.get i)∧b≤st.n):=by
 obtain⟨H,n1,W⟩:=sT
 simp only at hW hO hbd
 rw[Zah]
 have lv:=ho.len
 rw[show (Zt2 gs).length=gs.length by simp[Zt2]]at lv
 simp(disch:=omega) [A.ta170_0,a6,lv]
 refine Zai [(11,11),(59,67)] (fun e r st=>e=.exit 2∧SbI hb n0 b gs pre 0 r st) (SbI hb n0 b gs pre) gs.length ?_ ?_ ?_
 ·exact⟨Yv5 _,by simp,hW,hO,by simpa using hbd⟩
 ·intro k r' st' hr hf J
  exact Ygl hn0 hl hgl hne ho (by rw[hr 6 (by decide)];simp[a6]) (by rw[hr 10 (by decide)];simp[a10]) hf J
 ·rintro e r' ⟨H2,n2,W2⟩ hr ⟨rfl,hk,_,hW2,hO2,hb2⟩
  simp only at hW2 hO2 hb2
  rw[Yyv]at hb2
  have hb3:=hb2.1
  have a10':r'.get 10=some (.ptr b 0):=by rw[hr 10 (by decide)];simp[a10]
  simp[a10']
  refine Zek (Yo2 hn0 hb2 hnn (by rw[Ywl];omega)) ?_
  rintro _ ⟨H3,n3,W3⟩ ⟨rfl,hn,hW3,hO3⟩
  simp only at hn hW3 hO3
  subst hn
  simp[]
  exact⟨by rw[hW3,hW2],fun i hi=>(hO3 i hi).trans (hO2 i hi),by omega⟩
def Zj4{x:V}{z:Int}{h:T O}{N:Nat}(hx:In h N x z)(hP:P10 h N)(hl:(Zc9 z.natAbs).length<100000000000):Fn A.C 170 [x] h N (fun v h' N'=>v=.str (decI z)):=by
 intro w
 rw[Zab,A.k170 (by simp)]
 rcases id hx with⟨rfl,h1,h2⟩|⟨i0,o0,l0,c0,rfl,hw0,hz0⟩
 ·simp[A.b170,Zak,slc,splice,Zad]
  refine Zac (Ynt h1 h2 (hP.keep (kset Keeps.refl _))) ?_
  rintro _ h3 n3 k3 rfl
  simp[Ret]
  exact(kset Keeps.refl _).trans k3
 ·simp[A.b170,Zak,slc,splice,Zad]
  refine Zac (Ze2 (hx.keep (kset Keeps.refl (.cells [.int .i64 (sgn z),.slice i0 o0 l0 c0 1] 109 true)))) ?_
  rintro _ h1 n1 k1 ⟨u,rfl,hu⟩
  obtain⟨M,hM⟩:∃M,z.natAbs=M:=⟨_,rfl⟩
  rw[hM]at hu hl
  have hM0:M≠0:=by omega
  have lu:=hu.len
  rw[Zaf]at lu
  have kN:=(kset (Keeps.refl (h:=h) (n:=N)) (.cells [.int .i64 (sgn z),.slice i0 o0 l0 c0 1] 109 true)).trans k1
  have kT:=kset (Keeps.refl (h:=h1) (n:=n1)) (.cells [.int .u64 1000000000000000000] 205 true)
  have hT:Wn (h1.set n1 (.cells [.int .u64 1000000000000000000] 205 true)) (n1+1) (.slice n1 0 1 (some 1) 1) 1000000000000000000:=by
   unfold Wn
   rw[Zfd (by decide) (by decide)]
   exact Sl.row (e:=205) (rw:=true) (L:=1) (by omega) (by simp[dg]) (by simp) (by simp)
  simp[Zak,slc,splice]
  generalize hhB:h1.set n1 (.cells [.int .u64 1000000000000000000] 205 true)=hB at*
  have hPB:=(hP.keep kN).keep kT
  refine Zai [(4,4),(6,9),(24,53)] (fun e r st=>e=.exit 0∧StI hB (n1+1) M 0 r st) (fun k r st=>k≤M∧StI hB (n1+1) M k r st) M ?_ ?_ ?_
  ·exact⟨Yv5 _,by simp[Zaa],Keeps.refl,u,.nilslice,[],by simp,by simp,lu,fun _=>hu.keep kT,Own.nil,rfl⟩
  ·rintro m r st hr hf ⟨hm,J⟩
   exact Ygm hPB hl hm hT (by rw[hr 5 (by decide)];simp) hf J
  ·rintro e r ⟨H,n2,W⟩ hr ⟨rfl,hW,hK,u2,v,gs,a4,a6,_,_,ho,hg⟩
   rw[Zmm,Yyb]at hg
   subst hg
   simp only at hW hK ho
   have nle:=hK.le
   have kle:=kN.le
   have a3:r.get 3=some (.bool (decide (z<0))):=by rw[hr 3 (by decide)];simp
   have htx:=Yn0 hM0
   have hgl:(grp M).length<1000000000000:=Yww Yea (by omega)
   have hdl:(decN M).length<100000000000:=by rw[Zg8 hM0];exact hl
   have hfr:Bd (H.set n2 (.cells [.nilptr,.nilslice] 224 true)) (n2+1) n2 []:=⟨Yxu _,.nilptr,.nilslice,by rw[T.get_set,Yv6 rfl],.inl rfl,.inl ⟨rfl,rfl⟩⟩
   by_cases hz:z<0
   ·have hde:decI z=[45]++(grp M).reverse.flatten:=by unfold decI;rw[Yv6 hz,hM,htx];rfl
    simp[a3,hz]
    refine Zek (Ya0 (n0:=n1+1) nle hfr (t:=[45]) (by decide) (by decide)) ?_
    rintro _ ⟨H2,n3,W2⟩ ⟨hn,hW2,hO2,hb2⟩
    simp only at hn hW2 hO2 hb2
    subst hn
    simp[]
    refine Zbd (Ybi (nB:=n1+1) (n0:=n1+1) (b:=n2) (hb:=H) (gs:=grp M) (pre:=[45]) (v:=v) nle (by rw[htx];simp;omega) hgl (fun s hs=>Ykl hs) (by simp) ho (by simp[a6]) (by simp) (by rw[hW2,hW]) (fun i hi=>by rw[hO2 i hi,T.get_set,Yv4 (by omega)]) hb2) ?_
    rintro e fr ⟨H6,n6,W6⟩ ⟨rfl,r6,rfl,g2,g3,g4,g5⟩
    simp only at g3 g4 g5
    have hW6:=Zf5 (show N≤n1+1 by omega) g3
    simp[g2,Ret,hW6,hde]
    exact⟨by omega,fun i hi=>by rw[g4 i (by omega),hK.get i (by omega),←hhB,T.get_set,Yv4 (by omega),kN.get i hi]⟩
   ·have hde:decI z=[]++(grp M).reverse.flatten:=by unfold decI;rw[Yv4 hz,hM,htx];rfl
    simp[a3,hz]
    refine Zbd (Ybi (nB:=n1+1) (n0:=n1+1) (b:=n2) (hb:=H) (gs:=grp M) (pre:=[]) (v:=v) nle (by rw[htx];simp;omega) hgl (fun s hs=>Ykl hs) (by rw[List.nil_append,htx];exact Zjh M) ho (by simp[a6]) (by simp) hW (fun i hi=>by rw[T.get_set,Yv4 (by omega)]) hfr) ?_
    rintro e fr ⟨H6,n6,W6⟩ ⟨rfl,r6,rfl,g2,g3,g4,g5⟩
    simp only at g3 g4 g5
    have hW6:=Zf5 (show N≤n1+1 by omega) g3
    simp[g2,Ret,hW6,hde]
    exact⟨by omega,fun i hi=>by rw[g4 i (by omega),hK.get i (by omega),←hhB,T.get_set,Yv4 (by omega),kN.get i hi]⟩
end Go.Mx
