/-
  prefixes, strings.Cut.
-/
import Derived.Test.YtlbophlgohokkaaGreatDoorNbC
set_option linter.all false
namespace Go.Mx
open Go Go.Proofs
variable {s:a_}
set_option maxRecDepth 1000000
def A.b282:aq:=sr [⟨(some 4),.aY (.const (.bool false)),none⟩]
 (sr [mv 5 0,⟨(some 6),.len 0 (.tmp 5),none⟩,mv 7 1,⟨(some 8),.len 0 (.tmp 7),none⟩,bi 9 .geq 6 8,mv 10 9,mg 11 0 10,mg 12 1 10,⟨(some 13),.len 0 (.tmp 12),(some (10,true))⟩,⟨(some 14),.az (.tmp 11) none (some (.tmp 13)),(some (10,true))⟩,mg 15 1 10,⟨(some 16),.bin .eql (.aI .str) false (.tmp 14) (.tmp 15),(some (10,true))⟩,pf 17 10 16,mv 4 17]
 (.ret))
theorem A.c282:A.F 282=some ⟨18,[.tmp 4],A.b282⟩:=by kernel_rfl
def A.k282:=@A.kk 282 _ _ _ A.c282 rfl
def A.b212:aq:=sr [⟨(some 4),.aY (.const (.str [])),none⟩,⟨(some 5),.aY (.const (.bool false)),none⟩]
 (sr [mv 6 0,mv 7 1,c2 8 257 6 7,xt 9 8 0,xt 10 8 1,mv 4 9,mv 5 10]
 (.ret))
theorem A.c212:A.F 212=some ⟨11,[.tmp 4,.tmp 5],A.b212⟩:=by kernel_rfl
def A.k212:=@A.kk 212 _ _ _ A.c212 rfl
def A.b257:aq:=sr [⟨(some 4),.aY (.const (.str [])),none⟩,⟨(some 5),.aY (.const (.bool false)),none⟩]
 (.seq (sr [mv 6 0,mv 7 1,c2 8 282 6 7,⟨(some 9),.un .not (.tmp 8),none⟩]
 (cd 9
 (sr [mv 10 0,mv 4 10,⟨(some 5),.aY (.const (.bool false)),none⟩]
 (.ret))
 (.skip)))
 (sr [mv 11 0,mv 12 1,⟨(some 13),.len 0 (.tmp 12),none⟩,⟨(some 14),.az (.tmp 11) (some (.tmp 13)) none,none⟩,mv 4 14,⟨(some 5),.aY (.const (.bool true)),none⟩]
 (.ret)))
theorem A.c257:A.F 257=some ⟨15,[.tmp 4,.tmp 5],A.b257⟩:=by kernel_rfl
def A.k257:=@A.kk 257 _ _ _ A.c257 rfl
def A.b240:aq:=sr [⟨(some 4),.aY (.const (.str [])),none⟩]
 (sr [mv 5 0,mv 6 1,c2 7 269 5 6,mv 4 7]
 (.ret))
theorem A.c240:A.F 240=some ⟨8,[.tmp 4],A.b240⟩:=by kernel_rfl
def A.k240:=@A.kk 240 _ _ _ A.c240 rfl
def A.b269:aq:=sr [⟨(some 4),.aY (.const (.str [])),none⟩]
 (.seq (sr [mv 5 0,mv 6 1,c2 7 282 5 6]
 (cd 7
 (sr [mv 8 0,mv 9 1,⟨(some 10),.len 0 (.tmp 9),none⟩,⟨(some 11),.az (.tmp 8) (some (.tmp 10)) none,none⟩,mv 4 11]
 (.ret))
 (.skip)))
 (sr [mv 12 0,mv 4 12]
 (.ret)))
theorem A.c269:A.F 269=some ⟨13,[.tmp 4],A.b269⟩:=by kernel_rfl
def A.k269:=@A.kk 269 _ _ _ A.c269 rfl
def A.b254:aq:=sr [⟨(some 4),.aY (.const (.bool false)),none⟩]
 (sr [mv 5 0,mv 6 1,c2 7 282 5 6,mv 4 7]
 (.ret))
theorem A.c254:A.F 254=some ⟨8,[.tmp 4],A.b254⟩:=by kernel_rfl
def A.k254:=@A.kk 254 _ _ _ A.c254 rfl
def A.b300:aq:=sr [mc 4 0]
 (sr [mv 5 0,mv 6 1,⟨(some 7),.ext .bE [(.tmp 5),(.tmp 6)],none⟩,mv 4 7]
 (.ret))
theorem A.c300:A.F 300=some ⟨8,[.tmp 4],A.b300⟩:=by kernel_rfl
def A.k300:=@A.kk 300 _ _ _ A.c300 rfl
def A.AP:aq:=.seq (sr [mv 57 8,mv 58 9,bi 59 .lss 57 58]
 (cd 59
 (.skip)
 (.exit 1)))
 (.block 2 (.seq (sr [mv 60 0,mv 61 8,⟨(some 62),.aQ (.tmp 60) (.tmp 61),none⟩,mv 63 6,⟨(some 64),.bin .neq (.aI .int) false (.tmp 62) (.tmp 63),none⟩]
 (cd 64
 (sr [mv 65 0,mv 66 8,bc 67 .add 66 1,mv 68 9,⟨(some 69),.az (.tmp 65) (some (.tmp 67)) (some (.tmp 68)),none⟩,mv 70 6,c2 71 300 69 70,mv 11 71]
 (.seq (sr [mv 72 11,bc 73 .lss 72 0]
 (cd 73
 (sr [⟨(some 4),.aY (.const (.int .i64 (-1))),none⟩]
 (.ret))
 (.skip)))
 (.aM [mv 74 8,mv 75 11,bc 76 .add 75 1,bi 77 .add 74 76,mv 8 77])))
 (.skip)))
 (.seq (sr [mv 78 0,mv 79 8,bc 80 .add 79 1,⟨(some 81),.aQ (.tmp 78) (.tmp 80),none⟩,mv 82 7,⟨(some 83),.bin .eql (.aI .int) false (.tmp 81) (.tmp 82),none⟩,mv 84 83,mg 85 0 84,mg 86 8 84,mg 87 8 84,mg 88 5 84,⟨(some 89),.bin .add (.node []) false (.tmp 87) (.tmp 88),(some (84,true))⟩,⟨(some 90),.az (.tmp 85) (some (.tmp 86)) (some (.tmp 89)),(some (84,true))⟩,mg 91 1 84,⟨(some 92),.bin .eql (.aI .str) false (.tmp 90) (.tmp 91),(some (84,true))⟩,pf 93 84 92]
 (cd 93
 (sr [mv 94 8,mv 4 94]
 (.ret))
 (.skip)))
 (sr [mv 95 8,bc 96 .add 95 1,mv 8 96]
 (sr [mv 97 10,bc 98 .add 97 1,mv 10 98]
 (sr [mv 99 5,⟨(some 100),.load none (.const (.ptr 2 0)),none⟩,bi 101 .leq 99 100,mv 102 101,mg 103 10 102,mg 104 8 102,⟨(some 105),.call (.const (.func 302 [] [])) [(.tmp 104)],(some (102,true))⟩,⟨(some 106),.bin .gtr (.node []) false (.tmp 103) (.tmp 105),(some (102,true))⟩,pf 107 102 106]
 (cd 107
 (sr [mv 108 0,mv 109 8,⟨(some 110),.az (.tmp 108) (some (.tmp 109)) none,none⟩,mv 111 1,⟨(some 112),.stop,none⟩,mv 12 112]
 (.seq (sr [mv 113 12,bc 114 .geq 113 0]
 (cd 114
 (sr [mv 115 12,mv 116 8,bi 117 .add 115 116,mv 4 117]
 (.ret))
 (.skip)))
 (sr [⟨(some 4),.aY (.const (.int .i64 (-1))),none⟩]
 (.ret))))
 (sr [mv 118 5,⟨(some 119),.load none (.const (.ptr 2 0)),none⟩,bi 120 .gtr 118 119,mv 121 120,mg 122 10 121,mg 123 8 121,⟨(some 124),.bin .shr (.node []) false (.tmp 123) (.const (.int .u64 4)),(some (121,true))⟩,⟨(some 125),.bin .add (.node []) false (.const (.int .i64 4)) (.tmp 124),(some (121,true))⟩,⟨(some 126),.bin .geq (.node []) false (.tmp 122) (.tmp 125),(some (121,true))⟩,pf 127 121 126,mv 128 127,mg 129 8 128,mg 130 9 128,⟨(some 131),.bin .lss (.node []) false (.tmp 129) (.tmp 130),(some (128,true))⟩,pf 132 128 131]
 (cd 132
 (sr [mv 133 0,mv 134 8,⟨(some 135),.az (.tmp 133) (some (.tmp 134)) none,none⟩,mv 136 1,c2 137 303 135 136,mv 13 137]
 (.seq (sr [mv 138 13,bc 139 .lss 138 0]
 (cd 139
 (sr [⟨(some 4),.aY (.const (.int .i64 (-1))),none⟩]
 (.ret))
 (.skip)))
 (sr [mv 140 8,mv 141 13,bi 142 .add 140 141,mv 4 142]
 (.ret))))
 (.skip))))))))))
def A.b281:aq:=sr [mc 4 0]
 (sr [mv 14 1,⟨(some 15),.len 0 (.tmp 14),none⟩,mv 5 15]
 (.seq (.block 0 (sr [mv 17 5,ei 18 17 0,mv 19 18,mh 20 1 19,mh 21 0 19,⟨(some 22),.bin .eql (.aI .str) false (.tmp 20) (.tmp 21),(some (19,false))⟩,pt 23 19 22,mv 16 23]
 (cd 16
 (sr [mc 4 0]
 (.ret))
 (sr [mv 25 5,ei 26 25 1,mv 24 26]
 (cd 24
 (sr [mv 27 0,mv 28 1,⟨(some 29),.aQ (.tmp 28) (.const (.int .i64 0)),none⟩,c2 30 300 27 29,mv 4 30]
 (.ret))
 (sr [mv 32 5,mv 33 0,⟨(some 34),.len 0 (.tmp 33),none⟩,bi 35 .geq 32 34,mv 31 35]
 (cd 31
 (sr [⟨(some 4),.aY (.const (.int .i64 (-1))),none⟩]
 (.ret))
 (sr [mv 37 5,⟨(some 38),.load none (.const (.ptr 2 0)),none⟩,bi 39 .leq 37 38,mv 40 39,mg 41 0 40,⟨(some 42),.len 0 (.tmp 41),(some (40,true))⟩,⟨(some 43),.bin .leq (.node []) false (.tmp 42) (.const (.int .i64 64)),(some (40,true))⟩,pf 44 40 43,mv 36 44]
 (cd 36
 (sr [mv 45 0,mv 46 1,⟨(some 47),.stop,none⟩,mv 4 47]
 (.ret))
 (.skip))))))))))
 (sr [mv 48 1,⟨(some 49),.aQ (.tmp 48) (.const (.int .i64 0)),none⟩,mv 6 49]
 (sr [mv 50 1,⟨(some 51),.aQ (.tmp 50) (.const (.int .i64 1)),none⟩,mv 7 51]
 (sr [mc 8 0]
 (sr [mv 52 0,⟨(some 53),.len 0 (.tmp 52),none⟩,mv 54 5,bi 55 .sub 53 54,bc 56 .add 55 1,mv 9 56]
 (sr [mc 10 0]
 (.seq (.block 1 (.loop A.AP))
 (sr [⟨(some 4),.aY (.const (.int .i64 (-1))),none⟩]
 (.ret))))))))))
theorem A.c281:A.F 281=some ⟨143,[.tmp 4],A.b281⟩:=by kernel_rfl
def A.k281:=@A.kk 281 _ _ _ A.c281 rfl
def A.b253:aq:=sr [⟨(some 4),.aY (.const (.str [])),none⟩,⟨(some 5),.aY (.const (.str [])),none⟩,⟨(some 6),.aY (.const (.bool false)),none⟩]
 (.seq (sr [mv 8 0,mv 9 1,c2 10 281 8 9,mv 7 10]
 (sr [mv 11 7,bc 12 .geq 11 0]
 (cd 12
 (.seq (.aV [mv 13 0,mv 14 7,⟨(some 15),.az (.tmp 13) none (some (.tmp 14)),none⟩,mv 16 0,mv 17 7,mv 18 1,⟨(some 19),.len 0 (.tmp 18),none⟩,bi 20 .add 17 19,⟨(some 21),.az (.tmp 16) (some (.tmp 20)) none,none⟩,mv 4 15,mv 5 21,⟨(some 6),.aY (.const (.bool true)),none⟩] [0,0,3,0,0,0,32,112,248,7,1023,2047])
 (.ret))
 (.skip))))
 (sr [mv 22 0,mv 4 22,⟨(some 5),.aY (.const (.str [])),none⟩,⟨(some 6),.aY (.const (.bool false)),none⟩]
 (.ret)))
theorem A.c253:A.F 253=some ⟨23,[.tmp 4,.tmp 5,.tmp 6],A.b253⟩:=by kernel_rfl
def A.k253:=@A.kk 253 _ _ _ A.c253 rfl
def A.b210:aq:=sr [⟨(some 4),.aY (.const (.str [])),none⟩,⟨(some 5),.aY (.const (.str [])),none⟩,⟨(some 6),.aY (.const (.bool false)),none⟩]
 (sr [mv 7 0,mv 8 1,c2 9 253 7 8,xt 10 9 0,xt 11 9 1,xt 12 9 2,mv 4 10,mv 5 11,mv 6 12]
 (.ret))
theorem A.c210:A.F 210=some ⟨13,[.tmp 4,.tmp 5,.tmp 6],A.b210⟩:=by kernel_rfl
def A.k210:=@A.kk 210 _ _ _ A.c210 rfl
theorem J9{s:a_}{st:St}:A.C.call (.func 282 [] []) [.str s,.str [45]] st=some (.bool (cv s),st):=by
 apply Call.eq
 rw[aR,A.k282 (by simp)]
 cases s with
 |nil=>simp[A.b282,cv]
 |cons c s=>
  have e:(([c]:a_)==[45])=decide (c.toNat=45):=by
   rw[Bool.eq_iff_iff]
   simp only[beq_iff_eq,decide_eq_true_eq,gK,and_true]
   exact⟨fun h=>by rw[h];rfl,fun h=>UInt8.toNat_inj.1 h⟩
  have h1:(1:Int)<=(s.length:Int)+1:=by omega
  simp[A.b282,cv,ay,e,h1]
theorem Zsi{st:St}:A.C.call (.func 212 [] []) [.str s,.str [45]] st=some (.aZ [.str (bp s),.bool (cv s)],st):=by
 apply Call.eq
 rw[aR,A.k212 (by simp)]
 simp[A.b212]
 rw[A.k257 (by simp)]
 by_cases hn:cv s=true
 ·have h1:1<=s.length:=by cases s<;>simp[cv]at hn ⊢
  have gh:(1:Int)<=s.length:=by omega
  simp[A.b257,J9,hn,ay,gh,bp]
 ·simp[A.b257,J9,hn,bp]
theorem Zje{st:St}:A.C.call (.func 240 [] []) [.str s,.str [45]] st=some (.str (bp s),st):=by
 apply Call.eq
 rw[aR,A.k240 (by simp)]
 simp[A.b240]
 rw[A.k269 (by simp)]
 by_cases hn:cv s=true
 ·have h1:1<=s.length:=by cases s<;>simp[cv]at hn ⊢
  have gh:(1:Int)<=s.length:=by omega
  simp[A.b269,J9,hn,ay,gh,bp]
 ·simp[A.b269,J9,hn,bp]
theorem Zr5{st:St}:A.C.call (.func 254 [] []) [.str s,.str [45]] st=some (.bool (cv s),st):=by
 apply Call.eq
 rw[aR,A.k254 (by simp)]
 simp[A.b254,J9]
theorem Zr4{st:St}:A.C.call (.func 300 [] []) [.str s,.int .u8 47] st=some (.int .i64 (if ah s<s.length then (ah s:Int) else -1),st):=by
 apply Call.eq
 rw[aR,A.k300 (by simp)]
 have e:=Y8 s 0
 simp only[rT]at e
 simp[A.b300,D5,zL,e]
theorem Zv8{st:St}:A.C.call (.func 281 [] []) [.str s,.str [47]] st=some (.int .i64 (if ah s<s.length then (ah s:Int) else -1),st):=by
 apply Call.eq
 rw[aR,A.k281 (by simp)]
 by_cases hs:s=[47]
 ·subst hs
  simp[A.b281,ah]
 ·have e1:(([47]:a_)==s)=false:=by simp;exact fun h=>hs h.symm
  have e2:cB 47=47:=rfl
  simp[A.b281,Zr4,e1,e2]
theorem Yiu{st:St}(hl:s.length<4611686018427387904):A.C.call (.func 210 [] []) [.str s,.str [47]] st=some (.aZ [.str (s.take (ah s)),.str (s.drop (ah s+1)),.bool (decide (ah s<s.length))],st):=by
 apply Call.eq
 rw[aR,A.k210 (by simp)]
 simp[A.b210]
 rw[A.k253 (by simp)]
 have hle:=B3 s
 by_cases hs:ah s<s.length
 ·simp(disch:=first|(simp;done)|omega|(simp only[bl,bG,bh];omega)|rfl) [A.b253,Zv8,hs,ay]
  try omega
 ·have:s.take (ah s)=s:=eF (by omega)
  have h2:s.drop (ah s+1)=[]:=wU (by omega)
  simp(disch:=first|(simp;done)|omega|(simp only[bl,bG,bh];omega)|rfl) [-getElem?_pos,A.b253,Zv8,hs,this,h2]
variable {N i:Nat} {h:T O} {rw:Bool} {s:a_}
def A.b258:aq:=sr [⟨(some 4),.aY (.const (.str [])),none⟩]
 (.seq (sr [mv 7 0,⟨(some 8),.bin .eql (.aI .str) true (.tmp 7) (.const (.str [])),none⟩,mv 9 8,mh 10 1 9,⟨(some 11),.bin .eql (.aI .str) true (.tmp 10) (.const (.str [])),(some (9,false))⟩,pt 12 9 11]
 (cd 12
 (sr [mv 13 0,mv 4 13]
 (.ret))
 (.skip)))
 (.seq (sr [mv 14 1,⟨(some 15),.len 0 (.tmp 14),none⟩,ei 16 15 1,mv 17 16,mg 18 1 17,⟨(some 19),.aQ (.tmp 18) (.const (.int .i64 0)),(some (17,true))⟩,⟨(some 20),.bin .lss (.node []) false (.tmp 19) (.const (.int .u8 128)),(some (17,true))⟩,pf 21 17 20]
 (cd 21
 (.seq (.aV [mv 22 0,mv 23 1,⟨(some 24),.aQ (.tmp 23) (.const (.int .i64 0)),none⟩,c2 25 286 22 24,mv 26 1,⟨(some 27),.aQ (.tmp 26) (.const (.int .i64 0)),none⟩,c2 28 285 25 27,mv 4 28] [0,0,2,7,0,16,63,127])
 (.ret))
 (.skip)))
 (.seq (sr [mv 30 1,c1 31 287 30,mv 29 31,xt 32 29 0,xt 33 29 1,⟨(some 5),.alloc (l_ 0) 270,none⟩,⟨none,.store 256 (.tmp 5) (.tmp 32),none⟩,mv 6 33]
 (sr [mv 34 6]
 (cd 34
 (sr [mv 35 0,c2 36 289 35 5,c2 37 288 36 5,mv 4 37]
 (.ret))
 (.skip))))
 (sr [mv 38 0,mv 39 1,c2 40 291 38 39,mv 41 1,c2 42 290 40 41,mv 4 42]
 (.ret)))))
theorem A.c258:A.F 258=some ⟨43,[.tmp 4],A.b258⟩:=by kernel_rfl
def A.k258:=@A.kk 258 _ _ _ A.c258 rfl
def A.pq:aq:=.seq (sr [mv 6 4,mv 7 0,⟨(some 8),.len 0 (.tmp 7),none⟩,bi 9 .lss 6 8]
 (cd 9
 (.skip)
 (.exit 0)))
 (.seq (.block 1 (sr [mv 12 0,mv 13 4,⟨(some 14),.aQ (.tmp 12) (.tmp 13),none⟩,mv 5 14]
 (.seq (sr [mv 15 5,⟨(some 16),.bin .geq (.node []) false (.tmp 15) (.const (.int .u8 128)),none⟩]
 (cd 16
 (sr [lN 17 256 2,⟨none,.store 256 (.tmp 2) (.tmp 17),none⟩,⟨(some 3),.aY (.const (.bool false)),none⟩]
 (.ret))
 (.skip)))
 (.aM [mv 18 5,⟨(some 19),.dG 256 1 (.tmp 2) (.tmp 18),none⟩,⟨none,.store 1 (.tmp 19) (.const (.bool true)),none⟩]))))
 (.aM [mv 10 4,bc 11 .add 10 1,mv 4 11]))
def A.b287:aq:=sr [⟨(some 2),.alloc (l_ 0) 270,none⟩,⟨(some 3),.aY (.const (.bool false)),none⟩]
 (.seq (sr [mc 4 0]
 (.block 0 (.loop A.pq)))
 (sr [lN 20 256 2,⟨none,.store 256 (.tmp 2) (.tmp 20),none⟩,⟨(some 3),.aY (.const (.bool true)),none⟩]
 (.ret)))
theorem A.c287:A.F 287=some ⟨21,[.cell 2 (some 256),.tmp 3],A.b287⟩:=by kernel_rfl
def A.k287:=@A.kk 287 _ _ _ A.c287 rfl
def A.lD:aq:=.seq (sr [mv 5 0,⟨(some 6),.len 0 (.tmp 5),none⟩,bc 7 .gtr 6 0]
 (cd 7
 (.skip)
 (.exit 0)))
 (.block 1 (.seq (sr [mv 8 1,mv 9 0,⟨(some 10),.aQ (.tmp 9) (.const (.int .i64 0)),none⟩,c2 11 309 8 10,⟨(some 12),.un .not (.tmp 11),none⟩]
 (cd 12
 (.exit 0)
 (.skip)))
 (.aM [mv 13 0,⟨(some 14),.az (.tmp 13) (some (.const (.int .i64 1))) none,none⟩,mv 0 14])))
def A.b288:aq:=sr [⟨(some 4),.aY (.const (.str [])),none⟩]
 (.seq (.block 0 (.loop A.lD))
 (sr [mv 15 0,mv 4 15]
 (.ret)))
theorem A.c288:A.F 288=some ⟨16,[.tmp 4],A.b288⟩:=by kernel_rfl
def A.k288:=@A.kk 288 _ _ _ A.c288 rfl
def A.lE:aq:=.seq (sr [mv 5 0,⟨(some 6),.len 0 (.tmp 5),none⟩,bc 7 .gtr 6 0]
 (cd 7
 (.skip)
 (.exit 0)))
 (.block 1 (.seq (sr [mv 8 1,mv 9 0,mv 10 0,⟨(some 11),.len 0 (.tmp 10),none⟩,bc 12 .sub 11 1,⟨(some 13),.aQ (.tmp 9) (.tmp 12),none⟩,c2 14 309 8 13,⟨(some 15),.un .not (.tmp 14),none⟩]
 (cd 15
 (.exit 0)
 (.skip)))
 (.aM [mv 16 0,mv 17 0,⟨(some 18),.len 0 (.tmp 17),none⟩,bc 19 .sub 18 1,⟨(some 20),.az (.tmp 16) none (some (.tmp 19)),none⟩,mv 0 20])))
def A.b289:aq:=sr [⟨(some 4),.aY (.const (.str [])),none⟩]
 (.seq (.block 0 (.loop A.lE))
 (sr [mv 21 0,mv 4 21]
 (.ret)))
theorem A.c289:A.F 289=some ⟨22,[.tmp 4],A.b289⟩:=by kernel_rfl
def A.k289:=@A.kk 289 _ _ _ A.c289 rfl
def A.b309:aq:=sr [⟨(some 4),.aY (.const (.bool false)),none⟩]
 (sr [mv 5 0,mv 6 1,⟨(some 7),.fy (.tmp 5),none⟩,⟨(some 8),.dG 256 1 (.tmp 7) (.tmp 6),none⟩,ld 9 8,mv 4 9]
 (.ret))
theorem A.c309:A.F 309=some ⟨10,[.tmp 4],A.b309⟩:=by kernel_rfl
def A.k309:=@A.kk 309 _ _ _ A.c309 rfl
def A.b213:aq:=sr [⟨(some 2),.aY (.const (.bool false)),none⟩]
 (sr [mv 3 0,⟨(some 4),.bin .neq (.aI .str) true (.tmp 3) (.const (.str [])),none⟩,mv 5 4,mg 6 0 5,⟨(some 7),.call (.const (.func 258 [] [])) [(.tmp 6),(.const (.str [48,49,50,51,52,53,54,55,56,57]))],(some (5,true))⟩,⟨(some 8),.bin .eql (.aI .str) true (.tmp 7) (.const (.str [])),(some (5,true))⟩,pf 9 5 8,mv 10 9,mg 11 0 10,⟨(some 12),.aQ (.tmp 11) (.const (.int .i64 0)),(some (10,true))⟩,⟨(some 13),.bin .neq (.aI .int) true (.tmp 12) (.const (.int .u8 48)),(some (10,true))⟩,mg 14 13 10,mh 15 0 14,⟨(some 16),.bin .eql (.aI .str) true (.tmp 15) (.const (.str [48])),(some (14,false))⟩,⟨(some 17),.pick (.tmp 14) (.const (.bool true)) (.tmp 16),(some (10,true))⟩,pf 18 10 17,mv 2 18]
 (.ret))
theorem A.c213:A.F 213=some ⟨19,[.tmp 2],A.b213⟩:=by kernel_rfl
def A.k213:=@A.kk 213 _ _ _ A.c213 rfl
theorem Zx6:Fn A.C 287 [(.str [48,49,50,51,52,53,54,55,56,57])] h N (fun v _ _=>v=.aZ [.agg (l_ 10),.bool true]):=by
 intro w
 rw[aR,A.k287 (by simp)]
 simp[A.b287]
 refine bQ [(3,19)] (fun e r st=>e=.exit 0/\st.n=N+1/\ad N st.w=[]/\ab h N st.h (N+1)/\st.h.get N=some (.cells (l_ 10) 270 true)) (fun m r st=>st.n=N+1/\ad N st.w=[]/\ab h N st.h (N+1)/\∃k,m=10-k/\k<=10/\r.get 4=some (.int .i64 k)/\st.h.get N=some (.cells (l_ k) 270 true)) 10 ?_ ?_ ?_
 ·exact⟨rfl,rfl,(ab.refl.set (aS _)).up (by omega),0,by omega,by omega,by simp,by simp⟩
 ·rintro m r ⟨H,n1,W⟩ hr hf ⟨hn,hW,hK,k,rfl,hk,h4,ar⟩
  simp only at hn hW hK ar
  subst hn
  rw[bA]
  by_cases aD:k<10
  ·obtain⟨c,hc,hcu⟩:=Ygz aD
   unfold Rt at hc
   have a1:¬128<=cB c:=by omega
   have a2:cB c<256:=by omega
   have a3:0<=cB c:=by omega
   have a4:(cB c).toNat=48+k:=by omega
   have bm:(k:Int)<10:=by omega
   have hs:=Yhn aD
   have q1:=xj k
   simp(disch:=first|(simp;done)|omega|(simp only[bl,bG,bh];omega)|rfl) [-getElem?_pos,A.pq,hr,hf,h4,bm,hc,a1,a2,a3,a4,hs,ar,hW]
   exact⟨_,by omega,hK.set (aS N),k+1,rfl,by omega,by simp,rfl⟩
  ·have:k=10:=by omega
   subst this
   simp[A.pq,hr,hf,h4,ar,hW]
   exact hK
 ·rintro e r ⟨H,n1,W⟩ hr ⟨rfl,hn,hW,hK,ar⟩
  simp only at hn hW hK ar
  subst hn
  have q1:=xj 10
  simp[hr,aA,hW,ar,aU,aJ,xj,WR]
  exact hK.set (aS N)
theorem Zns{c:UInt8}{w:List Nat}{e:TypeId}(hr:h.get i=some (.cells (l_ 10) e rw)):A.C.call (.func 309 [] []) [.ptr i 0,.int .u8 (cB c)] ⟨h,N,w⟩=some (.bool (jh c),⟨h,N,w⟩):=by
 apply Call.eq
 rw[aR,A.k309 (by simp)]
 have hu:=Zzv c
 have e2:(l_ 10)[(cB c).toNat]?=some (.bool (jh c)):=by
  rw[Ge (by omega),Rr]
  congr 2
  rw[decide_eq_decide];omega
 simp(disch:=omega) [A.b309,hr,hu,e2]
theorem Yg1{k:Nat}{c:UInt8}(hl:s.length=k+1)(hc:s[k]?=some c):ct s=(ct (s.take k)&&jh c):=by
 unfold ct
 have:s=s.take k++[c]:=by
  conv=>lhs;rw[<-yD k s]
  rw[ke hc,wU (by omega)]
 conv=>lhs;rw[this]
 simp
theorem Yc3{s:a_}{c:UInt8}(hc:s[0]?=some c):ct s=(jh c&&ct (s.drop 1)):=by
 cases s with
 |nil=>simp at hc
 |cons d s=>simp at hc;subst hc;rfl
theorem Yg0{k:Nat}{c:UInt8}(hc:s[k]?=some c)(hd:jh c=false):ct s=false:=by
 unfold ct
 rw[List.all_eq_false]
 exact⟨c,du hc,by simp[hd]⟩
def Ka(s:a_)(v:V):Prop:=∃t:a_,v=.str t/\t.length<=s.length/\ct t=ct s/\(ct s=true->t=[])
theorem Zqv{e:TypeId}(ef:h.get i=some (.cells (l_ 10) e rw))(hl:s.length<4611686018427387904):Fn A.C 289 [.str s,.ptr i 0] h N (fun v _ _=>Ka s v):=by
 intro w
 rw[aR,A.k289 (by simp)]
 simp[A.b289]
 refine bQ [(0,0),(5,20)] (fun e r st=>e=.exit 0/\st=⟨h,N,[]⟩/\∃t:a_,r.get 0=some (.str t)/\t.length<=s.length/\ct t=ct s/\(ct s=true->t=[])) (fun m r st=>st=⟨h,N,[]⟩/\∃t:a_,m=t.length/\t.length<=s.length/\r.get 0=some (.str t)/\ct t=ct s) s.length ?_ ?_ ?_
 ·exact⟨rfl,s,rfl,by omega,by simp,rfl⟩
 ·rintro m r _ hr hf ⟨rfl,t,rfl,hle,h0,ht⟩
  rw[bA]
  by_cases hz:t.length=0
  ·have:t=[]:=qa hz
   subst this
   simp[A.lE,hf,h0,ht]
  ·obtain⟨k,hk⟩:∃k,t.length=k+1:=⟨t.length-1,by omega⟩
   obtain⟨c,hc⟩:=bV (l:=t) (k:=k) (by omega)
   have eQ:(t.length:Int)=k+1:=by omega
   have zb:(0:Int)<(k:Int)+1:=by omega
   have cK:(k:Int)+1-1=k:=by omega
   have x_:=fun w=>Zns (c:=c) (N:=N) (w:=w) ef
   by_cases hd:jh c=true
   ·simp(disch:=first|(simp;done)|omega|(simp only[bl,bG,bh];omega)|rfl) [-getElem?_pos,A.lE,hr,hf,h0,eQ,zb,cK,hc,x_,hd,ay]
    exact⟨k,by omega,t.take k,by simp;omega,by simp;omega,rfl,by rw[<-ht,Yg1 hk hc,hd];simp⟩
   ·have hd:jh c=false:=by simpa using hd
    simp(disch:=first|(simp;done)|omega|(simp only[bl,bG,bh];omega)|rfl) [-getElem?_pos,A.lE,hr,hf,h0,eQ,zb,cK,hc,x_,hd]
    have hq:=Yg0 hc hd
    rw[ht]at hq
    simp[hq,hle]
    rw[ht];exact hq
 ·rintro _ r _ hr ⟨rfl,rfl,t,h0,hle,ht,he⟩
  simp[h0,aA,Ka]
  exact⟨ab.refl,hle,ht,he⟩
theorem Zs2{e:TypeId}(ef:h.get i=some (.cells (l_ 10) e rw))(hl:s.length<4611686018427387904):Fn A.C 288 [.str s,.ptr i 0] h N (fun v _ _=>Ka s v):=by
 intro w
 rw[aR,A.k288 (by simp)]
 simp[A.b288]
 refine bQ [(0,0),(5,14)] (fun e r st=>e=.exit 0/\st=⟨h,N,[]⟩/\∃t:a_,r.get 0=some (.str t)/\t.length<=s.length/\ct t=ct s/\(ct s=true->t=[])) (fun m r st=>st=⟨h,N,[]⟩/\∃t:a_,m=t.length/\t.length<=s.length/\r.get 0=some (.str t)/\ct t=ct s) s.length ?_ ?_ ?_
 ·exact⟨rfl,s,rfl,by omega,by simp,rfl⟩
 ·rintro m r _ hr hf ⟨rfl,t,rfl,hle,h0,ht⟩
  rw[bA]
  by_cases hz:t.length=0
  ·have:t=[]:=qa hz
   subst this
   simp[A.lD,hf,h0,ht]
  ·cases t with
   |nil=>simp at hz
   |cons c t=>
    have zb:(0:Int)<(t.length:Int)+1:=by omega
    have x_:=fun w=>Zns (c:=c) (N:=N) (w:=w) ef
    have G7:=Yc3 (s:=c::t) (c:=c) rfl
    by_cases hd:jh c=true
    ·simp(disch:=first|(simp;done)|omega|(simp only[bl,bG,bh];omega)|rfl) [A.lD,hr,hf,h0,zb,x_,hd,ay]
     simp only[bh]at hle
     rw[hd]at G7
     exact⟨t.length,by omega,t,rfl,by omega,rfl,by rw[<-ht,G7];rfl⟩
    ·have hd:jh c=false:=by simpa using hd
     simp[A.lD,hr,hf,h0,zb,x_,hd]
     rw[hd]at G7
     rw[ht]at G7
     simp only[bh]at hle
     simp[G7,hle]
     rw[ht,G7];rfl
 ·rintro _ r _ hr ⟨rfl,rfl,t,h0,hle,ht,he⟩
  simp[h0,aA,Ka]
  exact⟨ab.refl,hle,ht,he⟩
theorem Zw4(hl:s.length<4611686018427387904):Fn A.C 258 [.str s,(.str [48,49,50,51,52,53,54,55,56,57])] h N (fun v _ _=>Ka s v):=by
 intro w
 rw[aR,A.k258 (by simp)]
 by_cases he:s=[]
 ·subst he
  simp[A.b258,aA]
  exact⟨ab.refl,[],rfl,aS _,rfl,fun _=>rfl⟩
 ·have e1:(s==[])=false:=by simp[he]
  have e2:s.isEmpty=false:=by simp[he]
  simp[A.b258,e1]
  refine ax Zx6 ?_
  rintro v h1 n1 k1 rfl
  have q1:=xj 10
  simp[]
  refine ax (Zqv (e:=270) (rw:=true) ?_ hl) ?_
  ·simp
  rintro v h2 n2 k2 ⟨t,rfl,hle,ht,hte⟩
  have sQ:h2.get n1=some (.cells (l_ 10) 270 true):=by
   rw[k2.get _ (by omega)]
   simp
  simp[]
  refine ax (Zs2 (e:=270) (rw:=true) sQ (by omega)) ?_
  rintro v h3 n3 k3 ⟨u,rfl,zaz,hu,hue⟩
  have kk:ab h N h3 n3:=(((k1.set k1.le).set k1.le).up (uW n1)).trans (k2.trans k3)
  simp[aA]
  exact⟨k1.le,kk,u,rfl,by omega,by rw[hu,ht],fun h=>hue (by rw[ht];exact h)⟩
theorem Ub{s:a_}{h:T O}{N:Nat}(hl:s.length<4611686018427387904):Fn A.C 213 [.str s] h N (fun v _ _=>v=.bool (gS s)):=by
 intro w
 rw[aR,A.k213 (by simp)]
 cases s with
 |nil=>simp[A.b213,aA,gS];exact ab.refl
 |cons c s=>
  simp[A.b213]
  refine ax (Zw4 hl) ?_
  rintro v h1 n1 k1 ⟨t,rfl,hle,ht,hte⟩
  have hd:gS (c::s)=(ct (c::s)&&(decide (cB c≠48)||decide (s=[]))):=by
   have:decide (c.toNat≠48)=decide (cB c≠48):=by unfold cB;rw[decide_eq_decide];omega
   simp only[gS,this];rfl
  by_cases ha:ct (c::s)=true
  ·have:=hte ha
   subst this
   by_cases h0:cB c=48
   ·have hc:c=48:=by unfold cB at h0;exact UInt8.toNat_inj.1 (by show c.toNat=48;omega)
    subst hc
    simp[hd,ha,h0,aA,k1]
    cases s<;>rfl
   ·simp[hd,ha,h0,aA,k1]
  ·have ha:ct (c::s)=false:=by simpa using ha
   rw[ha]at ht
   have e1:(t==[])=false:=by
    cases t with
    |nil=>cases ht
    |cons=>rfl
   have e2:t.isEmpty=false:=by
    cases t with
    |nil=>cases ht
    |cons=>rfl
   simp[hd,ha,e1,aA,k1]
def A.pr:aq:=sr [bi 50 .lss 49 48]
 (.seq (cd 50
 (.skip)
 (.exit 0))
 (.seq (.block 1 (sr [ia 51 1 47 49,ld 52 51,mv 8 52]
 (sr [mv 53 8,⟨(some 54),.bin .sub (.node []) false (.tmp 53) (.const (.int .u8 48)),none⟩,mv 8 54]
 (.seq (sr [mv 55 8,⟨(some 56),.bin .gtr (.node []) false (.tmp 55) (.const (.int .u8 9)),none⟩]
 (cd 56
 (sr [⟨(some 57),.eK 287 (.const (.int .i64 2)),none⟩,mc 2 0,mv 3 57]
 (.ret))
 (.skip)))
 (.aM [mv 58 6,bc 59 .mul 58 10,mv 60 8,⟨(some 61),.bb .i64 (.tmp 60),none⟩,bi 62 .add 59 61,mv 6 62])))))
 (.aM [bc 63 .add 49 1,mv 49 63])))
def A.b283:aq:=sr [mc 2 0,⟨(some 3),.aY (.const .aP),none⟩]
 (sr [mv 11 0,⟨(some 12),.len 0 (.tmp 11),none⟩,mv 4 12]
 (.seq (sr [⟨(some 13),.aY (.const (.bool false)),none⟩,mg 14 4 13,⟨(some 15),.bin .lss (.node []) false (.const (.int .i64 0)) (.tmp 14),(some (13,true))⟩,mg 16 15 13,mg 17 4 16,⟨(some 18),.bin .lss (.node []) false (.tmp 17) (.const (.int .i64 10)),(some (16,true))⟩,⟨(some 19),.pick (.tmp 16) (.tmp 18) (.const (.bool false)),(some (13,true))⟩,pf 20 13 19,mv 21 20,⟨(some 22),.aY (.const (.bool true)),(some (21,false))⟩,mg 23 4 22,⟨(some 24),.bin .lss (.node []) false (.const (.int .i64 0)) (.tmp 23),(some (22,true))⟩,mg 25 24 22,mg 26 4 25,⟨(some 27),.bin .lss (.node []) false (.tmp 26) (.const (.int .i64 19)),(some (25,true))⟩,⟨(some 28),.pick (.tmp 25) (.tmp 27) (.const (.bool false)),(some (22,true))⟩,⟨(some 29),.pick (.tmp 22) (.tmp 28) (.const (.bool false)),(some (21,false))⟩,pt 30 21 29]
 (cd 30
 (sr [mv 31 0,mv 5 31]
 (.seq (sr [mv 32 0,⟨(some 33),.aQ (.tmp 32) (.const (.int .i64 0)),none⟩,⟨(some 34),.bin .eql (.aI .int) true (.tmp 33) (.const (.int .u8 45)),none⟩,mv 35 34,mh 36 0 35,⟨(some 37),.aQ (.tmp 36) (.const (.int .i64 0)),(some (35,false))⟩,⟨(some 38),.bin .eql (.aI .int) true (.tmp 37) (.const (.int .u8 43)),(some (35,false))⟩,pt 39 35 38]
 (cd 39
 (sr [mv 40 0,⟨(some 41),.az (.tmp 40) (some (.const (.int .i64 1))) none,none⟩,mv 0 41]
 (sr [mv 42 0,⟨(some 43),.len 0 (.tmp 42),none⟩,bc 44 .lss 43 1]
 (cd 44
 (sr [⟨(some 45),.eK 287 (.const (.int .i64 2)),none⟩,mc 2 0,mv 3 45]
 (.ret))
 (.skip))))
 (.skip)))
 (sr [mc 6 0]
 (.seq (sr [mv 46 0,⟨(some 47),.fN 5 (.tmp 46),none⟩,ln 48 47,mc 49 0]
 (.block 0 (.loop A.pr)))
 (.seq (sr [mv 64 5,⟨(some 65),.aQ (.tmp 64) (.const (.int .i64 0)),none⟩,⟨(some 66),.bin .eql (.aI .int) true (.tmp 65) (.const (.int .u8 45)),none⟩]
 (cd 66
 (.aM [mv 67 6,⟨(some 68),.un .neg (.tmp 67),none⟩,mv 6 68])
 (.skip)))
 (sr [mv 69 6,mv 2 69,⟨(some 3),.aY (.const .aP),none⟩]
 (.ret)))))))
 (.skip)))
 (sr [mv 71 0,⟨(some 72),.call (.const (.func 304 [] [])) [(.tmp 71),(.const (.int .i64 10)),(.const (.int .i64 0))],none⟩,mv 70 72,xt 73 70 0,xt 74 70 1,mv 9 73,mv 10 74]
 (sr [mv 75 9,mv 76 10,mv 2 75,mv 3 76]
 (.ret)))))
theorem A.c283:A.F 283=some ⟨77,[.tmp 2,.tmp 3],A.b283⟩:=by kernel_rfl
def A.k283:=@A.kk 283 _ _ _ A.c283 rfl
def A.b255:aq:=sr [mc 2 0,⟨(some 3),.aY (.const .aP),none⟩]
 (sr [mv 7 0,c1 8 283 7,mv 6 8,xt 9 6 0,xt 10 6 1,mv 4 9,mv 5 10]
 (.seq (sr [mv 11 5,⟨(some 12),.bin .neq (.aI .iface) true (.tmp 11) (.const .aP),none⟩]
 (cd 12
 (sr [mv 13 4,mv 14 0,mv 15 5,⟨(some 16),.call (.const (.func 284 [] [])) [(.const (.str [65,116,111,105])),(.tmp 14),(.const (.int .i64 0)),(.const (.int .i64 0)),(.tmp 15)],none⟩,mv 2 13,mv 3 16]
 (.ret))
 (.skip)))
 (sr [mv 17 4,mv 2 17,⟨(some 3),.aY (.const .aP),none⟩]
 (.ret))))
theorem A.c255:A.F 255=some ⟨18,[.tmp 2,.tmp 3],A.b255⟩:=by kernel_rfl
def A.k255:=@A.kk 255 _ _ _ A.c255 rfl
theorem Ygi{s:a_}{h:T O}{N:Nat}(hd:ct s=true)(h1:1<=s.length)(h2:s.length<=18):Fn A.C 283 [.str s] h N (fun v _ _=>v=.aZ [.int .i64 (aB s:Nat),.aP]):=by
 intro w
 obtain⟨c,hc⟩:=bV (l:=s) (k:=0) (by omega)
 have mV:=HW hd hc
 have a1:¬cB c=45:=by omega
 have a2:¬cB c=43:=by omega
 have a3:(0:Int)<(s.length:Int):=by omega
 have a5:(s.length:Int)<19:=by omega
 have eM:0<s.length:=by omega
 have bJ:s≠[]:=fun h=>by rw[h]at h1;simp at h1
 have nf:s.head?=some c:=by cases s with
  |nil=>simp at hc
  |cons=>simpa using hc
 rw[aR,A.k283 (by simp)]
 by_cases a4:(s.length:Int)<10
 all_goals
  simp(disch:=first|(simp;done)|omega|(simp only[bl,bG,bh];omega)|rfl) [-getElem?_pos,A.b283,a5,eM,hc,a1,a2]
  refine bQ [(2,3),(6,6),(8,8),(49,63)] (fun e r st=>st.n=N+1/\ad N st.w=[]/\ab h N st.h (N+1)/\e=.exit 0/\r.get 6=some (.int .i64 (aB s:Nat))) (fun m r st=>st.n=N+1/\ad N st.w=[]/\ab h N st.h (N+1)/\st.h.get N=some (.cells (D9 s) 5 true)/\∃k,m=s.length-k/\k<=s.length/\r.get 49=some (.int .i64 k)/\r.get 6=some (.int .i64 (aB (s.take k):Nat))) s.length ?_ ?_ ?_
  ·exact⟨rfl,rfl,(ab.refl.set (aS _)).up (by omega),by simp,0,by omega,by omega,by simp,by simp[aB]⟩
  ·rintro m r ⟨H,n1,W⟩ hr hf ⟨hn,hW,hK,ar,k,rfl,hk,wx,h6⟩
   simp only at hn hW hK ar
   subst hn
   rw[bA]
   by_cases aD:k<s.length
   ·obtain⟨c,hc⟩:=bV aD
    have qH:=HW hd hc
    have hb:=Zza hc
    have hv:=Ru hc
    have US:=LS hd k hk
    have oW:=LU (a:=k) (b:=17) (by omega)
    have b1:¬9<cB c-48:=by omega
    have b2:bn .u8 (cB c-48)=cB c-48:=yV (by omega) (by omega)
    have b3:((aB (s.take (k+1)):Nat):Int)=(aB (s.take k):Nat)*10+(cB c-48):=by
     rw[hv];unfold cB at*;omega
    have b4:((aB (s.take k):Nat):Int)<100000000000000000:=by
     have:(10:Nat)^17=100000000000000000:=by decide
     omega
    generalize hy:aB (s.take (k+1))=y at*
    generalize aB (s.take k)=x at*
    simp(disch:=first|(simp;done)|omega|(simp only[bl,bG,bh];omega)|rfl) [A.pr,hr,hf,wx,h6,aD,ar,hb,b1,b2,hW]
    exact⟨_,by omega,hK,k+1,rfl,by omega,by simp,by rw[hy,b3]⟩
   ·have:k=s.length:=by omega
    subst this
    simp[A.pr,hr,hf,wx,hW]
    rw[vK]at h6
    exact⟨hK,h6⟩
  ·rintro _ r ⟨H,n1,W⟩ hr ⟨hn,hW,hK,rfl,h6⟩
   simp only at hn hW hK
   subst hn
   simp[hr,aA,hW,hK,h6,hc,a1]
theorem Ymk{s:a_}{h:T O}{N:Nat}(hd:ct s=true)(h1:1<=s.length)(h2:s.length<=18):Fn A.C 255 [.str s] h N (fun v _ _=>v=.aZ [.int .i64 (aB s:Nat),.aP]):=by
 intro w
 rw[aR,A.k255 (by simp)]
 simp[A.b255]
 refine ax (Ygi hd h1 h2) ?_
 rintro v h1 n1 k1 rfl
 simp[dJ,aA,k1]
end Go.Mx
