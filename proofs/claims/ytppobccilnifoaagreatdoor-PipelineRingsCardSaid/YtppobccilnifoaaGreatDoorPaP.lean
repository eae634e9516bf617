/-
  prefixes, strings.Cut.
-/
import Derived.Test.YtppobccilnifoaaGreatDoorMxGr3
set_option linter.all false
namespace Go.Mx
open Go Go.Proofs
set_option maxRecDepth 1000000
def A.b223:MCode:=.seq (.reg [⟨(some 4),.mov (.const (.bool false)),none⟩])
 (.seq (.reg [mv 5 0,⟨(some 6),.len 0 (.tmp 5),none⟩,mv 7 1,⟨(some 8),.len 0 (.tmp 7),none⟩,bi 9 .geq 6 8,mv 10 9,⟨(some 11),.mov (.tmp 0),(some (10,true))⟩,⟨(some 12),.mov (.tmp 1),(some (10,true))⟩,⟨(some 13),.len 0 (.tmp 12),(some (10,true))⟩,⟨(some 14),.sliceStr (.tmp 11) none (some (.tmp 13)),(some (10,true))⟩,⟨(some 15),.mov (.tmp 1),(some (10,true))⟩,⟨(some 16),.bin .eql (.prim .str) false (.tmp 14) (.tmp 15),(some (10,true))⟩,⟨(some 17),.pick (.tmp 10) (.tmp 16) (.const (.bool false)),none⟩,mv 4 17])
 (.ret))
theorem A.c223:cFunc Tryz.prog 223=some ⟨18,[.tmp 4],A.b223⟩:=by kernel_rfl
def A.k223{K Q f c args st}:=@A.kk 223 _ _ _ A.c223 rfl K Q f c args st
def A.b146:MCode:=.seq (.reg [⟨(some 4),.mov (.const (.str [])),none⟩,⟨(some 5),.mov (.const (.bool false)),none⟩])
 (.seq (.reg [mv 6 0,mv 7 1,⟨(some 8),.call (.const (.func 183 [] [])) [(.tmp 6),(.tmp 7)],none⟩,xt 9 8 0,xt 10 8 1,mv 4 9,mv 5 10])
 (.ret))
theorem A.c146:cFunc Tryz.prog 146=some ⟨11,[.tmp 4,.tmp 5],A.b146⟩:=by kernel_rfl
def A.k146{K Q f c args st}:=@A.kk 146 _ _ _ A.c146 rfl K Q f c args st
def A.b183:MCode:=.seq (.reg [⟨(some 4),.mov (.const (.str [])),none⟩,⟨(some 5),.mov (.const (.bool false)),none⟩])
 (.seq (.seq (.reg [mv 6 0,mv 7 1,⟨(some 8),.call (.const (.func 223 [] [])) [(.tmp 6),(.tmp 7)],none⟩,⟨(some 9),.un .not (.tmp 8),none⟩])
 (.cond (.tmp 9)
 (.seq (.reg [mv 10 0,mv 4 10,⟨(some 5),.mov (.const (.bool false)),none⟩])
 (.ret))
 (.skip)))
 (.seq (.reg [mv 11 0,mv 12 1,⟨(some 13),.len 0 (.tmp 12),none⟩,⟨(some 14),.sliceStr (.tmp 11) (some (.tmp 13)) none,none⟩,mv 4 14,⟨(some 5),.mov (.const (.bool true)),none⟩])
 (.ret)))
theorem A.c183:cFunc Tryz.prog 183=some ⟨15,[.tmp 4,.tmp 5],A.b183⟩:=by kernel_rfl
def A.k183{K Q f c args st}:=@A.kk 183 _ _ _ A.c183 rfl K Q f c args st
def A.b190:MCode:=.seq (.reg [⟨(some 4),.mov (.const (.str [])),none⟩])
 (.seq (.reg [mv 5 0,mv 6 1,⟨(some 7),.call (.const (.func 232 [] [])) [(.tmp 5),(.tmp 6)],none⟩,mv 4 7])
 (.ret))
theorem A.c190:cFunc Tryz.prog 190=some ⟨8,[.tmp 4],A.b190⟩:=by kernel_rfl
def A.k190{K Q f c args st}:=@A.kk 190 _ _ _ A.c190 rfl K Q f c args st
def A.b232:MCode:=.seq (.reg [⟨(some 4),.mov (.const (.str [])),none⟩])
 (.seq (.seq (.reg [mv 5 0,mv 6 1,⟨(some 7),.call (.const (.func 223 [] [])) [(.tmp 5),(.tmp 6)],none⟩])
 (.cond (.tmp 7)
 (.seq (.reg [mv 8 0,mv 9 1,⟨(some 10),.len 0 (.tmp 9),none⟩,⟨(some 11),.sliceStr (.tmp 8) (some (.tmp 10)) none,none⟩,mv 4 11])
 (.ret))
 (.skip)))
 (.seq (.reg [mv 12 0,mv 4 12])
 (.ret)))
theorem A.c232:cFunc Tryz.prog 232=some ⟨13,[.tmp 4],A.b232⟩:=by kernel_rfl
def A.k232{K Q f c args st}:=@A.kk 232 _ _ _ A.c232 rfl K Q f c args st
def A.b189:MCode:=.seq (.reg [⟨(some 4),.mov (.const (.bool false)),none⟩])
 (.seq (.reg [mv 5 0,mv 6 1,⟨(some 7),.call (.const (.func 223 [] [])) [(.tmp 5),(.tmp 6)],none⟩,mv 4 7])
 (.ret))
theorem A.c189:cFunc Tryz.prog 189=some ⟨8,[.tmp 4],A.b189⟩:=by kernel_rfl
def A.k189{K Q f c args st}:=@A.kk 189 _ _ _ A.c189 rfl K Q f c args st
def A.b254:MCode:=.seq (.reg [mc 4 0])
 (.seq (.reg [mv 5 0,mv 6 1,⟨(some 7),.ext .indexByteString [(.tmp 5),(.tmp 6)],none⟩,mv 4 7])
 (.ret))
theorem A.c254:cFunc Tryz.prog 254=some ⟨8,[.tmp 4],A.b254⟩:=by kernel_rfl
def A.k254{K Q f c args st}:=@A.kk 254 _ _ _ A.c254 rfl K Q f c args st
def A.lb224_0:MCode:=.seq (.seq (.reg [mv 57 8,mv 58 9,bi 59 .lss 57 58])
 (.cond (.tmp 59)
 (.skip)
 (.exit 1)))
 (.block 2 (.seq (.seq (.reg [mv 60 0,mv 61 8,⟨(some 62),.idxStr (.tmp 60) (.tmp 61),none⟩,mv 63 6,⟨(some 64),.bin .neq (.prim .int) false (.tmp 62) (.tmp 63),none⟩])
 (.cond (.tmp 64)
 (.seq (.reg [mv 65 0,mv 66 8,bc 67 .add 66 1,mv 68 9,⟨(some 69),.sliceStr (.tmp 65) (some (.tmp 67)) (some (.tmp 68)),none⟩,mv 70 6,⟨(some 71),.call (.const (.func 254 [] [])) [(.tmp 69),(.tmp 70)],none⟩,mv 11 71])
 (.seq (.seq (.reg [mv 72 11,bc 73 .lss 72 0])
 (.cond (.tmp 73)
 (.seq (.reg [⟨(some 4),.mov (.const (.int .i64 (-1))),none⟩])
 (.ret))
 (.skip)))
 (.reg [mv 74 8,mv 75 11,bc 76 .add 75 1,bi 77 .add 74 76,mv 8 77])))
 (.skip)))
 (.seq (.seq (.reg [mv 78 0,mv 79 8,bc 80 .add 79 1,⟨(some 81),.idxStr (.tmp 78) (.tmp 80),none⟩,mv 82 7,⟨(some 83),.bin .eql (.prim .int) false (.tmp 81) (.tmp 82),none⟩,mv 84 83,⟨(some 85),.mov (.tmp 0),(some (84,true))⟩,⟨(some 86),.mov (.tmp 8),(some (84,true))⟩,⟨(some 87),.mov (.tmp 8),(some (84,true))⟩,⟨(some 88),.mov (.tmp 5),(some (84,true))⟩,⟨(some 89),.bin .add (.node []) false (.tmp 87) (.tmp 88),(some (84,true))⟩,⟨(some 90),.sliceStr (.tmp 85) (some (.tmp 86)) (some (.tmp 89)),(some (84,true))⟩,⟨(some 91),.mov (.tmp 1),(some (84,true))⟩,⟨(some 92),.bin .eql (.prim .str) false (.tmp 90) (.tmp 91),(some (84,true))⟩,⟨(some 93),.pick (.tmp 84) (.tmp 92) (.const (.bool false)),none⟩])
 (.cond (.tmp 93)
 (.seq (.reg [mv 94 8,mv 4 94])
 (.ret))
 (.skip)))
 (.seq (.reg [mv 95 8,bc 96 .add 95 1,mv 8 96])
 (.seq (.reg [mv 97 10,bc 98 .add 97 1,mv 10 98])
 (.seq (.reg [mv 99 5,⟨(some 100),.load none (.const (.ptr 0 0)),none⟩,bi 101 .leq 99 100,mv 102 101,⟨(some 103),.mov (.tmp 10),(some (102,true))⟩,⟨(some 104),.mov (.tmp 8),(some (102,true))⟩,⟨(some 105),.call (.const (.func 256 [] [])) [(.tmp 104)],(some (102,true))⟩,⟨(some 106),.bin .gtr (.node []) false (.tmp 103) (.tmp 105),(some (102,true))⟩,⟨(some 107),.pick (.tmp 102) (.tmp 106) (.const (.bool false)),none⟩])
 (.cond (.tmp 107)
 (.seq (.reg [mv 108 0,mv 109 8,⟨(some 110),.sliceStr (.tmp 108) (some (.tmp 109)) none,none⟩,mv 111 1,⟨(some 112),.stop,none⟩,mv 12 112])
 (.seq (.seq (.reg [mv 113 12,bc 114 .geq 113 0])
 (.cond (.tmp 114)
 (.seq (.reg [mv 115 12,mv 116 8,bi 117 .add 115 116,mv 4 117])
 (.ret))
 (.skip)))
 (.seq (.reg [⟨(some 4),.mov (.const (.int .i64 (-1))),none⟩])
 (.ret))))
 (.seq (.reg [mv 118 5,⟨(some 119),.load none (.const (.ptr 0 0)),none⟩,bi 120 .gtr 118 119,mv 121 120,⟨(some 122),.mov (.tmp 10),(some (121,true))⟩,⟨(some 123),.mov (.tmp 8),(some (121,true))⟩,⟨(some 124),.bin .shr (.node []) false (.tmp 123) (.const (.int .u64 4)),(some (121,true))⟩,⟨(some 125),.bin .add (.node []) false (.const (.int .i64 4)) (.tmp 124),(some (121,true))⟩,⟨(some 126),.bin .geq (.node []) false (.tmp 122) (.tmp 125),(some (121,true))⟩,⟨(some 127),.pick (.tmp 121) (.tmp 126) (.const (.bool false)),none⟩,mv 128 127,⟨(some 129),.mov (.tmp 8),(some (128,true))⟩,⟨(some 130),.mov (.tmp 9),(some (128,true))⟩,⟨(some 131),.bin .lss (.node []) false (.tmp 129) (.tmp 130),(some (128,true))⟩,⟨(some 132),.pick (.tmp 128) (.tmp 131) (.const (.bool false)),none⟩])
 (.cond (.tmp 132)
 (.seq (.reg [mv 133 0,mv 134 8,⟨(some 135),.sliceStr (.tmp 133) (some (.tmp 134)) none,none⟩,mv 136 1,⟨(some 137),.call (.const (.func 257 [] [])) [(.tmp 135),(.tmp 136)],none⟩,mv 13 137])
 (.seq (.seq (.reg [mv 138 13,bc 139 .lss 138 0])
 (.cond (.tmp 139)
 (.seq (.reg [⟨(some 4),.mov (.const (.int .i64 (-1))),none⟩])
 (.ret))
 (.skip)))
 (.seq (.reg [mv 140 8,mv 141 13,bi 142 .add 140 141,mv 4 142])
 (.ret))))
 (.skip))))))))))
def A.b224:MCode:=.seq (.reg [mc 4 0])
 (.seq (.reg [mv 14 1,⟨(some 15),.len 0 (.tmp 14),none⟩,mv 5 15])
 (.seq (.block 0 (.seq (.reg [mv 17 5,⟨(some 18),.bin .eql (.prim .int) true (.tmp 17) (.const (.int .i64 0)),none⟩,mv 19 18,⟨(some 20),.mov (.tmp 1),(some (19,false))⟩,⟨(some 21),.mov (.tmp 0),(some (19,false))⟩,⟨(some 22),.bin .eql (.prim .str) false (.tmp 20) (.tmp 21),(some (19,false))⟩,⟨(some 23),.pick (.tmp 19) (.const (.bool true)) (.tmp 22),none⟩,mv 16 23])
 (.cond (.tmp 16)
 (.seq (.reg [mc 4 0])
 (.ret))
 (.seq (.reg [mv 25 5,⟨(some 26),.bin .eql (.prim .int) true (.tmp 25) (.const (.int .i64 1)),none⟩,mv 24 26])
 (.cond (.tmp 24)
 (.seq (.reg [mv 27 0,mv 28 1,⟨(some 29),.idxStr (.tmp 28) (.const (.int .i64 0)),none⟩,⟨(some 30),.call (.const (.func 254 [] [])) [(.tmp 27),(.tmp 29)],none⟩,mv 4 30])
 (.ret))
 (.seq (.reg [mv 32 5,mv 33 0,⟨(some 34),.len 0 (.tmp 33),none⟩,bi 35 .geq 32 34,mv 31 35])
 (.cond (.tmp 31)
 (.seq (.reg [⟨(some 4),.mov (.const (.int .i64 (-1))),none⟩])
 (.ret))
 (.seq (.reg [mv 37 5,⟨(some 38),.load none (.const (.ptr 0 0)),none⟩,bi 39 .leq 37 38,mv 40 39,⟨(some 41),.mov (.tmp 0),(some (40,true))⟩,⟨(some 42),.len 0 (.tmp 41),(some (40,true))⟩,⟨(some 43),.bin .leq (.node []) false (.tmp 42) (.const (.int .i64 64)),(some (40,true))⟩,⟨(some 44),.pick (.tmp 40) (.tmp 43) (.const (.bool false)),none⟩,mv 36 44])
 (.cond (.tmp 36)
 (.seq (.reg [mv 45 0,mv 46 1,⟨(some 47),.stop,none⟩,mv 4 47])
 (.ret))
 (.skip))))))))))
 (.seq (.reg [mv 48 1,⟨(some 49),.idxStr (.tmp 48) (.const (.int .i64 0)),none⟩,mv 6 49])
 (.seq (.reg [mv 50 1,⟨(some 51),.idxStr (.tmp 50) (.const (.int .i64 1)),none⟩,mv 7 51])
 (.seq (.reg [mc 8 0])
 (.seq (.reg [mv 52 0,⟨(some 53),.len 0 (.tmp 52),none⟩,mv 54 5,bi 55 .sub 53 54,bc 56 .add 55 1,mv 9 56])
 (.seq (.reg [mc 10 0])
 (.seq (.block 1 (.loop A.lb224_0))
 (.seq (.reg [⟨(some 4),.mov (.const (.int .i64 (-1))),none⟩])
 (.ret))))))))))
theorem A.c224:cFunc Tryz.prog 224=some ⟨143,[.tmp 4],A.b224⟩:=by kernel_rfl
def A.k224{K Q f c args st}:=@A.kk 224 _ _ _ A.c224 rfl K Q f c args st
def A.b184:MCode:=.seq (.reg [⟨(some 4),.mov (.const (.str [])),none⟩,⟨(some 5),.mov (.const (.str [])),none⟩,⟨(some 6),.mov (.const (.bool false)),none⟩])
 (.seq (.seq (.reg [mv 8 0,mv 9 1,⟨(some 10),.call (.const (.func 224 [] [])) [(.tmp 8),(.tmp 9)],none⟩,mv 7 10])
 (.seq (.reg [mv 11 7,bc 12 .geq 11 0])
 (.cond (.tmp 12)
 (.seq (.regD [mv 13 0,mv 14 7,⟨(some 15),.sliceStr (.tmp 13) none (some (.tmp 14)),none⟩,mv 16 0,mv 17 7,mv 18 1,⟨(some 19),.len 0 (.tmp 18),none⟩,bi 20 .add 17 19,⟨(some 21),.sliceStr (.tmp 16) (some (.tmp 20)) none,none⟩,mv 4 15,mv 5 21,⟨(some 6),.mov (.const (.bool true)),none⟩] [0,0,3,0,0,0,32,112,248,7,1023,2047])
 (.ret))
 (.skip))))
 (.seq (.reg [mv 22 0,mv 4 22,⟨(some 5),.mov (.const (.str [])),none⟩,⟨(some 6),.mov (.const (.bool false)),none⟩])
 (.ret)))
theorem A.c184:cFunc Tryz.prog 184=some ⟨23,[.tmp 4,.tmp 5,.tmp 6],A.b184⟩:=by kernel_rfl
def A.k184{K Q f c args st}:=@A.kk 184 _ _ _ A.c184 rfl K Q f c args st
def A.b147:MCode:=.seq (.reg [⟨(some 4),.mov (.const (.str [])),none⟩,⟨(some 5),.mov (.const (.str [])),none⟩,⟨(some 6),.mov (.const (.bool false)),none⟩])
 (.seq (.reg [mv 7 0,mv 8 1,⟨(some 9),.call (.const (.func 184 [] [])) [(.tmp 7),(.tmp 8)],none⟩,xt 10 9 0,xt 11 9 1,xt 12 9 2,mv 4 10,mv 5 11,mv 6 12])
 (.ret))
theorem A.c147:cFunc Tryz.prog 147=some ⟨13,[.tmp 4,.tmp 5,.tmp 6],A.b147⟩:=by kernel_rfl
def A.k147{K Q f c args st}:=@A.kk 147 _ _ _ A.c147 rfl K Q f c args st
theorem hasPrefix0_eq{s:Str}{st:St}:A.C.call (.func 223 [] []) [.str s,.str [45]] st=some (.bool (negS s),st):=by
 apply Call.eq
 rw[call_run,A.k223 (by simp)]
 cases s with
 |nil=>simp[A.b223,negS]
 |cons c s=>
  have e:(([c]:Str)==[45])=decide (c.toNat=45):=by
   rw[Bool.eq_iff_iff]
   simp only[beq_iff_eq,decide_eq_true_eq,List.cons.injEq,and_true]
   exact⟨fun h=>by rw[h];rfl,fun h=>UInt8.toNat_inj.1 h⟩
  have h1:(1:Int)≤(s.length:Int)+1:=by omega
  simp(disch:=first|(simp;done)|omega|(simp only[dg_length,dgi_length,List.length_cons];omega)|rfl) [-getElem?_pos,A.b223,negS,evOpt,e,h1]
theorem cutPrefix_eq{s:Str}{st:St}:A.C.call (.func 146 [] []) [.str s,.str [45]] st=some (.tup [.str (bodyS s),.bool (negS s)],st):=by
 apply Call.eq
 rw[call_run,A.k146 (by simp)]
 simp[A.b146]
 rw[A.k183 (by simp)]
 by_cases hn:negS s=true
 ·have h1:1≤s.length:=by cases s<;>simp[negS]at hn ⊢
  have h1':(1:Int)≤s.length:=by omega
  simp(disch:=first|(simp;done)|omega|(simp only[dg_length,dgi_length,List.length_cons];omega)|rfl) [-getElem?_pos,A.b183,hasPrefix0_eq,hn,evOpt,h1',bodyS]
 ·simp(disch:=first|(simp;done)|omega|(simp only[dg_length,dgi_length,List.length_cons];omega)|rfl) [-getElem?_pos,A.b183,hasPrefix0_eq,hn,bodyS]
theorem trimPrefix_eq{s:Str}{st:St}:A.C.call (.func 190 [] []) [.str s,.str [45]] st=some (.str (bodyS s),st):=by
 apply Call.eq
 rw[call_run,A.k190 (by simp)]
 simp[A.b190]
 rw[A.k232 (by simp)]
 by_cases hn:negS s=true
 ·have h1:1≤s.length:=by cases s<;>simp[negS]at hn ⊢
  have h1':(1:Int)≤s.length:=by omega
  simp(disch:=first|(simp;done)|omega|(simp only[dg_length,dgi_length,List.length_cons];omega)|rfl) [-getElem?_pos,A.b232,hasPrefix0_eq,hn,evOpt,h1',bodyS]
 ·simp(disch:=first|(simp;done)|omega|(simp only[dg_length,dgi_length,List.length_cons];omega)|rfl) [-getElem?_pos,A.b232,hasPrefix0_eq,hn,bodyS]
theorem hasPrefix_eq{s:Str}{st:St}:A.C.call (.func 189 [] []) [.str s,.str [45]] st=some (.bool (negS s),st):=by
 apply Call.eq
 rw[call_run,A.k189 (by simp)]
 simp(disch:=first|(simp;done)|omega|(simp only[dg_length,dgi_length,List.length_cons];omega)|rfl) [-getElem?_pos,A.b189,hasPrefix0_eq]
theorem indexByte_eq{s:Str}{st:St}:A.C.call (.func 254 [] []) [.str s,.int .u8 47] st=some (.int .i64 (if slashAt s<s.length then (slashAt s:Int) else -1),st):=by
 apply Call.eq
 rw[call_run,A.k254 (by simp)]
 have e:=idxByte_slash s 0
 simp only[Nat.zero_add]at e
 simp(disch:=first|(simp;done)|omega|(simp only[dg_length,dgi_length,List.length_cons];omega)|rfl) [-getElem?_pos,A.b254,extK,extV,e]
theorem index_eq{s:Str}{st:St}:A.C.call (.func 224 [] []) [.str s,.str [47]] st=some (.int .i64 (if slashAt s<s.length then (slashAt s:Int) else -1),st):=by
 apply Call.eq
 rw[call_run,A.k224 (by simp)]
 by_cases hs:s=[47]
 ·subst hs
  simp(disch:=first|(simp;done)|omega|(simp only[dg_length,dgi_length,List.length_cons];omega)|rfl) [-getElem?_pos,A.b224,eqPrim,slashAt]
 ·have e1:(([47]:Str)==s)=false:=by simp;exact fun h=>hs h.symm
  have e2:u8I 47=47:=rfl
  simp(disch:=first|(simp;done)|omega|(simp only[dg_length,dgi_length,List.length_cons];omega)|rfl) [-getElem?_pos,A.b224,eqPrim,indexByte_eq,e1,e2]
theorem cut_eq{s:Str}{st:St}(hl:s.length<4611686018427387904):A.C.call (.func 147 [] []) [.str s,.str [47]] st=some (.tup [.str (s.take (slashAt s)),.str (s.drop (slashAt s+1)),.bool (decide (slashAt s<s.length))],st):=by
 apply Call.eq
 rw[call_run,A.k147 (by simp)]
 simp[A.b147]
 rw[A.k184 (by simp)]
 have hle:=slashAt_le s
 by_cases hs:slashAt s<s.length
 ·simp(disch:=first|(simp;done)|omega|(simp only[dg_length,dgi_length,List.length_cons];omega)|rfl) [-getElem?_pos,A.b184,index_eq,hs,evOpt]
  try omega
 ·have:s.take (slashAt s)=s:=List.take_of_length_le (by omega)
  have h2:s.drop (slashAt s+1)=[]:=List.drop_eq_nil_of_le (by omega)
  simp(disch:=first|(simp;done)|omega|(simp only[dg_length,dgi_length,List.length_cons];omega)|rfl) [-getElem?_pos,A.b184,index_eq,hs,this,h2]
end Go.Mx
namespace Go.Mx
open Go Go.Proofs
set_option maxRecDepth 1000000
def A.b185:MCode:=.seq (.reg [⟨(some 4),.mov (.const (.str [])),none⟩])
 (.seq (.seq (.reg [mv 7 0,⟨(some 8),.bin .eql (.prim .str) true (.tmp 7) (.const (.str [])),none⟩,mv 9 8,⟨(some 10),.mov (.tmp 1),(some (9,false))⟩,⟨(some 11),.bin .eql (.prim .str) true (.tmp 10) (.const (.str [])),(some (9,false))⟩,⟨(some 12),.pick (.tmp 9) (.const (.bool true)) (.tmp 11),none⟩])
 (.cond (.tmp 12)
 (.seq (.reg [mv 13 0,mv 4 13])
 (.ret))
 (.skip)))
 (.seq (.seq (.reg [mv 14 1,⟨(some 15),.len 0 (.tmp 14),none⟩,⟨(some 16),.bin .eql (.prim .int) true (.tmp 15) (.const (.int .i64 1)),none⟩,mv 17 16,⟨(some 18),.mov (.tmp 1),(some (17,true))⟩,⟨(some 19),.idxStr (.tmp 18) (.const (.int .i64 0)),(some (17,true))⟩,⟨(some 20),.bin .lss (.node []) false (.tmp 19) (.const (.int .u8 128)),(some (17,true))⟩,⟨(some 21),.pick (.tmp 17) (.tmp 20) (.const (.bool false)),none⟩])
 (.cond (.tmp 21)
 (.seq (.regD [mv 22 0,mv 23 1,⟨(some 24),.idxStr (.tmp 23) (.const (.int .i64 0)),none⟩,⟨(some 25),.call (.const (.func 226 [] [])) [(.tmp 22),(.tmp 24)],none⟩,mv 26 1,⟨(some 27),.idxStr (.tmp 26) (.const (.int .i64 0)),none⟩,⟨(some 28),.call (.const (.func 225 [] [])) [(.tmp 25),(.tmp 27)],none⟩,mv 4 28] [0,0,2,7,0,16,63,127])
 (.ret))
 (.skip)))
 (.seq (.seq (.reg [mv 30 1,⟨(some 31),.call (.const (.func 227 [] [])) [(.tmp 30)],none⟩,mv 29 31,xt 32 29 0,xt 33 29 1,⟨(some 5),.alloc (aset 0) 317,none⟩,⟨none,.store 256 (.tmp 5) (.tmp 32),none⟩,mv 6 33])
 (.seq (.reg [mv 34 6])
 (.cond (.tmp 34)
 (.seq (.reg [mv 35 0,⟨(some 36),.call (.const (.func 229 [] [])) [(.tmp 35),(.tmp 5)],none⟩,⟨(some 37),.call (.const (.func 228 [] [])) [(.tmp 36),(.tmp 5)],none⟩,mv 4 37])
 (.ret))
 (.skip))))
 (.seq (.reg [mv 38 0,mv 39 1,⟨(some 40),.call (.const (.func 231 [] [])) [(.tmp 38),(.tmp 39)],none⟩,mv 41 1,⟨(some 42),.call (.const (.func 230 [] [])) [(.tmp 40),(.tmp 41)],none⟩,mv 4 42])
 (.ret)))))
theorem A.c185:cFunc Tryz.prog 185=some ⟨43,[.tmp 4],A.b185⟩:=by kernel_rfl
def A.k185{K Q f c args st}:=@A.kk 185 _ _ _ A.c185 rfl K Q f c args st
def A.lb227_0:MCode:=.seq (.seq (.reg [mv 6 4,mv 7 0,⟨(some 8),.len 0 (.tmp 7),none⟩,bi 9 .lss 6 8])
 (.cond (.tmp 9)
 (.skip)
 (.exit 0)))
 (.seq (.block 1 (.seq (.reg [mv 12 0,mv 13 4,⟨(some 14),.idxStr (.tmp 12) (.tmp 13),none⟩,mv 5 14])
 (.seq (.seq (.reg [mv 15 5,⟨(some 16),.bin .geq (.node []) false (.tmp 15) (.const (.int .u8 128)),none⟩])
 (.cond (.tmp 16)
 (.seq (.reg [⟨(some 17),.load (some 256) (.tmp 2),none⟩,⟨none,.store 256 (.tmp 2) (.tmp 17),none⟩,⟨(some 3),.mov (.const (.bool false)),none⟩])
 (.ret))
 (.skip)))
 (.reg [mv 18 5,⟨(some 19),.iaddrArr 256 1 (.tmp 2) (.tmp 18),none⟩,⟨none,.store 1 (.tmp 19) (.const (.bool true)),none⟩]))))
 (.reg [mv 10 4,bc 11 .add 10 1,mv 4 11]))
def A.b227:MCode:=.seq (.reg [⟨(some 2),.alloc (aset 0) 317,none⟩,⟨(some 3),.mov (.const (.bool false)),none⟩])
 (.seq (.seq (.reg [mc 4 0])
 (.block 0 (.loop A.lb227_0)))
 (.seq (.reg [⟨(some 20),.load (some 256) (.tmp 2),none⟩,⟨none,.store 256 (.tmp 2) (.tmp 20),none⟩,⟨(some 3),.mov (.const (.bool true)),none⟩])
 (.ret)))
theorem A.c227:cFunc Tryz.prog 227=some ⟨21,[.cell 2 (some 256),.tmp 3],A.b227⟩:=by kernel_rfl
def A.k227{K Q f c args st}:=@A.kk 227 _ _ _ A.c227 rfl K Q f c args st
def A.lb228_0:MCode:=.seq (.seq (.reg [mv 5 0,⟨(some 6),.len 0 (.tmp 5),none⟩,bc 7 .gtr 6 0])
 (.cond (.tmp 7)
 (.skip)
 (.exit 0)))
 (.block 1 (.seq (.seq (.reg [mv 8 1,mv 9 0,⟨(some 10),.idxStr (.tmp 9) (.const (.int .i64 0)),none⟩,⟨(some 11),.call (.const (.func 258 [] [])) [(.tmp 8),(.tmp 10)],none⟩,⟨(some 12),.un .not (.tmp 11),none⟩])
 (.cond (.tmp 12)
 (.exit 0)
 (.skip)))
 (.reg [mv 13 0,⟨(some 14),.sliceStr (.tmp 13) (some (.const (.int .i64 1))) none,none⟩,mv 0 14])))
def A.b228:MCode:=.seq (.reg [⟨(some 4),.mov (.const (.str [])),none⟩])
 (.seq (.block 0 (.loop A.lb228_0))
 (.seq (.reg [mv 15 0,mv 4 15])
 (.ret)))
theorem A.c228:cFunc Tryz.prog 228=some ⟨16,[.tmp 4],A.b228⟩:=by kernel_rfl
def A.k228{K Q f c args st}:=@A.kk 228 _ _ _ A.c228 rfl K Q f c args st
def A.lb229_0:MCode:=.seq (.seq (.reg [mv 5 0,⟨(some 6),.len 0 (.tmp 5),none⟩,bc 7 .gtr 6 0])
 (.cond (.tmp 7)
 (.skip)
 (.exit 0)))
 (.block 1 (.seq (.seq (.reg [mv 8 1,mv 9 0,mv 10 0,⟨(some 11),.len 0 (.tmp 10),none⟩,bc 12 .sub 11 1,⟨(some 13),.idxStr (.tmp 9) (.tmp 12),none⟩,⟨(some 14),.call (.const (.func 258 [] [])) [(.tmp 8),(.tmp 13)],none⟩,⟨(some 15),.un .not (.tmp 14),none⟩])
 (.cond (.tmp 15)
 (.exit 0)
 (.skip)))
 (.reg [mv 16 0,mv 17 0,⟨(some 18),.len 0 (.tmp 17),none⟩,bc 19 .sub 18 1,⟨(some 20),.sliceStr (.tmp 16) none (some (.tmp 19)),none⟩,mv 0 20])))
def A.b229:MCode:=.seq (.reg [⟨(some 4),.mov (.const (.str [])),none⟩])
 (.seq (.block 0 (.loop A.lb229_0))
 (.seq (.reg [mv 21 0,mv 4 21])
 (.ret)))
theorem A.c229:cFunc Tryz.prog 229=some ⟨22,[.tmp 4],A.b229⟩:=by kernel_rfl
def A.k229{K Q f c args st}:=@A.kk 229 _ _ _ A.c229 rfl K Q f c args st
def A.b258:MCode:=.seq (.reg [⟨(some 4),.mov (.const (.bool false)),none⟩])
 (.seq (.reg [mv 5 0,mv 6 1,⟨(some 7),.nilck (.tmp 5),none⟩,⟨(some 8),.iaddrArr 256 1 (.tmp 7) (.tmp 6),none⟩,ld 9 8,mv 4 9])
 (.ret))
theorem A.c258:cFunc Tryz.prog 258=some ⟨10,[.tmp 4],A.b258⟩:=by kernel_rfl
def A.k258{K Q f c args st}:=@A.kk 258 _ _ _ A.c258 rfl K Q f c args st
def A.b148:MCode:=.seq (.reg [⟨(some 2),.mov (.const (.bool false)),none⟩])
 (.seq (.reg [mv 3 0,⟨(some 4),.bin .neq (.prim .str) true (.tmp 3) (.const (.str [])),none⟩,mv 5 4,⟨(some 6),.mov (.tmp 0),(some (5,true))⟩,⟨(some 7),.call (.const (.func 185 [] [])) [(.tmp 6),(.const (.str [48,49,50,51,52,53,54,55,56,57]))],(some (5,true))⟩,⟨(some 8),.bin .eql (.prim .str) true (.tmp 7) (.const (.str [])),(some (5,true))⟩,⟨(some 9),.pick (.tmp 5) (.tmp 8) (.const (.bool false)),none⟩,mv 10 9,⟨(some 11),.mov (.tmp 0),(some (10,true))⟩,⟨(some 12),.idxStr (.tmp 11) (.const (.int .i64 0)),(some (10,true))⟩,⟨(some 13),.bin .neq (.prim .int) true (.tmp 12) (.const (.int .u8 48)),(some (10,true))⟩,⟨(some 14),.mov (.tmp 13),(some (10,true))⟩,⟨(some 15),.mov (.tmp 0),(some (14,false))⟩,⟨(some 16),.bin .eql (.prim .str) true (.tmp 15) (.const (.str [48])),(some (14,false))⟩,⟨(some 17),.pick (.tmp 14) (.const (.bool true)) (.tmp 16),(some (10,true))⟩,⟨(some 18),.pick (.tmp 10) (.tmp 17) (.const (.bool false)),none⟩,mv 2 18])
 (.ret))
theorem A.c148:cFunc Tryz.prog 148=some ⟨19,[.tmp 2],A.b148⟩:=by kernel_rfl
def A.k148{K Q f c args st}:=@A.kk 148 _ _ _ A.c148 rfl K Q f c args st
theorem makeSet_fn{h:T O}{N:Nat}:Fn A.C 227 [(.str [48,49,50,51,52,53,54,55,56,57])] h N (fun v _ _=>v=.tup [.agg (aset 10),.bool true]):=by
 intro w
 rw[call_run,A.k227 (by simp)]
 simp[A.b227]
 refine run_loopD [(3,19)] (fun e r st=>e=.exit 0∧st.n=N+1∧oldIds N st.w=[]∧Keeps h N st.h (N+1)∧st.h.get N=some (.cells (aset 10) 317 true)) (fun m r st=>st.n=N+1∧oldIds N st.w=[]∧Keeps h N st.h (N+1)∧∃k,m=10-k∧k≤10∧r.get 4=some (.int .i64 k)∧st.h.get N=some (.cells (aset k) 317 true)) 10 ?_ ?_ ?_
 ·exact⟨rfl,rfl,(Keeps.refl.set (Nat.le_refl _)).up (by omega),0,by omega,by omega,by simp,by simp⟩
 ·rintro m r ⟨H,n1,W⟩ hr hf ⟨hn,hW,hK,k,rfl,hk,h4,hrow⟩
  simp only at hn hW hK hrow
  subst hn
  rw[code_run]
  by_cases hlt:k<10
  ·obtain⟨c,hc,hcu⟩:=digs_get hlt
   unfold digs at hc
   have a1:¬128≤u8I c:=by omega
   have a2:u8I c<256:=by omega
   have a3:0≤u8I c:=by omega
   have a4:(u8I c).toNat=48+k:=by omega
   have hlt':(k:Int)<10:=by omega
   have hs:=aset_set hlt
   have q1:=aset_len k
   simp(disch:=first|(simp;done)|omega|(simp only[dg_length,dgi_length,List.length_cons];omega)|rfl) [-getElem?_pos,A.lb227_0,hr,hf,h4,hlt',hc,a1,a2,a3,a4,hs,hrow,hW]
   exact⟨_,by omega,hK.set (Nat.le_refl N),k+1,rfl,by omega,by simp,rfl⟩
  ·have:k=10:=by omega
   subst this
   simp(disch:=first|(simp;done)|omega|(simp only[dg_length,dgi_length,List.length_cons];omega)|rfl) [-getElem?_pos,A.lb227_0,hr,hf,h4,hrow,hW]
   exact hK
 ·rintro e r ⟨H,n1,W⟩ hr ⟨rfl,hn,hW,hK,hrow⟩
  simp only at hn hW hK hrow
  subst hn
  have q1:=aset_len 10
  simp(disch:=first|(simp;done)|omega|(simp only[dg_length,dgi_length,List.length_cons];omega)|rfl) [-getElem?_pos,hr,Ret,hW,hrow,partV,slc,aset_len,aset_one]
  exact hK.set (Nat.le_refl N)
theorem contains_eq{c:UInt8}{h:T O}{N i:Nat}{w:List Nat}{e:TypeId}{rw:Bool}(hr:h.get i=some (.cells (aset 10) e rw)):A.C.call (.func 258 [] []) [.ptr i 0,.int .u8 (u8I c)] ⟨h,N,w⟩=some (.bool (digC c),⟨h,N,w⟩):=by
 apply Call.eq
 rw[call_run,A.k258 (by simp)]
 have hu:=u8I_range c
 have e2:(aset 10)[(u8I c).toNat]?=some (.bool (digC c)):=by
  rw[aset_get (by omega),digC_u]
  congr 2
  rw[decide_eq_decide];omega
 simp(disch:=first|(simp;done)|omega|(simp only[dg_length,dgi_length,List.length_cons];omega)|rfl) [-getElem?_pos,A.b258,hr,hu,e2]
theorem dig_last{s:Str}{k:Nat}{c:UInt8}(hl:s.length=k+1)(hc:s[k]?=some c):allD s=(allD (s.take k)&&digC c):=by
 unfold allD
 have:s=s.take k++[c]:=by
  conv=>lhs;rw[←List.take_append_drop k s]
  rw[get_drop_cons hc,List.drop_eq_nil_of_le (by omega)]
 conv=>lhs;rw[this]
 simp
theorem dig_first{s:Str}{c:UInt8}(hc:s[0]?=some c):allD s=(digC c&&allD (s.drop 1)):=by
 cases s with
 |nil=>simp at hc
 |cons d s=>simp at hc;subst hc;rfl
theorem dig_none{s:Str}{k:Nat}{c:UInt8}(hc:s[k]?=some c)(hd:digC c=false):allD s=false:=by
 unfold allD
 rw[List.all_eq_false]
 exact⟨c,List.mem_of_getElem? hc,by simp[hd]⟩
def TrimP(s:Str)(v:V):Prop:=∃t:Str,v=.str t∧t.length≤s.length∧allD t=allD s∧(allD s=true→t=[])
theorem trimRight_fn{s:Str}{h:T O}{N i:Nat}{e:TypeId}{rw:Bool}(hr0:h.get i=some (.cells (aset 10) e rw))(hl:s.length<4611686018427387904):Fn A.C 229 [.str s,.ptr i 0] h N (fun v _ _=>TrimP s v):=by
 intro w
 rw[call_run,A.k229 (by simp)]
 simp[A.b229]
 refine run_loopD [(0,0),(5,20)] (fun e r st=>e=.exit 0∧st=⟨h,N,[]⟩∧∃t:Str,r.get 0=some (.str t)∧t.length≤s.length∧allD t=allD s∧(allD s=true→t=[])) (fun m r st=>st=⟨h,N,[]⟩∧∃t:Str,m=t.length∧t.length≤s.length∧r.get 0=some (.str t)∧allD t=allD s) s.length ?_ ?_ ?_
 ·exact⟨rfl,s,rfl,by omega,by simp,rfl⟩
 ·rintro m r _ hr hf ⟨rfl,t,rfl,hle,h0,ht⟩
  rw[code_run]
  by_cases hz:t.length=0
  ·have:t=[]:=List.eq_nil_of_length_eq_zero hz
   subst this
   simp(disch:=first|(simp;done)|omega|(simp only[dg_length,dgi_length,List.length_cons];omega)|rfl) [-getElem?_pos,A.lb229_0,hr,hf,h0,ht]
  ·obtain⟨k,hk⟩:∃k,t.length=k+1:=⟨t.length-1,by omega⟩
   obtain⟨c,hc⟩:=get_of_lt (l:=t) (k:=k) (by omega)
   have hk':(t.length:Int)=k+1:=by omega
   have hk0:(0:Int)<(k:Int)+1:=by omega
   have hk1:(k:Int)+1-1=k:=by omega
   have hcon:=fun w=>contains_eq (c:=c) (N:=N) (w:=w) hr0
   by_cases hd:digC c=true
   ·simp(disch:=first|(simp;done)|omega|(simp only[dg_length,dgi_length,List.length_cons];omega)|rfl) [-getElem?_pos,A.lb229_0,hr,hf,h0,hk',hk0,hk1,hc,hcon,hd,evOpt]
    exact⟨k,by omega,t.take k,by simp;omega,by simp;omega,rfl,by rw[←ht,dig_last hk hc,hd];simp⟩
   ·have hd:digC c=false:=by simpa using hd
    simp(disch:=first|(simp;done)|omega|(simp only[dg_length,dgi_length,List.length_cons];omega)|rfl) [-getElem?_pos,A.lb229_0,hr,hf,h0,hk',hk0,hk1,hc,hcon,hd,evOpt]
    have hq:=dig_none hc hd
    rw[ht]at hq
    simp[hq,hle]
    rw[ht];exact hq
 ·rintro _ r _ hr ⟨rfl,rfl,t,h0,hle,ht,he⟩
  simp(disch:=first|(simp;done)|omega|(simp only[dg_length,dgi_length,List.length_cons];omega)|rfl) [-getElem?_pos,hr,h0,Ret,TrimP]
  exact⟨Keeps.refl,hle,ht,he⟩
theorem trimLeft_fn{s:Str}{h:T O}{N i:Nat}{e:TypeId}{rw:Bool}(hr0:h.get i=some (.cells (aset 10) e rw))(hl:s.length<4611686018427387904):Fn A.C 228 [.str s,.ptr i 0] h N (fun v _ _=>TrimP s v):=by
 intro w
 rw[call_run,A.k228 (by simp)]
 simp[A.b228]
 refine run_loopD [(0,0),(5,14)] (fun e r st=>e=.exit 0∧st=⟨h,N,[]⟩∧∃t:Str,r.get 0=some (.str t)∧t.length≤s.length∧allD t=allD s∧(allD s=true→t=[])) (fun m r st=>st=⟨h,N,[]⟩∧∃t:Str,m=t.length∧t.length≤s.length∧r.get 0=some (.str t)∧allD t=allD s) s.length ?_ ?_ ?_
 ·exact⟨rfl,s,rfl,by omega,by simp,rfl⟩
 ·rintro m r _ hr hf ⟨rfl,t,rfl,hle,h0,ht⟩
  rw[code_run]
  by_cases hz:t.length=0
  ·have:t=[]:=List.eq_nil_of_length_eq_zero hz
   subst this
   simp(disch:=first|(simp;done)|omega|(simp only[dg_length,dgi_length,List.length_cons];omega)|rfl) [-getElem?_pos,A.lb228_0,hr,hf,h0,ht]
  ·cases t with
   |nil=>simp at hz
   |cons c t=>
    have hk0:(0:Int)<(t.length:Int)+1:=by omega
    have hcon:=fun w=>contains_eq (c:=c) (N:=N) (w:=w) hr0
    have hdf:=dig_first (s:=c::t) (c:=c) rfl
    by_cases hd:digC c=true
    ·simp(disch:=first|(simp;done)|omega|(simp only[dg_length,dgi_length,List.length_cons];omega)|rfl) [-getElem?_pos,A.lb228_0,hr,hf,h0,hk0,hcon,hd,evOpt]
     simp only[List.length_cons]at hle
     rw[hd]at hdf
     exact⟨t.length,by omega,t,rfl,by omega,rfl,by rw[←ht,hdf];rfl⟩
    ·have hd:digC c=false:=by simpa using hd
     simp(disch:=first|(simp;done)|omega|(simp only[dg_length,dgi_length,List.length_cons];omega)|rfl) [-getElem?_pos,A.lb228_0,hr,hf,h0,hk0,hcon,hd,evOpt]
     rw[hd]at hdf
     rw[ht]at hdf
     simp only[List.length_cons]at hle
     simp[hdf,hle]
     rw[ht,hdf];rfl
 ·rintro _ r _ hr ⟨rfl,rfl,t,h0,hle,ht,he⟩
  simp(disch:=first|(simp;done)|omega|(simp only[dg_length,dgi_length,List.length_cons];omega)|rfl) [-getElem?_pos,hr,h0,Ret,TrimP]
  exact⟨Keeps.refl,hle,ht,he⟩
theorem strTrim_fn{s:Str}{h:T O}{N:Nat}(hl:s.length<4611686018427387904):Fn A.C 185 [.str s,(.str [48,49,50,51,52,53,54,55,56,57])] h N (fun v _ _=>TrimP s v):=by
 intro w
 rw[call_run,A.k185 (by simp)]
 by_cases he:s=[]
 ·subst he
  simp(disch:=first|(simp;done)|omega|(simp only[dg_length,dgi_length,List.length_cons];omega)|rfl) [-getElem?_pos,A.b185,eqPrim,Ret]
  exact⟨Keeps.refl,[],rfl,Nat.le_refl _,rfl,fun _=>rfl⟩
 ·have e1:(s==[])=false:=by simp[he]
  have e2:s.isEmpty=false:=by simp[he]
  simp(disch:=first|(simp;done)|omega|(simp only[dg_length,dgi_length,List.length_cons];omega)|rfl) [-getElem?_pos,A.b185,eqPrim,e1,e2]
  refine run_fn makeSet_fn ?_
  rintro v h1 n1 k1 rfl
  have q1:=aset_len 10
  simp(disch:=first|(simp;done)|omega|(simp only[dg_length,dgi_length,List.length_cons];omega)|rfl) [-getElem?_pos,]
  refine run_fn (trimRight_fn (e:=317) (rw:=true) ?_ hl) ?_
  ·simp
  rintro v h2 n2 k2 ⟨t,rfl,hle,ht,hte⟩
  have hN1:h2.get n1=some (.cells (aset 10) 317 true):=by
   rw[k2.get _ (by omega)]
   simp
  simp(disch:=first|(simp;done)|omega|(simp only[dg_length,dgi_length,List.length_cons];omega)|rfl) [-getElem?_pos,]
  refine run_fn (trimLeft_fn (e:=317) (rw:=true) hN1 (by omega)) ?_
  rintro v h3 n3 k3 ⟨u,rfl,hle2,hu,hue⟩
  have kk:Keeps h N h3 n3:=(((k1.set k1.le).set k1.le).up (Nat.le_succ n1)).trans (k2.trans k3)
  simp(disch:=first|(simp;done)|omega|(simp only[dg_length,dgi_length,List.length_cons];omega)|rfl) [-getElem?_pos,Ret]
  exact⟨k1.le,kk,u,rfl,by omega,by rw[hu,ht],fun h=>hue (by rw[ht];exact h)⟩
theorem isDecimal_fn{s:Str}{h:T O}{N:Nat}(hl:s.length<4611686018427387904):Fn A.C 148 [.str s] h N (fun v _ _=>v=.bool (isDec s)):=by
 intro w
 rw[call_run,A.k148 (by simp)]
 cases s with
 |nil=>simp(disch:=first|(simp;done)|omega|(simp only[dg_length,dgi_length,List.length_cons];omega)|rfl) [-getElem?_pos,A.b148,Ret,isDec];exact Keeps.refl
 |cons c s=>
  simp(disch:=first|(simp;done)|omega|(simp only[dg_length,dgi_length,List.length_cons];omega)|rfl) [-getElem?_pos,A.b148]
  refine run_fn (strTrim_fn hl) ?_
  rintro v h1 n1 k1 ⟨t,rfl,hle,ht,hte⟩
  have hd:isDec (c::s)=(allD (c::s)&&(decide (u8I c≠48)||decide (s=[]))):=by
   have:decide (c.toNat≠48)=decide (u8I c≠48):=by unfold u8I;rw[decide_eq_decide];omega
   simp only[isDec,this];rfl
  by_cases ha:allD (c::s)=true
  ·have:=hte ha
   subst this
   by_cases h0:u8I c=48
   ·have hc:c=48:=by unfold u8I at h0;exact UInt8.toNat_inj.1 (by show c.toNat=48;omega)
    subst hc
    simp(disch:=first|(simp;done)|omega|(simp only[dg_length,dgi_length,List.length_cons];omega)|rfl) [-getElem?_pos,eqPrim,hd,ha,h0,Ret,k1]
    cases s<;>rfl
   ·simp(disch:=first|(simp;done)|omega|(simp only[dg_length,dgi_length,List.length_cons];omega)|rfl) [-getElem?_pos,eqPrim,hd,ha,h0,Ret,k1]
  ·have ha:allD (c::s)=false:=by simpa using ha
   rw[ha]at ht
   have e1:(t==[])=false:=by
    cases t with
    |nil=>cases ht
    |cons=>rfl
   have e2:t.isEmpty=false:=by
    cases t with
    |nil=>cases ht
    |cons=>rfl
   simp(disch:=first|(simp;done)|omega|(simp only[dg_length,dgi_length,List.length_cons];omega)|rfl) [-getElem?_pos,eqPrim,hd,ha,e1,e2,Ret,k1]
end Go.Mx
