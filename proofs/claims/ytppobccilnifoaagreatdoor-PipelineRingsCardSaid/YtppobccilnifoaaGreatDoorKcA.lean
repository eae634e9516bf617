/-
  PipelineKeeps: behind the records.
-/
import Derived.Test.YtppobccilnifoaaGreatDoorKbB
set_option linter.all false
namespace Go.Mx
open Go Go.Proofs
set_option maxRecDepth 1000000
def A.lb5_0:MCode:=.seq (.reg [bi 200 .lss 199 198])
 (.seq (.cond (.tmp 200)
 (.skip)
 (.exit 4))
 (.seq (.block 5 (.seq (.reg [mv 201 199,mv 22 201])
 (.seq (.regD [mv 202 19,mv 203 22,ia 204 2 202 203,⟨(some 205),.faddr 0 (.tmp 204),none⟩,ld 206 205,mv 207 0,mv 208 22,ia 209 3 207 208,⟨(some 210),.faddr 0 (.tmp 209),none⟩,ld 211 210,⟨(some 212),.bin .neq (.prim .int) false (.tmp 206) (.tmp 211),none⟩] [0,0,3,7,15,0,0,96,224,480,1023])
 (.cond (.tmp 212)
 (.seq (.reg [⟨(some 6),.mov (.const (.bool false)),none⟩])
 (.ret))
 (.skip)))))
 (.reg [bc 213 .add 199 1,mv 199 213])))
def A.lb5_1:MCode:=.seq (.reg [bi 111 .lss 110 109])
 (.seq (.cond (.tmp 111)
 (.skip)
 (.exit 2))
 (.seq (.block 3 (.seq (.reg [ia 112 3 108 110,⟨(some 113),.load (some 3) (.tmp 112),none⟩,⟨(some 15),.alloc [(.int .i64 0),(.int .i64 0),.nilslice] 78,none⟩,⟨none,.store 3 (.tmp 15) (.tmp 113),none⟩])
 (.seq (.seq (.reg [mv 114 8,⟨(some 115),.call (.const (.func 27 [] [])) [(.tmp 114),(.const (.bool true))],none⟩,⟨(some 116),.bin .neq (.prim .int) true (.tmp 115) (.const (.int .i64 0)),none⟩,mv 117 116,⟨(some 118),.mov (.tmp 8),(some (117,false))⟩,⟨(some 119),.load (some 3) (.tmp 15),(some (117,false))⟩,⟨(some 120),.call (.const (.func 28 [] [])) [(.tmp 118),(.tmp 119)],(some (117,false))⟩,⟨(some 121),.bin .neq (.prim .int) true (.tmp 120) (.const (.int .i64 18)),(some (117,false))⟩,⟨(some 122),.pick (.tmp 117) (.const (.bool true)) (.tmp 121),none⟩,mv 123 122,⟨(some 124),.mov (.tmp 8),(some (123,false))⟩,⟨(some 125),.call (.const (.func 27 [] [])) [(.tmp 124),(.const (.bool false))],(some (123,false))⟩,⟨(some 126),.bin .neq (.prim .int) true (.tmp 125) (.const (.int .i64 0)),(some (123,false))⟩,⟨(some 127),.pick (.tmp 123) (.const (.bool true)) (.tmp 126),none⟩,mv 128 127,⟨(some 129),.mov (.tmp 8),(some (128,false))⟩,⟨(some 130),.load (some 3) (.tmp 15),(some (128,false))⟩,⟨(some 131),.call (.const (.func 28 [] [])) [(.tmp 129),(.tmp 130)],(some (128,false))⟩,⟨(some 132),.bin .neq (.prim .int) true (.tmp 131) (.const (.int .i64 0)),(some (128,false))⟩,⟨(some 133),.pick (.tmp 128) (.const (.bool true)) (.tmp 132),none⟩,mv 134 133,⟨(some 135),.mov (.tmp 8),(some (134,false))⟩,⟨(some 136),.load (some 3) (.tmp 15),(some (134,false))⟩,⟨(some 137),.call (.const (.func 28 [] [])) [(.tmp 135),(.tmp 136)],(some (134,false))⟩,⟨(some 138),.bin .neq (.prim .int) true (.tmp 137) (.const (.int .i64 11)),(some (134,false))⟩,⟨(some 139),.pick (.tmp 134) (.const (.bool true)) (.tmp 138),none⟩])
 (.cond (.tmp 139)
 (.seq (.reg [⟨(some 6),.mov (.const (.bool false)),none⟩])
 (.ret))
 (.skip)))
 (.seq (.reg [mv 141 8,mv 142 10,⟨(some 143),.call (.const (.func 29 [] [])) [(.tmp 141),(.tmp 142)],none⟩,mv 140 143,xt 144 140 0,xt 145 140 1,xt 146 140 2,mv 16 144,mv 17 145,mv 18 146])
 (.seq (.regD [mv 147 18,⟨(some 148),.bin .neq (.prim .int) true (.tmp 147) (.const (.int .i64 0)),none⟩,mv 149 148,⟨(some 150),.mov (.tmp 17),(some (149,false))⟩,⟨(some 151),.bin .neq (.prim .int) true (.tmp 150) (.const (.int .i64 0)),(some (149,false))⟩,⟨(some 152),.pick (.tmp 149) (.const (.bool true)) (.tmp 151),none⟩,mv 153 152,⟨(some 154),.mov (.tmp 16),(some (153,false))⟩,⟨(some 155),.len 1 (.tmp 154),(some (153,false))⟩,⟨(some 156),.bin .neq (.prim .int) true (.tmp 155) (.const (.int .i64 1)),(some (153,false))⟩,⟨(some 157),.pick (.tmp 153) (.const (.bool true)) (.tmp 156),none⟩,mv 158 157,⟨(some 159),.mov (.tmp 16),(some (158,false))⟩,⟨(some 160),.iaddrSl 2 (.tmp 159) (.const (.int .i64 0)),(some (158,false))⟩,⟨(some 161),.load (some 2) (.tmp 160),(some (158,false))⟩,⟨(some 162),.faddr 0 (.tmp 15),(some (158,false))⟩,⟨(some 163),.load none (.tmp 162),(some (158,false))⟩,⟨(some 164),.faddr 1 (.tmp 15),(some (158,false))⟩,⟨(some 165),.load none (.tmp 164),(some (158,false))⟩,⟨(some 166),.build [(.int .i64 0),(.int .i64 0)] [(0,1,(.tmp 163)),(1,1,(.tmp 165))],(some (158,false))⟩,⟨(some 167),.bin .neq (.node [(0,none,(.prim .int)),(1,none,(.prim .int))]) false (.tmp 161) (.tmp 166),(some (158,false))⟩,⟨(some 168),.pick (.tmp 158) (.const (.bool true)) (.tmp 167),none⟩] [0,1,3,7,15,31,63,127,255,511,1023,2047,4095,8191,16383,4095,36863,4095,135167,495615,1048575,2097151])
 (.cond (.tmp 168)
 (.seq (.reg [⟨(some 6),.mov (.const (.bool false)),none⟩])
 (.ret))
 (.skip)))))))
 (.reg [bc 169 .add 110 1,mv 110 169])))
def A.lb5_2:MCode:=.seq (.reg [bi 56 .lss 55 54])
 (.seq (.cond (.tmp 56)
 (.skip)
 (.exit 0))
 (.seq (.block 1 (.seq (.reg [mv 57 55,mv 7 57])
 (.seq (.regD [mv 58 7,bc 59 .gtr 58 0,mv 60 59,⟨(some 61),.mov (.tmp 0),(some (60,true))⟩,⟨(some 62),.mov (.tmp 7),(some (60,true))⟩,⟨(some 63),.iaddrSl 3 (.tmp 61) (.tmp 62),(some (60,true))⟩,⟨(some 64),.faddr 0 (.tmp 63),(some (60,true))⟩,⟨(some 65),.load none (.tmp 64),(some (60,true))⟩,⟨(some 66),.mov (.tmp 0),(some (60,true))⟩,⟨(some 67),.mov (.tmp 7),(some (60,true))⟩,⟨(some 68),.bin .sub (.node []) false (.tmp 67) (.const (.int .i64 1)),(some (60,true))⟩,⟨(some 69),.iaddrSl 3 (.tmp 66) (.tmp 68),(some (60,true))⟩,⟨(some 70),.faddr 0 (.tmp 69),(some (60,true))⟩,⟨(some 71),.load none (.tmp 70),(some (60,true))⟩,⟨(some 72),.bin .leq (.node []) false (.tmp 65) (.tmp 71),(some (60,true))⟩,⟨(some 73),.pick (.tmp 60) (.tmp 72) (.const (.bool false)),none⟩] [0,1,3,7,7,31,63,127,7,7,519,1799,3847,7943,16383,32767])
 (.cond (.tmp 73)
 (.seq (.reg [⟨(some 74),.call (.const (.func 8 [] [])) [],none⟩,mv 6 74])
 (.ret))
 (.skip)))))
 (.reg [bc 75 .add 55 1,mv 55 75])))
def A.ta5_0:MCode:=.seq (.reg [mv 171 8,mv 172 12,⟨(some 173),.call (.const (.func 29 [] [])) [(.tmp 171),(.tmp 172)],none⟩,mv 170 173,xt 174 170 0,xt 175 170 1,xt 176 170 2,mv 19 174,mv 20 175,mv 21 176])
 (.seq (.seq (.reg [mv 177 21,⟨(some 178),.bin .neq (.prim .int) true (.tmp 177) (.const (.int .i64 0)),none⟩,mv 179 178,⟨(some 180),.mov (.tmp 19),(some (179,false))⟩,⟨(some 181),.len 1 (.tmp 180),(some (179,false))⟩,⟨(some 182),.mov (.tmp 2),(some (179,false))⟩,⟨(some 183),.mov (.tmp 0),(some (179,false))⟩,⟨(some 184),.len 1 (.tmp 183),(some (179,false))⟩,⟨(some 185),.mn [(.tmp 182),(.tmp 184)],(some (179,false))⟩,⟨(some 186),.bin .neq (.prim .int) false (.tmp 181) (.tmp 185),(some (179,false))⟩,⟨(some 187),.pick (.tmp 179) (.const (.bool true)) (.tmp 186),none⟩,mv 188 187,⟨(some 189),.mov (.tmp 20),(some (188,false))⟩,⟨(some 190),.mov (.tmp 0),(some (188,false))⟩,⟨(some 191),.len 1 (.tmp 190),(some (188,false))⟩,⟨(some 192),.mov (.tmp 19),(some (188,false))⟩,⟨(some 193),.len 1 (.tmp 192),(some (188,false))⟩,⟨(some 194),.bin .sub (.node []) false (.tmp 191) (.tmp 193),(some (188,false))⟩,⟨(some 195),.bin .neq (.prim .int) false (.tmp 189) (.tmp 194),(some (188,false))⟩,⟨(some 196),.pick (.tmp 188) (.const (.bool true)) (.tmp 195),none⟩])
 (.cond (.tmp 196)
 (.seq (.reg [⟨(some 6),.mov (.const (.bool false)),none⟩])
 (.ret))
 (.skip)))
 (.seq (.seq (.reg [mv 197 19,ln 198 197,mc 199 0])
 (.block 4 (.loop A.lb5_0)))
 (.seq (.reg [mv 214 0,mv 215 0,ln 216 215,mv 217 1,bi 218 .sub 216 217,⟨(some 219),.mx [(.const (.int .i64 0)),(.tmp 218)],none⟩,⟨(some 220),.sliceSl 3 (.tmp 214) (some (.tmp 219)) none none,none⟩,mv 23 220])
 (.seq (.reg [mv 222 8,⟨(some 223),.call (.const (.func 30 [] [])) [(.tmp 222)],none⟩,mv 221 223,xt 224 221 0,xt 225 221 1,mv 24 224,mv 25 225])
 (.seq (.reg [mv 226 8,⟨(some 227),.call (.const (.func 33 [] [])) [(.tmp 226)],none⟩,⟨(some 228),.call (.const (.func 32 [] [])) [(.tmp 227)],none⟩,mv 229 23,⟨(some 230),.call (.const (.func 31 [] [])) [(.tmp 228),(.tmp 229)],none⟩,mv 231 230,⟨(some 232),.mov (.tmp 24),(some (231,true))⟩,⟨(some 233),.mov (.tmp 0),(some (231,true))⟩,⟨(some 234),.len 1 (.tmp 233),(some (231,true))⟩,⟨(some 235),.mov (.tmp 23),(some (231,true))⟩,⟨(some 236),.len 1 (.tmp 235),(some (231,true))⟩,⟨(some 237),.bin .sub (.node []) false (.tmp 234) (.tmp 236),(some (231,true))⟩,⟨(some 238),.bin .eql (.prim .int) false (.tmp 232) (.tmp 237),(some (231,true))⟩,⟨(some 239),.pick (.tmp 231) (.tmp 238) (.const (.bool false)),none⟩,mv 240 239,⟨(some 241),.mov (.tmp 25),(some (240,true))⟩,⟨(some 242),.mov (.tmp 0),(some (240,true))⟩,⟨(some 243),.len 1 (.tmp 242),(some (240,true))⟩,⟨(some 244),.bin .eql (.prim .int) false (.tmp 241) (.tmp 243),(some (240,true))⟩,⟨(some 245),.pick (.tmp 240) (.tmp 244) (.const (.bool false)),none⟩,mv 246 245,⟨(some 247),.call (.const (.func 8 [] [])) [],(some (246,true))⟩,⟨(some 248),.pick (.tmp 246) (.tmp 247) (.const (.bool false)),none⟩,mv 6 248])
 (.ret))))))
def A.ta5_1:MCode:=.seq (.reg [mv 77 1,⟨(some 78),.call (.const (.func 24 [] [])) [(.tmp 77)],none⟩,mv 76 78,xt 79 76 0,xt 80 76 1,mv 8 79,mv 9 80])
 (.seq (.seq (.reg [mv 81 9,⟨(some 82),.bin .neq (.prim .int) true (.tmp 81) (.const (.int .i64 0)),none⟩,mv 83 82,⟨(some 84),.mov (.tmp 8),(some (83,false))⟩,⟨(some 85),.bin .eql (.prim .ptr) true (.tmp 84) (.const .nilptr),(some (83,false))⟩,⟨(some 86),.pick (.tmp 83) (.const (.bool true)) (.tmp 85),none⟩])
 (.cond (.tmp 86)
 (.seq (.reg [⟨(some 6),.mov (.const (.bool false)),none⟩])
 (.ret))
 (.skip)))
 (.seq (.reg [mv 88 8,⟨(some 89),.call (.const (.func 25 [] [])) [(.tmp 88),(.const (.int .i64 1))],none⟩,mv 87 89,xt 90 87 0,xt 91 87 1,mv 10 90,mv 11 91])
 (.seq (.reg [mv 93 8,mv 94 2,⟨(some 95),.call (.const (.func 25 [] [])) [(.tmp 93),(.tmp 94)],none⟩,mv 92 95,xt 96 92 0,xt 97 92 1,mv 12 96,mv 13 97])
 (.seq (.seq (.reg [mv 98 11,mv 99 13,bi 100 .add 98 99,⟨(some 101),.bin .neq (.prim .int) true (.tmp 100) (.const (.int .i64 0)),none⟩,mv 102 101,⟨(some 103),.mov (.tmp 10),(some (102,false))⟩,⟨(some 104),.mov (.tmp 12),(some (102,false))⟩,⟨(some 105),.bin .eql (.prim .chan) false (.tmp 103) (.tmp 104),(some (102,false))⟩,⟨(some 106),.pick (.tmp 102) (.const (.bool true)) (.tmp 105),none⟩])
 (.cond (.tmp 106)
 (.seq (.reg [⟨(some 6),.mov (.const (.bool false)),none⟩])
 (.ret))
 (.skip)))
 (.seq (.seq (.reg [mv 107 0,⟨(some 108),.call (.const (.func 26 [] [])) [(.tmp 107)],none⟩,ln 109 108,mc 110 0])
 (.block 2 (.loop A.lb5_1)))
 A.ta5_0)))))
def A.b5:MCode:=.seq (.reg [⟨(some 6),.mov (.const (.bool false)),none⟩])
 (.seq (.seq (.reg [mv 26 0,ln 27 26,bc 28 .gtr 27 20,mv 29 28,⟨(some 30),.mov (.tmp 0),(some (29,false))⟩,⟨(some 31),.call (.const (.func 21 [] [])) [(.tmp 30),(.const (.int .i64 20))],(some (29,false))⟩,⟨(some 32),.un .not (.tmp 31),(some (29,false))⟩,⟨(some 33),.pick (.tmp 29) (.const (.bool true)) (.tmp 32),none⟩,mv 34 33,⟨(some 35),.mov (.tmp 0),(some (34,false))⟩,⟨(some 36),.call (.const (.func 22 [] [])) [(.tmp 35)],(some (34,false))⟩,⟨(some 37),.bin .neq (.prim .int) true (.tmp 36) (.const (.int .i64 0)),(some (34,false))⟩,⟨(some 38),.pick (.tmp 34) (.const (.bool true)) (.tmp 37),none⟩,mv 39 38,⟨(some 40),.mov (.tmp 1),(some (39,false))⟩,⟨(some 41),.call (.const (.func 23 [] [])) [(.tmp 40)],(some (39,false))⟩,⟨(some 42),.bin .neq (.prim .int) true (.tmp 41) (.const (.int .i64 0)),(some (39,false))⟩,⟨(some 43),.pick (.tmp 39) (.const (.bool true)) (.tmp 42),none⟩,mv 44 43,⟨(some 45),.mov (.tmp 2),(some (44,false))⟩,⟨(some 46),.bin .lss (.node []) false (.tmp 45) (.const (.int .i64 1)),(some (44,false))⟩,⟨(some 47),.pick (.tmp 44) (.const (.bool true)) (.tmp 46),none⟩,mv 48 47,⟨(some 49),.mov (.tmp 2),(some (48,false))⟩,⟨(some 50),.bin .gtr (.node []) false (.tmp 49) (.const (.int .i64 16)),(some (48,false))⟩,⟨(some 51),.pick (.tmp 48) (.const (.bool true)) (.tmp 50),none⟩])
 (.cond (.tmp 51)
 (.seq (.reg [⟨(some 52),.call (.const (.func 8 [] [])) [],none⟩,mv 6 52])
 (.ret))
 (.skip)))
 (.seq (.seq (.reg [mv 53 0,ln 54 53,mc 55 0])
 (.block 0 (.loop A.lb5_2)))
 A.ta5_1))
theorem A.c5:cFunc Tryz.prog 5=some ⟨249,[.tmp 6],A.b5⟩:=by kernel_rfl
def A.k5{K Q f c args st}:=@A.kk 5 _ _ _ A.c5 rfl K Q f c args st
theorem awake_eq{h:T O}{N:Nat}{w:List Nat}:A.C.call (.func 8 [] []) [] ⟨h,N,w⟩=some (.bool true,⟨h,N,w⟩):=by
 rw[Cx.call_eq]
 rfl
theorem RcS.slice{h:T O}{N:Nat}{v:V}{l:List Rc}{w:List Nat}(s:RcS h N v l){lo:Nat}(h1:lo≤l.length):∃v',sliceK ⟨h,N,w⟩ 3 (some v) (some (some (.int .i64 lo))) (some none) (some none)=some (v',⟨h,N,w⟩)∧RcS h N v' (l.drop lo):=by
 obtain⟨cs,g1,g2,g3⟩:=s
 obtain⟨v',e1,e2⟩:=sliceK_sn (z:=3) (w:=w) (by decide) g1 (lo:=lo) (hi:=cs.length) (by omega) (Nat.le_refl _) (some (.int .i64 lo)) none (.inl rfl) (.inr ⟨rfl,rfl⟩)
 rw[List.take_length]at e2
 refine⟨v',e1,cs.drop lo,e2,by simp[g2],fun j x hx=>?_⟩
 rw[List.getElem?_drop]at hx
 obtain⟨u,q1,q2⟩:=g3 _ x hx
 exact⟨u,by rw[List.getElem?_drop];exact q1,q2⟩
structure KpA (v:V) (R C2 cap b:Nat) (r:T V):Prop where
 r0:r.get 0=some v
 r1:r.get 1=some (.int .i64 cap)
 r2:r.get 2=some (.int .i64 b)
 r8:r.get 8=some (.ptr R 0)
 r12:r.get 12=some (.chan C2)
end Go.Mx
namespace Go.Mx
open Go Go.Proofs
set_option maxRecDepth 1000000
def Has(h:T O)(t:TypeId)(v:V):Prop:=∀i∈rowV v,∃c w,h.get i=some (.cells c t w)
theorem Has.upd{D:Nat→Prop}{h h':T O}{N N':Nat}{t:TypeId}{v:V}(s:Has h t v)(k:Upd D h N h' N')(hN:∀i∈rowV v,i<N)(hd:∀i∈rowV v,¬D i):Has h' t v:=fun i hi=>by
 obtain⟨c,w,hc⟩:=s i hi
 exact⟨c,w,(k.get i (hN i hi) (hd i hi)).trans hc⟩
theorem Sn.row_lt{z:Nat}{h:T O}{N:Nat}{v:V}{l:List (List V)}(s:Sn z h N v l):∀i∈rowV v,i<N:=fun i hi=>by
 rcases s with⟨_,rfl|rfl⟩|⟨j,o,cp,c,e,rw,rfl,hj,_⟩
 ·simp[rowV]at hi
 ·simp[rowV]at hi
 ·simp[rowV]at hi;omega
theorem Sn.moved{D:Nat→Prop}{z:Nat}{h h':T O}{N N':Nat}{v:V}{l:List (List V)}(s:Sn z h N v l)(k:Upd D h N h' N')(hd:∀i∈rowV v,¬D i):Sn z h' N' v l:=by
 rcases s with s|⟨i,o,cp,c,e,rw,h1,h2,h3,h4⟩
 ·exact .inl s
 ·exact .inr ⟨i,o,cp,c,e,rw,h1,Nat.lt_of_lt_of_le h2 k.le,(k.get i h2 (hd i (by rw[h1];simp[rowV]))).trans h3,h4⟩
theorem slc_flat{z:Nat}:∀{l:List (List V)} {c:List V} {o:Nat},(∀j x,l[j]?=some x→slc c (o+j*z) z=some x)→o+l.length*z≤c.length→slc c o (l.length*z)=some l.flatten
 |[],c,o,_,h=>by simp[slc]at h ⊢;omega
 |x::l,c,o,h,hl=>by
  obtain⟨h1,h2⟩:=slc_some (h 0 x rfl)
  simp only[List.length_cons,Nat.add_mul,Nat.one_mul,Nat.zero_mul,Nat.add_zero]at hl h1 h2 ⊢
  obtain⟨h3,h4⟩:=slc_some (slc_flat (l:=l) (c:=c) (o:=o+z) (fun j y hj=>by
   have:=h (j+1) y (by simpa using hj)
   rw[show o+z+j*z=o+(j+1)*z by rw[Nat.add_mul];omega];exact this) (by omega))
  unfold slc
  rw[if_pos (by omega),List.flatten_cons,h4,h2]
  congr 1
  rw[Nat.add_comm (l.length*z) z,List.take_add,←List.drop_drop]
theorem src_sn{z:Nat}{h:T O}{N:Nat}{w:List Nat}{v:V}{l:List (List V)}(s:Sn z h N v l):srcCells ⟨h,N,w⟩ z v=some (l.length,l.flatten):=by
 rcases s with⟨rfl,rfl|rfl⟩|⟨i,o,cp,c,e,rw,rfl,h2,h3,h4,h5,h6⟩
 ·rfl
 ·rfl
 ·simp only[srcCells,if_true,St.row,h3,slc_flat h4 h5]
def Cw(z:Nat)(e:TypeId)(N0:Nat)(h:T O)(N:Nat)(y:V)(l:List (List V)):Prop:=
 (∀x∈l,x.length=z)∧((l=[]∧∃i,y=.slice i 0 0 (some 0) z∧N0≤i∧i<N∧h.get i=some (.cells [] e true))∨∃i,y=.slice i 0 l.length none z∧N0≤i∧i<N∧h.get i=some (.cells l.flatten e true))
theorem Cw.keep{z:Nat}{e:TypeId}{N0:Nat}{h h':T O}{N N':Nat}{y:V}{l:List (List V)}(s:Cw z e N0 h N y l)(k:Keeps h N h' N'):Cw z e N0 h' N' y l:=by
 obtain⟨hl,⟨h0,i,h1,h2,h3,h4⟩|⟨i,h1,h2,h3,h4⟩⟩:=s
 ·exact⟨hl,.inl ⟨h0,i,h1,h2,Nat.lt_of_lt_of_le h3 k.le,(k.get i h3).trans h4⟩⟩
 ·exact⟨hl,.inr ⟨i,h1,h2,Nat.lt_of_lt_of_le h3 k.le,(k.get i h3).trans h4⟩⟩
theorem copy_row{z bytes:Nat}{e:TypeId}{N0:Nat}{h:T O}{N i:Nat}{w:List Nat}{v:V}{l:List (List V)}(hz:0<z)(hs:Sn z h N v l)(hlz:∀x∈l,x.length=z)(hi:i<N)(h0:N0≤i)(hg:h.get i=some (.cells [] e true))(hb:(2*l.length+1000)*bytes≤281474976710656):
  ∃y h' N',appendV ⟨h,N,w⟩ z bytes e (.slice i 0 0 (some 0) z) v=some (y,⟨h',N',w⟩)∧Keeps h N h' N'∧Cw z e N0 h' N' y l:=by
 by_cases hl:l.length=0
 ·have:l=[]:=List.eq_nil_of_length_eq_zero hl
  subst this
  exact⟨_,h,N,by simp[appendV,src_sn hs],Keeps.refl,by simp,.inl ⟨rfl,i,rfl,h0,hi,hg⟩⟩
 ·refine⟨.slice N 0 l.length none z,h.set N (.cells l.flatten e true),N+1,?_,Keeps.refl.new _,hlz,.inr ⟨N,rfl,by omega,by omega,by rw[T.get_set,if_pos rfl]⟩⟩
  have hne:l≠[]:=fun hc=>hl (by rw[hc];rfl)
  simp only[appendV,src_sn hs,maxBytes,St.row,hg,slc,St.alloc]
  simp[hne]
  omega
theorem push_row{z bytes:Nat}{e:TypeId}{N0:Nat}{h:T O}{N:Nat}{w:List Nat}{y u:V}{l:List (List V)}{x:List V}(hz:0<z)(s:Cw z e N0 h N y l)(hx:x.length=z)(h0:N0≤N)(hu:srcCells ⟨h,N,w⟩ z u=some (1,x))(hb:(2*(l.length+1)+1000)*bytes≤281474976710656):
  ∃h' w',appendV ⟨h,N,w⟩ z bytes e y u=some (.slice N 0 (l.length+1) none z,⟨h',N+1,w'⟩)∧(∀i∈w',i∈w∨N0≤i)∧Upd (fun i=>N0≤i∧i∈rowV y) h N h' (N+1)∧Row z e h' (.slice N 0 (l.length+1) none z) (l++[x]):=by
 obtain⟨hl,⟨rfl,i,rfl,h1,h2,h3⟩|⟨i,rfl,h1,h2,h3⟩⟩:=s
 ·refine⟨h.set N (.cells x e true),w,?_,fun i hi=>.inl hi,Upd.refl.new _,by simpa using hx,.inr ⟨N,[],0,by simp,by simp,by rw[T.get_set];simp⟩⟩
  simp only[appendV,hu,maxBytes,St.row,h3,St.alloc]
  simp[slc]at hb ⊢
  omega
 ·have hfl:=flatten_len hl
  refine⟨(h.set i .dead).set N (.cells (l.flatten++x) e true),i::w,?_,fun j hj=>?_,(Upd.refl.set (.inl ⟨h1,by simp[rowV]⟩)).new _,fun y hy=>?_,.inr ⟨N,[],0,by simp,by simp,by rw[T.get_set];simp⟩⟩
  ·simp only[appendV,hu,maxBytes,St.row,h3]
   rw[if_neg (by omega),if_neg (by rintro(h|h|h)<;>omega)]
   simp only[if_true]
   rw[if_neg (by rw[hfl,Nat.add_mul];omega),if_pos ⟨by rw[hfl];omega,trivial,trivial⟩]
   rfl
  ·rcases List.mem_cons.1 hj with rfl|hj
   ·exact .inr h1
   ·exact .inl hj
  ·rcases List.mem_append.1 hy with hy|hy
   ·exact hl y hy
   ·simp at hy;rw[hy,hx]
end Go.Mx
namespace Go.Mx
open Go Go.Proofs
set_option maxRecDepth 1000000
def A.b67:MCode:=.seq (.reg [mc 4 0])
 (.seq (.seq (.reg [mv 5 0,⟨(some 6),.nilck (.tmp 5),none⟩,⟨(some 7),.faddr 6 (.tmp 6),none⟩,ld 8 7,mv 9 1,ia 10 4 8 9,⟨(some 11),.faddr 3 (.tmp 10),none⟩,ld 12 11])
 (.cond (.tmp 12)
 (.seq (.reg [mc 4 10])
 (.ret))
 (.skip)))
 (.seq (.reg [mv 13 0,⟨(some 14),.nilck (.tmp 13),none⟩,⟨(some 15),.faddr 6 (.tmp 14),none⟩,ld 16 15,mv 17 1,ia 18 4 16 17,⟨(some 19),.faddr 3 (.tmp 18),none⟩,⟨none,.store 1 (.tmp 19) (.const (.bool true)),none⟩])
 (.seq (.reg [mc 4 0])
 (.ret))))
theorem A.c67:cFunc Tryz.prog 67=some ⟨20,[.tmp 4],A.b67⟩:=by kernel_rfl
def A.k67{K Q f c args st}:=@A.kk 67 _ _ _ A.c67 rfl K Q f c args st
def A.b68:MCode:=.seq (.reg [⟨(some 4),.mov (.const .nilslice),none⟩,mc 5 0,mc 6 0])
 (.seq (.reg [mv 8 0,⟨(some 9),.nilck (.tmp 8),none⟩,⟨(some 10),.faddr 6 (.tmp 9),none⟩,ld 11 10,mv 12 1,ia 13 4 11 12,⟨(some 14),.load (some 4) (.tmp 13),none⟩,⟨(some 7),.alloc [(.int .i64 0),.nilslice,(.int .i64 0),(.bool false)] 218,none⟩,⟨none,.store 4 (.tmp 7) (.tmp 14),none⟩])
 (.seq (.seq (.reg [⟨(some 15),.faddr 3 (.tmp 7),none⟩,ld 16 15])
 (.cond (.tmp 16)
 (.seq (.reg [⟨(some 4),.mov (.const .nilslice),none⟩,mc 5 0,mc 6 10])
 (.ret))
 (.skip)))
 (.seq (.regD [mv 17 0,⟨(some 18),.nilck (.tmp 17),none⟩,⟨(some 19),.faddr 6 (.tmp 18),none⟩,ld 20 19,mv 21 1,mv 22 0,⟨(some 23),.nilck (.tmp 22),none⟩,⟨(some 24),.faddr 6 (.tmp 23),none⟩,ld 25 24,mv 26 1,ia 27 4 20 21,⟨(some 28),.faddr 1 (.tmp 27),none⟩,⟨none,.store 1 (.tmp 28) (.const .nilslice),none⟩,ia 29 4 25 26,⟨(some 30),.faddr 2 (.tmp 29),none⟩,⟨none,.store 1 (.tmp 30) (.const (.int .i64 0)),none⟩] [0,1,3,7,0,0,32,96,224,0,511,1535,3583,8191,16383,32767])
 (.seq (.regD [⟨(some 31),.faddr 1 (.tmp 7),none⟩,ld 32 31,⟨(some 33),.faddr 2 (.tmp 7),none⟩,ld 34 33,mv 4 32,mv 5 34,mc 6 0] [0,1,0,4,3,31,63])
 (.ret)))))
theorem A.c68:cFunc Tryz.prog 68=some ⟨35,[.tmp 4,.tmp 5,.tmp 6],A.b68⟩:=by kernel_rfl
def A.k68{K Q f c args st}:=@A.kk 68 _ _ _ A.c68 rfl K Q f c args st
structure ML where
 cap:Int
 buf:List (Int×Int)
 lost:Int
 gone:Bool
def mlC(p:ML×V):List V:=[.int .i64 p.1.cap,p.2,.int .i64 p.1.lost,.bool p.1.gone]
structure MS where
 R:Nat
 cap:Int
 va:V
 all:List Rc
 last:Int
 fz:Bool
 over:Int
 ref:Int
 vl:V
 ls:List (ML×V)
def MS.cells(M:MS):List V:=[.int .i64 M.cap,M.va,.int .i64 M.last,.bool M.fz,.int .i64 M.over,.int .i64 M.ref,M.vl]
def RcB(B:Nat)(h:T O)(N:Nat)(v:V)(l:List Rc):Prop:=∃cs:List (List V),Sn 3 h N v cs∧(∀c∈cs,c.length=3)∧cs.length=l.length∧∀(j:Nat) (x:Rc),l[j]?=some x→∃u,cs[j]?=some (rcC (x,u))∧Sl h N u (strs x.vs)∧∀i∈rowV u,i<B
theorem RcB.moved{D:Nat→Prop}{B:Nat}{h h':T O}{N N':Nat}{v:V}{l:List Rc}(s:RcB B h N v l)(k:Upd D h N h' N')(hd:∀i∈rowV v,¬D i)(hB:∀i,D i→B≤i):RcB B h' N' v l:=by
 obtain⟨cs,h1,h2,h3,h4⟩:=s
 refine⟨cs,h1.moved k hd,h2,h3,fun j x hx=>?_⟩
 obtain⟨u,g1,g2,g3⟩:=h4 j x hx
 exact⟨u,g1,g2.moved k fun i hi hc=>by have:=g3 i hi;have:=hB i hc;omega,g3⟩
theorem RcB.rcs{B:Nat}{h:T O}{N:Nat}{v:V}{l:List Rc}(s:RcB B h N v l):RcS h N v l:=by
 obtain⟨cs,h1,h2,h3,h4⟩:=s
 refine⟨cs,h1,h3,fun j x hx=>?_⟩
 obtain⟨u,g1,g2,_⟩:=h4 j x hx
 exact⟨u,g1,g2⟩
structure MI (B:Nat) (h:T O) (N:Nat) (M:MS):Prop where
 r:h.get M.R=some (.cells M.cells 99 true)
 va:RcB B h N M.va M.all
 vat:Has h 68 M.va
 vl:Row 4 218 h M.vl (M.ls.map mlC)
 bs:∀p∈M.ls,Sn 2 h N p.2 (p.1.buf.map ncC)∧Has h 219 p.2
 lt:M.R<N∧∀i∈rowV M.vl,i<N
 ge:B≤M.R∧∀i∈rowV M.vl,B≤i
def MS.D(M:MS)(i:Nat):Prop:=i=M.R∨i∈rowV M.vl
theorem Row.has{z:Nat}{e:TypeId}{h:T O}{v:V}{l:List (List V)}(s:Row z e h v l):Has h e v:=fun i hi=>by
 obtain⟨_,⟨_,rfl⟩|⟨j,x,m,rfl,_,hg⟩⟩:=s
 ·simp[rowV]at hi
 ·simp[rowV]at hi;subst hi;exact⟨_,_,hg⟩
theorem Has.ne{h:T O}{t t':TypeId}{v:V}{R:Nat}{c:List V}{w:Bool}(s:Has h t v)(g:h.get R=some (.cells c t' w))(ht:t≠t'):R∉rowV v:=fun hc=>by
 obtain⟨c',w',hg⟩:=s R hc
 rw[g]at hg;simp at hg;exact ht hg.2.1.symm
theorem Has.dis{h:T O}{t t':TypeId}{v v':V}(s:Has h t v)(s':Has h t' v')(ht:t≠t'):∀i∈rowV v,i∉rowV v':=fun i hi hc=>by
 obtain⟨c',w',hg⟩:=s i hi
 exact s'.ne hg ht.symm hc
theorem MI.upd{D:Nat→Prop}{B:Nat}{h h':T O}{N N':Nat}{M:MS}(I:MI B h N M)(k:Upd D h N h' N')(hB:∀i,D i→B≤i)(ht:∀i c t w,D i→h.get i=some (.cells c t w)→t≠99∧t≠68∧t≠218∧t≠219):MI B h' N' M:=by
 have hs:∀t v,Has h t v→(t=99∨t=68∨t=218∨t=219)→∀i∈rowV v,¬D i:=fun t v s hh i hi hc=>by
  obtain⟨c,w,hg⟩:=s i hi
  have:=ht i c t w hc hg
  rcases hh with rfl|rfl|rfl|rfl<;>simp at this
 have n1:=hs _ _ I.vat (by simp)
 have n2:=hs _ _ I.vl.has (by simp)
 have n0:¬D M.R:=fun hc=>(ht _ _ _ _ hc I.r).1 rfl
 have hva:∀i∈rowV M.va,i<N:=by obtain⟨cs,h1,_⟩:=I.va;exact h1.row_lt
 refine⟨(k.get _ I.lt.1 n0).trans I.r,I.va.moved k n1 hB,I.vat.upd k hva n1,I.vl.eq fun i hi=>k.get i (I.lt.2 i hi) (n2 i hi),fun p hp=>?_,⟨Nat.lt_of_lt_of_le I.lt.1 k.le,fun i hi=>Nat.lt_of_lt_of_le (I.lt.2 i hi) k.le⟩,I.ge⟩
 obtain⟨b1,b2⟩:=I.bs p hp
 have n3:=hs _ _ b2 (by simp)
 exact⟨b1.moved k n3,b2.upd k b1.row_lt n3⟩
theorem MI.keep{B:Nat}{h h':T O}{N N':Nat}{M:MS}(I:MI B h N M)(k:Keeps h N h' N'):MI B h' N' M:=I.upd (D:=fun _=>False) k.upd (by simp) (by simp)
theorem MI.write{B:Nat}{h h':T O}{N N':Nat}{M:MS}(I:MI B h N M)(k:Upd M.D h N h' N')(last:Int)(fz:Bool)(over ref:Int){va:V}{all:List Rc}{vl:V}{ls:List (ML×V)}(g:h'.get M.R=some (.cells (MS.cells ⟨M.R,M.cap,va,all,last,fz,over,ref,vl,ls⟩) 99 true))(a1:RcB B h' N' va all)(a2:Has h' 68 va)(a3:Row 4 218 h' vl (ls.map mlC))(a4:∀p∈ls,Sn 2 h' N' p.2 (p.1.buf.map ncC)∧Has h' 219 p.2)(a5:∀i∈rowV vl,B≤i∧i<N'):MI B h' N' ⟨M.R,M.cap,va,all,last,fz,over,ref,vl,ls⟩:=
 ⟨g,a1,a2,a3,a4,⟨Nat.lt_of_lt_of_le I.lt.1 k.le,fun i hi=>(a5 i hi).2⟩,⟨I.ge.1,fun i hi=>(a5 i hi).1⟩⟩
theorem MI.rest{B:Nat}{h h':T O}{N N':Nat}{M:MS}(I:MI B h N M)(k:Upd M.D h N h' N'):RcB B h' N' M.va M.all∧Has h' 68 M.va∧∀p∈M.ls,Sn 2 h' N' p.2 (p.1.buf.map ncC)∧Has h' 219 p.2:=by
 have nd:∀t v,Has h t v→t≠99→t≠218→∀i∈rowV v,¬M.D i:=fun t v s t1 t2 i hi hc=>by
  rcases hc with rfl|hc
  ·exact s.ne I.r t1 hi
  ·exact s.dis I.vl.has t2 i hi hc
 have hB:∀i,M.D i→B≤i:=fun i hi=>by
  rcases hi with rfl|hi
  ·exact I.ge.1
  ·exact I.ge.2 i hi
 have n1:=nd _ _ I.vat (by simp) (by simp)
 have hva:∀i∈rowV M.va,i<N:=by obtain⟨cs,h1,_⟩:=I.va;exact h1.row_lt
 refine⟨I.va.moved k n1 hB,I.vat.upd k hva n1,fun p hp=>?_⟩
 obtain⟨b1,b2⟩:=I.bs p hp
 have n3:=nd _ _ b2 (by simp) (by simp)
 exact⟨b1.moved k n3,b2.upd k b1.row_lt n3⟩
theorem flat_set{z:Nat}{f:Nat}{x:V}:∀{l:List (List V)},(∀y∈l,y.length=z)→∀{k:Nat} {y:List V},l[k]?=some y→f<z→(l.set k (y.set f x)).flatten=l.flatten.set (k*z+f) x
 |[],_,k,y,h,_=>by simp at h
 |a::l,hl,0,y,h,hf=>by
  simp at h;subst h
  have:=hl a List.mem_cons_self
  simp[List.set_append,this,hf]
 |a::l,hl,k+1,y,h,hf=>by
  have h1:=hl a List.mem_cons_self
  have ih:=flat_set (x:=x) (l:=l) (fun y hy=>hl y (List.mem_cons_of_mem _ hy)) (by simpa using h) hf
  have e1:(k+1)*z+f=z+(k*z+f):=by rw[Nat.add_mul];omega
  simp only[List.set_cons_succ,List.flatten_cons,ih,e1]
  rw[List.set_append_right _ _ (by omega),h1]
  congr 2;omega
theorem splice_one{c:List V}{o:Nat}{x:V}(h:o<c.length):splice c o [x]=c.set o x:=by
 unfold splice
 rw[List.set_eq_take_append_cons_drop,if_pos h]
 simp
theorem Row.store{z:Nat}{e:TypeId}{h:T O}{v:V}{l:List (List V)}{k f:Nat}{y:List V}(s:Row z e h v l)(hy:l[k]?=some y)(hf:f<z):∃i c,v=.slice i 0 l.length none z∧h.get i=some (.cells c e true)∧k*z+z≤c.length∧slc c (k*z) z=some y∧∀(x:V),Row z e (h.set i (.cells (splice c (k*z+f) [x]) e true)) v (l.set k (y.set f x)):=by
 obtain⟨hl,⟨rfl,_⟩|⟨i,p,m,rfl,h1,h2⟩⟩:=s
 ·simp at hy
 have hk:=lt_of_get hy
 have hfl:=flatten_len hl
 have hkz:k*z+z≤l.length*z:=by
  have:=Nat.mul_le_mul_right z (show k+1≤l.length by omega)
  rw[Nat.add_mul,Nat.one_mul]at this;exact this
 have hyl:=hl y (List.mem_of_getElem? hy)
 obtain⟨q1,q2⟩:=slc_some (flatten_slc hl hy)
 refine⟨i,l.flatten++p,rfl,h2,by rw[List.length_append,hfl];omega,?_,fun x=>⟨fun a ha=>?_,.inr ⟨i,p,m,by simp,h1,?_⟩⟩⟩
 ·unfold slc
  rw[if_pos (by rw[List.length_append];omega),q2,List.drop_append_of_le_length (by omega),List.take_append_of_le_length (by rw[List.length_drop];omega)]
 ·rcases List.mem_or_eq_of_mem_set ha with ha|rfl
  ·exact hl a ha
  ·rw[List.length_set,hyl]
 ·rw[T.get_set,if_pos rfl,splice_one (by rw[List.length_append];omega),List.set_append_left _ _ (by omega),flat_set hl hy hf]
theorem munsub_fn{B:Nat}{h:T O}{N:Nat}{M:MS}(I:MI B h N M){k:Nat}{p:ML×V}(hp:M.ls[k]?=some p):FnD A.C M.D 67 [.ptr M.R 0,.int .i64 k] h N (fun v h' n'=>v=.int .i64 (if p.1.gone=true then 10 else 0)∧MI B h' n' {M with ls:=M.ls.set k ({p.1 with gone:=true},p.2)}):=by
 intro w
 have hr:=I.r
 unfold MS.cells at hr
 have hk:(M.ls.map mlC)[k]?=some (mlC p):=by rw[List.getElem?_map,hp];rfl
 have hlt:=lt_of_get hp
 have hlen:=I.vl.len
 rw[List.length_map]at hlen
 obtain⟨i,c,e1,g,h1,h2,h3⟩:=I.vl.store hk (f:=3) (by omega)
 have hst:=h3 (.bool true)
 have z3:=slc_get h2 (f:=3) (by omega)
 simp[mlC]at z3
 rw[List.length_map]at e1
 have hlt':(k:Int)<(M.ls.length:Int):=by omega
 have d0:¬i=M.R:=by rintro rfl;rw[I.r]at g;simp at g
 have d1:¬M.R=i:=fun hc=>d0 hc.symm
 have hi:i<N:=I.lt.2 i (by rw[e1];simp[rowV])
 have hD:M.D i:=.inr (by rw[e1];simp[rowV])
 rw[call_run,A.k67 (by simp)]
 by_cases hg:p.1.gone=true
 ·rw[hg]at z3
  simp(disch:=first|(simp;done)|omega|rfl) [-getElem?_pos, -oldIds,A.b67,eqPrim,hr,partV,e1,g,z3,hg,hlt,hlt']
  refine⟨fun i hi=>.inl hi,Upd.refl,rfl,?_⟩
  rw[←e1]
  have:M.ls.set k ({p.1 with gone:=true},p.2)=M.ls:=by
   have e3:p=({p.1 with gone:=true},p.2):=by rw[←hg]
   apply List.ext_getElem?
   intro j
   rw[List.getElem?_set]
   split
   ·rename_i hj;subst hj
    first|rw[if_pos hlt,hp]|rw[hp]
    exact congrArg some e3.symm
   ·rfl
  rw[this];exact I
 ·simp only[Bool.not_eq_true]at hg
  rw[hg]at z3
  have b3:k*4+3+1≤c.length:=by omega
  have U:Upd M.D h N (h.set i (.cells (splice c (k*4+3) [.bool true]) 218 true)) N:=Upd.refl.set (.inl hD)
  obtain⟨r1,r2,r3⟩:=I.rest U
  have hfin:=I.write (ls:=M.ls.set k ({p.1 with gone:=true},p.2)) (vl:=M.vl) U M.last M.fz M.over M.ref (by rw[T.get_set,if_neg d1];exact I.r) r1 r2 (by rw[List.map_set];exact hst) (fun q hq=>by
   rcases List.mem_or_eq_of_mem_set hq with hq|rfl
   ·exact r3 q hq
   ·exact r3 p (List.mem_of_getElem? hp)) (fun j hj=>⟨I.ge.2 j hj,I.lt.2 j hj⟩)
  rw[e1]at hfin
  simp(disch:=first|(simp;done)|omega|rfl) [-getElem?_pos, -oldIds,A.b67,eqPrim,hr,partV,e1,g,z3,hg,hlt,hlt',storeK2,b3]
  refine retD_fin ?_ U ⟨rfl,hfin⟩
  intro j hj _
  simp at hj
  rw[hj];exact hD
end Go.Mx
