/-lensletlaw06-/
import Derived.Test.YtgnadghjglamaaaGreatDoorLrF
set_option linter.all false
set_option maxHeartbeats 4000000
namespace Go.Mx
open Go Go.Proofs
variable {H:T O} {K M n:Nat}
set_option maxRecDepth 1000000
def A.lb3_0:Zaw:=sr [bi 262 .lss 261 260]
 (.seq (cd 262
 (.skip)
 (.exit 6))
 (.seq (.block 7 (sr [mv 263 261,mv 30 263]
 (.regD [mv 264 29,mv 265 26,mv 266 26,ln 267 266,bc 268 .sub 267 1,mv 269 30,bi 270 .sub 268 269,ia 271 1 265 270,ld 272 271,mv 273 24,mv 274 28,mv 275 30,bi 276 .sub 274 275,ia 277 1 273 276,ld 278 277,c2 279 16 272 278,c2 280 10 264 279,mv 29 280] [0,0,0,4,12,0,60,126,254,0,0,0,3072,7680,15872,32766,65535,131071])))
 (.reg [bc 281 .add 261 1,mv 261 281])))
def A.lb3_1:Zaw:=sr [bi 254 .lss 253 252]
 (.seq (cd 254
 (.skip)
 (.exit 4))
 (.seq (.block 5 (sr [mv 255 253,mv 28 255]
 (sr [ge 29 (.mov (.const (.str [48])))]
 (.seq (sr [mv 256 28,bc 257 .add 256 1,mv 258 26,ln 259 258,ge 260 (.mn [tq 257,tq 259]),mc 261 0]
 (.block 6 (.loop A.lb3_0)))
 (sr [ge 31 (.mov (.const (.str [48])))]
 (.seq (sr [mv 282 28]
 (.block 8 (sr [ei 284 282 0,mv 283 284]
 (cd 283
 (.reg [ge 31 (.mov (.const (.str [49])))])
 (sr [ei 286 282 1,mv 285 286]
 (cd 285
 (.reg [fa 287 1 3,ld 288 287,c1 289 17 288,mv 31 289])
 (.skip)))))))
 (sr [mv 290 29,mv 291 31,ge 292 (.bin .neq (.prim .str) false (tq 290) (tq 291))]
 (cd 292
 (sr [ge 6 (.mov (.const (.bool false)))]
 (.ret))
 (.skip)))))))))
 (.reg [bc 293 .add 253 1,mv 253 293])))
def A.lb3_2:Zaw:=sr [bi 169 .lss 168 167]
 (.seq (cd 169
 (.skip)
 (.exit 2))
 (.seq (.block 3 (sr [mv 170 168,mv 23 170]
 (.seq (.regD [mv 171 16,mv 172 23,ia 173 1 171 172,ld 174 173,mv 175 10,mv 176 23,ia 177 1 175 176,ld 178 177,mv 179 13,mv 180 23,ia 181 1 179 180,ld 182 181,c2 183 10 178 182,ge 184 (.bin .neq (.prim .str) false (tq 174) (tq 183)),mv 185 184,mh 186 19 185,mh 187 23 185,gz 188 185 (.bin .add (.node []) false (tq 187) (kq 1)),gz 189 185 (.iaddrSl 1 (tq 186) (tq 188)),gz 190 185 (.load none (tq 189)),mh 191 10 185,mh 192 23 185,gz 193 185 (.iaddrSl 1 (tq 191) (tq 192)),gz 194 185 (.load none (tq 193)),gz 195 185 (.bin .neq (.prim .str) false (tq 190) (tq 194)),pt 196 185 195,mv 197 196,mh 198 10 197,mh 199 23 197,gz 200 197 (.iaddrSl 1 (tq 198) (tq 199)),gz 201 197 (.load none (tq 200)),mh 202 11 197,mh 203 23 197,gz 204 197 (.iaddrSl 1 (tq 202) (tq 203)),gz 205 197 (.load none (tq 204)),gz 206 197 (.call (fq 10) [tq 201,tq 205]),mh 207 1 197,mh 208 23 197,gz 209 197 (.iaddrSl 1 (tq 207) (tq 208)),gz 210 197 (.load none (tq 209)),gz 211 197 (.bin .neq (.prim .str) false (tq 206) (tq 210)),pt 212 197 211] [0,0,3,7,0,0,48,112,0,0,768,1792,4080,8191,16383,32767,32767,98303,262143,524287,32767,32767,3178495,7372799,16777215,33554431,67108863,134217727,134217727,536870911,1073741823,134217727,134217727,6576668671,15166603263,34359738367,134217727,134217727,206292647935,481170554879,1099511627775,2199023255551])
 (cd 212
 (sr [ge 6 (.mov (.const (.bool false)))]
 (.ret))
 (.skip)))))
 (.reg [bc 213 .add 168 1,mv 168 213])))
def A.lb3_3:Zaw:=sr [bi 61 .lss 60 59]
 (.seq (cd 61
 (.skip)
 (.exit 0))
 (.seq (.block 1 (sr [mv 62 60,mv 9 62]
 (.regD [mv 63 8,mv 64 1,mv 65 9,ia 66 1 64 65,ld 67 66,mv 68 2,mv 69 9,ia 70 1 68 69,ld 71 70,c2 72 10 67 71,ge 73 (.bslice 22 1 1 [(.str [])] [(0,1,(tq 72))]),ge 74 (.append 1 16 22 [(.str [])] (tq 63) (tq 73)),mv 8 74] [0,0,0,6,14,0,0,96,224,510,1022,2047,4095])))
 (.reg [bc 75 .add 60 1,mv 60 75])))
def A.ta3_0:Zaw:=sr [mv 294 19,ge 295 (.iaddrSl 1 (tq 294) (kq 0)),ld 296 295,ge 297 (.bin .eql (.prim .str) true (tq 296) (.const (.str [48]))),mv 6 297]
 (.ret)
def A.ta3_1:Zaw:=.seq (sr [mv 251 24,ln 252 251,mc 253 0]
 (.block 4 (.loop A.lb3_1)))
 A.ta3_0
def A.ta3_2:Zaw:=sr [lN 215 4 3,ge 216 (.call (fq 14) [tq 215,.const (.int .i64 12)]),mv 214 216,xt 217 214 0,xt 218 214 1,mv 24 217,mv 25 218]
 (sr [lN 220 4 3,c1 221 15 220,mv 219 221,xt 222 219 0,xt 223 219 1,mv 26 222,mv 27 223]
 (.seq (sr [mv 224 25,ni 225 224 0,mv 226 225,mh 227 27 226,gz 228 226 (.bin .neq (.prim .int) true (tq 227) (kq 0)),pt 229 226 228,mv 230 229,mh 231 24 230,gz 232 230 (.len 1 (tq 231)),gz 233 230 (.bin .neq (.prim .int) true (tq 232) (kq 12)),pt 234 230 233,mv 235 234,mh 236 26 235,gz 237 235 (.len 1 (tq 236)),gz 238 235 (.faddr 3 (tq 3)),gz 239 235 (.load none (tq 238)),gz 240 235 (.bin .add (.node []) false (tq 239) (kq 3)),gz 241 235 (.bin .neq (.prim .int) false (tq 237) (tq 240)),pt 242 235 241,mv 243 242,mh 244 24 243,gz 245 243 (.call (fq 13) [tq 244]),mh 246 26 243,gz 247 243 (.call (fq 13) [tq 246]),gz 248 243 (.bin .add (.node []) false (tq 245) (tq 247)),gz 249 243 (.bin .neq (.prim .int) true (tq 248) (kq 0)),pt 250 243 249]
 (cd 250
 (sr [ge 6 (.mov (.const (.bool false)))]
 (.ret))
 (.skip)))
 A.ta3_1))
def A.ta3_3:Zaw:=.seq (sr [mv 166 1,ln 167 166,mc 168 0]
 (.block 2 (.loop A.lb3_2)))
 A.ta3_2
def A.ta3_4:Zaw:=sr [mv 108 1,ln 109 108,mv 22 109]
 (.seq (sr [mv 110 12,ni 111 110 0,mv 112 111,mh 113 15 112,gz 114 112 (.bin .neq (.prim .int) true (tq 113) (kq 0)),pt 115 112 114,mv 116 115,mh 117 18 116,gz 118 116 (.bin .neq (.prim .int) true (tq 117) (kq 0)),pt 119 116 118,mv 120 119,mh 121 21 120,gz 122 120 (.bin .neq (.prim .int) true (tq 121) (kq 0)),pt 123 120 122,mv 124 123,mh 125 10 124,gz 126 124 (.len 1 (tq 125)),mh 127 22 124,gz 128 124 (.bin .neq (.prim .int) false (tq 126) (tq 127)),pt 129 124 128,mv 130 129,mh 131 11 130,gz 132 130 (.len 1 (tq 131)),mh 133 22 130,gz 134 130 (.bin .neq (.prim .int) false (tq 132) (tq 133)),pt 135 130 134,mv 136 135,mh 137 13 136,gz 138 136 (.len 1 (tq 137)),mh 139 22 136,gz 140 136 (.bin .neq (.prim .int) false (tq 138) (tq 139)),pt 141 136 140,mv 142 141,mh 143 16 142,gz 144 142 (.len 1 (tq 143)),mh 145 22 142,gz 146 142 (.bin .neq (.prim .int) false (tq 144) (tq 145)),pt 147 142 146,mv 148 147,mh 149 19 148,gz 150 148 (.len 1 (tq 149)),mh 151 22 148,gz 152 148 (.bin .add (.node []) false (tq 151) (kq 1)),gz 153 148 (.bin .neq (.prim .int) false (tq 150) (tq 152)),pt 154 148 153,mv 155 154,mh 156 10 155,gz 157 155 (.call (fq 13) [tq 156]),mh 158 11 155,gz 159 155 (.call (fq 13) [tq 158]),gz 160 155 (.bin .add (.node []) false (tq 157) (tq 159)),mh 161 13 155,gz 162 155 (.call (fq 13) [tq 161]),gz 163 155 (.bin .add (.node []) false (tq 160) (tq 162)),gz 164 155 (.bin .neq (.prim .int) true (tq 163) (kq 0)),pt 165 155 164]
 (cd 165
 (sr [ge 6 (.mov (.const (.bool false)))]
 (.ret))
 (.skip)))
 A.ta3_3)
def A.ta3_5:Zaw:=.seq (.regD [lN 77 4 3,mv 78 1,c1 79 12 78,c2 80 11 77 79,mv 76 80,xt 81 76 0,xt 82 76 1,xt 83 76 2,mv 10 81,mv 11 82,mv 12 83] [0,0,2,7,15,31,31,31,63,383,1023])
 (.seq (.regD [lN 85 4 3,mv 86 2,c1 87 12 86,c2 88 11 85 87,mv 84 88,xt 89 84 0,xt 90 84 1,xt 91 84 2,mv 13 89,mv 14 90,mv 15 91] [0,0,2,7,15,31,31,31,63,383,1023])
 (sr [lN 93 4 3,mv 94 8,c2 95 11 93 94,mv 92 95,xt 96 92 0,xt 97 92 1,xt 98 92 2,mv 16 96,mv 17 97,mv 18 98]
 (.seq (.regD [lN 100 4 3,ge 101 (.bslice 22 1 1 [(.str [])] [(0,1,(.const (.str [48])))]),mv 102 1,ge 103 (.append 1 16 22 [(.str [])] (tq 101) (tq 102)),c2 104 11 100 103,mv 99 104,xt 105 99 0,xt 106 99 1,xt 107 99 2,mv 19 105,mv 20 106,mv 21 107] [0,0,0,6,15,31,63,63,63,127,767,2047])
 A.ta3_4)))
def A.ta3_6:Zaw:=sr [mN 8]
 (.seq (sr [mv 58 1,ln 59 58,mc 60 0]
 (.block 0 (.loop A.lb3_3)))
 A.ta3_5)
def A.b3:Zaw:=sr [bx 3 24 0,ge 6 (.mov (.const (.bool false)))]
 (sr [lN 32 4 3,ge 7 (.alloc [(.str []),(.str []),(.str []),.int .i64 0] 26),gn (.store 4 (tq 7) (tq 32))]
 (.seq (sr [ge 33 (.call (fq 7) []),ge 34 (.un .not (tq 33)),mv 35 34,gz 36 35 (.load (some 4) (tq 7)),gz 37 35 (.call (fq 8) [tq 36,.const (.int .i64 4),.const (.int .i64 6)]),gz 38 35 (.un .not (tq 37)),pt 39 35 38,mv 40 39,mh 41 1 40,gz 42 40 (.len 1 (tq 41)),mh 43 2 40,gz 44 40 (.len 1 (tq 43)),gz 45 40 (.bin .neq (.prim .int) false (tq 42) (tq 44)),pt 46 40 45,mv 47 46,mh 48 1 47,gz 49 47 (.call (fq 9) [tq 48,.const (.int .i64 8),.const (.int .i64 4)]),gz 50 47 (.un .not (tq 49)),pt 51 47 50,mv 52 51,mh 53 2 52,gz 54 52 (.call (fq 9) [tq 53,.const (.int .i64 8),.const (.int .i64 4)]),gz 55 52 (.un .not (tq 54)),pt 56 52 55]
 (cd 56
 (sr [ge 57 (.call (fq 7) []),mv 6 57]
 (.ret))
 (.skip)))
 A.ta3_6))
def A.c3:A.F 3=some ⟨298,[.tmp 6],A.b3⟩:=by kernel_rfl
def A.k3:=@A.kk 3 _ _ _ A.c3 rfl
structure Bnd (A B:Nat) (q:Rat):Prop where
 num:q.num.natAbs≤A
 den:q.den≤B
def Bnd.txt{A B a b:Nat}{q:Rat}(h:Bnd A B q)(hA:A<10^a)(hB:B<10^b)(ha:0<a)(hb:0<b):(Zas q).length≤a+b+2:=by
 have h1:=(Zcn (n:=q.num.natAbs) ha).2 (Ysl h.num hA)
 have h2:=(Zcn (n:=q.den) hb).2 (Ysl h.den hB)
 have h3:(decI q.num).length≤(decN q.num.natAbs).length+1:=by
  unfold decI
  split<;>simp
 unfold Zas
 split
 ·omega
 ·simp
  omega
def Bnd.big{A B:Nat}{q:Rat}(h:Bnd A B q)(hA:A<10^600)(hB:B<10^600):Yd4 q=false:=by
 have h1:=(Zcn (n:=q.num.natAbs) (k:=600) (by decide)).2 (Ysl h.num hA)
 have h2:=(Zcn (n:=q.den) (k:=600) (by decide)).2 (Ysl h.den hB)
 unfold Yd4
 simp
 omega
def Yqa{c:Nat}(h:K≤3*c):2^K≤8^c:=Ytp (Ysu (by decide) h) (Nat.le_of_eq (Nat.pow_mul 2 3 c))
def Yoe{c:Nat}(h:c≠0):8^c<10^c:=Nat.pow_lt_pow_left (by decide) h
def Yma{c:Nat}{q:Rat}(h:Qb K q)(hK:K≤3*c)(hc:c≠0):q.num.natAbs<10^c∧q.den<10^c:=by
 have e:=Ysl (Yqa hK) (Yoe hc)
 exact⟨Nat.lt_trans h.1 e,Nat.lt_trans h.2 e⟩
def Zu9{q:Rat}(h:Qb K q)(hK:K≤1800):Yd4 q=false∧(Zas q).length≤1202:=by
 obtain⟨e1,e2⟩:=Yma (c:=600) h (by omega) (by decide)
 have hb:Bnd q.num.natAbs q.den q:=⟨Yru _,Yru _⟩
 exact⟨hb.big e1 e2,by have:=hb.txt (a:=600) (b:=600) e1 e2 (by decide) (by decide);omega⟩
def Zv4:∀{l:List Int},(∀x∈l,x=0)→Zan l=0
 |[],_=>rfl
 |x::l,h=>by
  rw[h x (by simp)]
  exact Zv4 (l:=l) fun y hy=>h y (by simp[hy])
def Ym7{s:Str}(h:Zub s 4=true):chkNum s=0∧s.length≤10∧Qb 14 (ratS s):=by
 simp only[Zub,Ym5,Ysd,decide_eq_true_eq]at h
 obtain⟨h0,h1,h2,h3⟩:=h
 rw[Zcn (by decide)]at h2 h3
 have e:(10:Nat)^4<2^14:=by decide
 exact⟨h1,by omega,by omega,by omega⟩
def Yd7(M:Nat)(e:Ex)(fr:Fr)(st:St)(H:T O)(n:Nat):Prop:=e=.ret∧∃r,fr=⟨r,298,[]⟩∧r.get 6=some (.bool true)∧Zae M st.w=[]∧Keeps H n st.h st.n
def Yd7.trans{H2:T O}{n2:Nat}{e:Ex}{fr:Fr}{st:St}(s:Yd7 M e fr st H2 n2)(k:Keeps H n H2 n2):Yd7 M e fr st H n:=by
 obtain⟨h1,r,h2,h3,h4,h5⟩:=s
 exact⟨h1,r,h2,h3,h4,k.trans h5⟩
def Ypn{W:List Nat}{r:T V}{v19:V}{L:List Rat}(t19:Tx H n v19 L)(hl:0<L.length)(h0:pg L 0=0)(hW:Zae M W=[])(r19:r.get 19=some v19):
  Code A.C none A.ta3_0 ⟨r,298,[]⟩ ⟨H,n,W⟩ (fun e fr st=>Yd7 M e fr st H n):=by
 rw[Zai]
 have lv:=t19.len
 try rw[Zb1]at lv
 have hl':(0:Int)<(L.length:Int):=by omega
 obtain⟨i,o,cc,e,rw,q1,q2,q3,q4⟩:=t19.at (Zgp (Zbk (p:=L) (i:=0) hl))
 rw[h0,Zwu]at q4
 rw[Yty]at q4
 simp(disch:=first|(simp;done)|omega|rfl) [-getElem?_pos,A.ta3_0,r19,lv,hl,hl',q1,q2,q3,q4,Zag]
 exact⟨rfl,_,rfl,by simp,by simpa using hW,Keeps.refl⟩
def Ypo{C dn:Nat}{W:List Nat}{r:T V}{v19 v24 v26:V}{L h:List Rat}{qg ql qp:Rat}(t19:Tx H n v19 L)(hl:0<L.length)(h0:pg L 0=0)(hW:Zae M W=[])(hMn:M≤n)(hC:H.get C=some (.cells [.str (Zas qg),.str (Zas ql),.str (Zas qp),.int .i64 dn] 24 true))(hCn:C<n)(t24:Tx H n v24 h)(hh:h.length=12)(t26:Tx H n v26 (Za5 qg ql qp dn))(hd:dn≤6)(hres:∀j,j<12→pg h j=Zn3 qg ql qp dn (Zib 12) j)(bh:∀y∈h,Qb 5000 y)(bp:∀y∈Za5 qg ql qp dn,Qb 5000 y)(bl:Qb 14 ql)(r3:r.get 3=some (.ptr C 0))(r19:r.get 19=some v19)(r24:r.get 24=some v24)(r26:r.get 26=some v26):
  Code A.C none A.ta3_1 ⟨r,298,[]⟩ ⟨H,n,W⟩ (fun e fr st=>Yd7 M e fr st H n):=by
 rw[Zai]
 have lh:=t24.len
 try rw[Zb1]at lh
 have lp:=t26.len
 try rw[Zb1]at lp
 have cl:=(@Zi1 qg ql qp dn).1
 rw[hh]at lh
 rw[cl]at lp
 simp(disch:=first|(simp;done)|omega|rfl) [-getElem?_pos,A.ta3_1,r24,lh]
 refine Zak [(6,6),(28,31),(253,293)] (fun e r' st=>e=.exit 4∧Zae M st.w=[]∧Keeps H n st.h st.n) (fun m r' st=>Zae M st.w=[]∧Keeps H n st.h st.n∧∃t,t+m=12∧r'.get 253=some (.int .i64 t)) 12 ?_ ?_ ?_
 ·exact⟨hW,Keeps.refl,0,by omega,by simp⟩
 ·rintro m r' ⟨H1,n1,W1⟩ hr hf ⟨hW1,hK,t,ht,h253⟩
  simp only at hW1 hK
  rw[Zai]
  have leK:=hK.le
  cases m with
  |zero=>
   obtain rfl:t=12:=by omega
   simp(disch:=first|(simp;done)|omega|rfl) [-getElem?_pos,A.lb3_1,hr,hf,h253,hW1,hK]
  |succ m=>
   have hlt:t<12:=by omega
   have hlt':(t:Int)<12:=by omega
   have hC1:=(hK.get C hCn).trans hC
   have lC1:C<n1:=by omega
   obtain⟨mm,hmm⟩:∃mm,mm=min (t+1) (dn+3):=⟨_,rfl⟩
   have hop:∀(call:Za1) (r0:T V) (st:St),r0.get 257=some (.int .i64 ((t:Int)+1))→r0.get 259=some (.int .i64 ((dn:Int)+3))→Zjv [tq 257,tq 259] call r0 st=some (.int .i64 (mm:Int),st):=fun call r0 st h1 h2=>by
    have e:(if (dn:Int)+3<(t:Int)+1 then (dn:Int)+3 else (t:Int)+1)=(mm:Int):=by
     by_cases c:(dn:Int)+3<(t:Int)+1
     ·rw[Yrw c];omega
     ·rw[Yrt c];omega
    simp only[Zjv,Zhd,Src.ev,h1,h2,Yd0,Zvs,e]
   simp(disch:=first|(simp;done)|omega|rfl) [-getElem?_pos,A.lb3_1,hr,hf,h253,hlt,hlt',r3,r24,r26,lh,lp,hop]
   have sq:∀k,k≤mm→Qb (1+k*(5000+5000+1)) (Zy6 (Za5 qg ql qp dn) h t k):=fun k=>by
    induction k with
    |zero=>exact fun _=>(Qb.int (z:=0) (k:=1) (by decide) (by decide)).mono (by omega)
    |succ k ih=>
     intro hk
     rw[Zy6,Ysv]
     exact((ih (by omega)).add ((bp _ (Yr1 (Zbk (by rw[cl];omega)))).mul (bh _ (Yr1 (Zbk (by omega)))))).mono (by omega)
   refine Zak [(29,30),(261,281)] (fun e r2 st=>e=.exit 6∧Zae M st.w=[]∧Keeps H n st.h st.n∧r2.get 29=some (.str (Zas (Zy6 (Za5 qg ql qp dn) h t mm)))) (fun m r2 st=>Zae M st.w=[]∧Keeps H n st.h st.n∧∃k,k+m=mm∧r2.get 261=some (.int .i64 k)∧r2.get 29=some (.str (Zas (Zy6 (Za5 qg ql qp dn) h t k)))) mm ?_ ?_ ?_
   ·exact⟨hW1,hK,0,by omega,by simp,by simp[Zy6,Zwu]⟩
   ·rintro m2 r2 ⟨H2,n2,W2⟩ hr2 hf2 ⟨hW2,hK2,k,hk,h261,h29⟩
    simp only at hW2 hK2
    rw[Zai]
    cases m2 with
    |zero=>
     obtain rfl:k=mm:=by omega
     simp(disch:=first|(simp;done)|omega|rfl) [-getElem?_pos,A.lb3_0,hr2,hf2,hr,hf,h261,h29,hW2,hK2]
    |succ m2=>
     have hkt:k<mm:=by omega
     have hkt':(k:Int)<(mm:Int):=by omega
     have j1:(0:Int)≤(dn:Int)+3-1-(k:Int):=by omega
     have j2:(dn:Int)+3-1-(k:Int)<((dn+3:Nat):Int):=by omega
     have j3:((dn:Int)+3-1-(k:Int)).toNat=dn+3-1-k:=by omega
     have i1:(0:Int)≤(t:Int)-(k:Int):=by omega
     have i2:(t:Int)-(k:Int)<((12:Nat):Int):=by omega
     have i3:((t:Int)-(k:Int)).toNat=t-k:=by omega
     have i4:(k:Int)≤(t:Int):=by omega
     have j4:(k:Int)≤(dn:Int)+2:=by omega
     have j5:(dn:Int)+2-(k:Int)<(dn:Int)+3:=by omega
     have j6:((dn:Int)+2-(k:Int)).toNat=dn+2-k:=by omega
     have i5:(t:Int)-(k:Int)<12:=by omega
     obtain⟨i0,o0,c0,e0,rw0,q1,q2,q3,q4⟩:=(t26.keep hK2).at (Zgp (Zbk (p:=Za5 qg ql qp dn) (i:=dn+2-k) (by rw[cl];omega)))
     obtain⟨x0,y0,z0,u0,ro0,p1,p2,p3,p4⟩:=(t24.keep hK2).at (Zgp (Zbk (p:=h) (i:=t-k) (by omega)))
     simp(disch:=first|(simp;done)|omega|rfl) [-getElem?_pos,A.lb3_0,hr2,hf2,hr,hf,h261,h29,hkt,hkt',r24,r26,lh,lp,j1,j2,j3,j4,j5,j6,i1,i2,i3,i4,i5,q1,q2,q3,q4,p1,p2,p3,p4]
     refine Zac (Yjt (bp _ (Yr1 (Zbk (p:=Za5 qg ql qp dn) (i:=dn+2-k) (by rw[cl];omega)))) (bh _ (Yr1 (Zbk (p:=h) (i:=t-k) (by omega)))) (by decide) (by decide)) ?_
     rintro _ h3 n3 k3 rfl
     simp(disch:=first|(simp;done)|omega|rfl) [-getElem?_pos,]
     refine Zac (Zny (sq k (by omega)) ((bp _ (Yr1 (Zbk (p:=Za5 qg ql qp dn) (i:=dn+2-k) (by rw[cl];omega)))).mul (bh _ (Yr1 (Zbk (p:=h) (i:=t-k) (by omega))))) (by have:=Ysb (5000+5000+1) (show k≤12 by omega);omega) (by decide)) ?_
     rintro _ h4 n4 k4 rfl
     have ec:Zy6 (Za5 qg ql qp dn) h t (k+1)=Zy6 (Za5 qg ql qp dn) h t k+pg (Za5 qg ql qp dn) (dn+2-k)*pg h (t-k):=by rw[Zy6,cl,show dn+3-1-k=dn+2-k by omega]
     simp(disch:=first|(simp;done)|omega|rfl) [-getElem?_pos,hr2,hf2,hr,hf,h261]
     exact⟨m2,by omega,by simpa using hW2,(hK2.trans k3).trans k4,k+1,by omega,by simp,by rw[ec]⟩
   ·rintro _ r2 ⟨H2,n2,W2⟩ hr2 ⟨rfl,hW2,hK2,h29⟩
    simp only at hW2 hK2
    have ic:=Ykl (g:=qg) (l:=ql) (p:=qp) (D:=dn) (n:=12) (i:=t) (h:=h) hlt hres
    rw[←hmm]at ic
    rw[ic]at h29
    have hC2:=(hK2.get C hCn).trans hC
    have lC2:C<n2:=by have:=hK2.le;omega
    have ng:=fun st=>Ya9 (q:=ql) (st:=st) (by have:=Yhc bl;omega)
    have hfi:=hf.inner (D':=[(29,30),(261,281)]) rfl (fun hh=>by simpa using hh) hr2
    by_cases t0:t=0
    ·subst t0
     rw[Yrw rfl,Yn7]at h29
     simp(disch:=first|(simp;done)|omega|rfl) [-getElem?_pos,hr2,hr,h29,h253,hW2,Zag]
     exact⟨by simpa using hfi,m,by omega,hK2,1,by omega,by simp⟩
    ·rw[Yrt t0]at h29
     have t0':¬(t:Int)=0:=by omega
     by_cases t1:t=1
     ·subst t1
      rw[Yrw rfl]at h29
      simp(disch:=first|(simp;done)|omega|rfl) [-getElem?_pos,hr2,hr,h29,h253,r3,hC2,lC2,hW2,Zag,ng]
      exact⟨by simpa using hfi,m,by omega,hK2,2,by omega,by simp⟩
     ·rw[Yrt t1,Zwu]at h29
      have t1':¬(t:Int)=1:=by omega
      simp(disch:=first|(simp;done)|omega|rfl) [-getElem?_pos,hr2,hr,h29,h253,hW2,Zag,t0,t0',t1,t1']
      exact⟨by simpa using hfi,m,by omega,hK2,t+1,by omega,by simp⟩
 ·rintro _ r' ⟨H1,n1,W1⟩ hr ⟨rfl,hW1,hK⟩
  simp only at hW1 hK
  have leK:=hK.le
  simp(disch:=first|(simp;done)|omega|rfl) [-getElem?_pos,hr]
  refine Za7 (Ypn (M:=M) (t19.keep hK) hl h0 hW1 (by simp[hr,r19])) ?_
  intro e fr st hq
  simp(disch:=first|(simp;done)|omega|rfl) [-getElem?_pos,]
  exact hq.trans hK
def Yc9{l:List Rat}{h:T O}{N K:Nat}{v:V}(hv:Tx h N v l)(hl:l.length<1000)(hq:∀q∈l,Qb K q)(hK:K≤1800):Fn A.C 13 [v] h N (fun u _ _=>u=.int .i64 0):=by
 have e:Zan ((l.map Zas).map fun s=>((chkNum s:Nat):Int))=0:=Zv4 fun x hx=>by
  rw[List.map_map]at hx
  obtain⟨q,hq',rfl⟩:=Ytq.1 hx
  have e:chkNum (Zas q)=0:=by rw[Zo1,(Zu9 (hq q hq') hK).1];rfl
  simp[e]
 have:=Ygr (h:=h) (N:=N) (v:=v) (l:=l.map Zas) hv (by simpa using(by omega:l.length<100000)) (fun s hs=>by
  obtain⟨q,hq',rfl⟩:=Ytq.1 hs
  have:=(Zu9 (hq q hq') hK).2
  omega)
 rw[e]at this
 exact this
def Yfi{l:List Rat}{K:Nat}(hq:∀q∈l,Qb K q)(hK:K≤1800):Ze5 l=false:=by
 unfold Ze5
 rw[List.any_eq_false]
 intro q h
 rw[(Zu9 (hq q h) hK).1]
 decide
structure AnL (g l p:Str) (D:Int) (qg ql qp:Rat) (dn:Nat):Prop where
 eg:g=Zas qg
 el:l=Zas ql
 ep:p=Zas qp
 ed:D=(dn:Int)
 dl:dn≤6
 bg:Qb 14 qg
 bl:Qb 14 ql
 bp:Qb 14 qp
 lg:g.length≤40
 ll:l.length≤40
 lp:p.length≤40
 c:Za8 g l p D=0
def AnL.rat{g l p:Str}{D:Int}{qg ql qp:Rat}{dn:Nat}(L:AnL g l p D qg ql qp dn):ratS g=qg∧ratS l=ql∧ratS p=qp∧D.toNat=dn:=by
 rw[L.eg,L.el,L.ep,L.ed]
 exact⟨Zlu _,Zlu _,Zlu _,Int.toNat_natCast _⟩
def Ypp{H:T O}{M n C dn:Nat}{W:List Nat}{r:T V}{v19:V}{L:List Rat}{g l p:Str}{D:Int}{qg ql qp:Rat}(A0:AnL g l p D qg ql qp dn)(t19:Tx H n v19 L)(hl:0<L.length)(h0:pg L 0=0)(hW:Zae M W=[])(hMn:M≤n)(hP:P10 H n)(hC:H.get C=some (.cells [.str g,.str l,.str p,.int .i64 D] 24 true))(hCn:C<n)(r3:r.get 3=some (.ptr C 0))(r19:r.get 19=some v19):
  Code A.C none A.ta3_2 ⟨r,298,[]⟩ ⟨H,n,W⟩ (fun e fr st=>Yd7 M e fr st H n):=by
 rw[Zai]
 obtain⟨eg,el,ep,ed⟩:=A0.rat
 have bg:=A0.bg
 have bl:=A0.bl
 have bp:=A0.bp
 have lg:=A0.lg
 have ll:=A0.ll
 have lp:=A0.lp
 have hq:Za8 g l p D=0→Qb 40 (ratS g)∧Qb 40 (ratS l)∧Qb 40 (ratS p):=fun _=>by
  rw[eg,el,ep];exact⟨bg.mono (by decide),bl.mono (by decide),bp.mono (by decide)⟩
 simp(disch:=first|(simp;done)|omega|rfl) [-getElem?_pos,A.ta3_2,r3,hC,hCn,Zaj,slc]
 refine Zac (Yjg (z:=12) hP lg ll lp hq (fun _ _=>by decide)) ?_
 rintro x2 h2 n2 k2 hx2
 have rl:=@Zd8 qg ql qp dn (Zib 12) (Zib 12).length
 have rq:=Zk8 (D:=dn) bg bl bp (@Yan 12) (k:=(Zib 12).length) (Yru _)
 have pl:=@Zmn 12
 have e2:runE (ratS g) (ratS l) (ratS p) D.toNat (Zib (12:Int).toNat)=runE qg ql qp dn (Zib 12):=by rw[eg,el,ep,ed];rfl
 have E0:Zan [Za8 g l p D,if (12:Int)<0∨64<(12:Int) then 3 else 0]=0:=by rw[A0.c];decide
 rw[e2,E0]at hx2
 have bh:∀y∈runE qg ql qp dn (Zib 12),Qb 600 y:=fun y hy=>(rq.2 y hy).mono (by rw[pl];decide)
 have lh:(runE qg ql qp dn (Zib 12)).length=12:=by unfold runE;rw[rl.1,pl]
 obtain⟨v24,rfl,t24⟩:∃v,x2=.tup [v,.int .i64 0]∧TxT h2 n2 v (runE qg ql qp dn (Zib 12)):=by
  rcases hx2 with⟨hc,_⟩|⟨_,⟨hb,_⟩|⟨_,v,hv,tv⟩⟩
  ·exact absurd rfl hc
  ·rw[Yfi bh (by decide)]at hb;cases hb
  ·exact⟨v,hv,tv⟩
 have hres:∀j,j<12→pg (runE qg ql qp dn (Zib 12)) j=Zn3 qg ql qp dn (Zib 12) j:=fun j hj=>by
  have:=(Ye0 (g:=qg) (l:=ql) (p:=qp) (D:=dn) (d:=Zib 12) (k:=(Zib 12).length) (j:=j) (by rw[pl];exact hj)).1
  exact this
 generalize runE qg ql qp dn (Zib 12)=hh at*
 have le2:=k2.le
 have hC2:=(k2.get C hCn).trans hC
 have lC2:C<n2:=by omega
 simp(disch:=first|(simp;done)|omega|rfl) [-getElem?_pos,r3,hC2,lC2,Zaj,slc]
 refine Zac (Zy7 (n:=40) (hP.keep k2) lg ll lp (by decide)) ?_
 rintro x3 h3 n3 k3 hx3
 have bP:∀y∈Za5 qg ql qp dn,Qb 44 y:=Zr3 bg bl bp (by decide)
 obtain⟨v26,rfl,t26⟩:∃v,x3=.tup [v,.int .i64 0]∧TxT h3 n3 v (Za5 qg ql qp dn):=by
  rw[eg,el,ep,ed]at hx3
  rcases hx3 with⟨hc,_⟩|⟨_,⟨hb,_⟩|⟨_,v,hv,tv⟩⟩
  ·exact absurd A0.c hc
  ·rw[Yfi bP (by decide)]at hb;cases hb
  ·exact⟨v,hv,tv⟩
 have le3:=k3.le
 have hC3:=(k3.get C lC2).trans hC2
 have lC3:C<n3:=by omega
 have t24':=t24.keep k3
 have l24:=t24'.1.len
 try rw[Zb1]at l24
 have l26:=t26.1.len
 try rw[Zb1]at l26
 have cl:=(@Zi1 qg ql qp dn).1
 rw[lh]at l24
 rw[cl]at l26
 have hDn:=A0.ed
 have dl6:=A0.dl
 have d1:D+3=((dn+3:Nat):Int):=by omega
 have K3:=k2.trans k3
 rw[hDn]at hC3
 simp(disch:=first|(simp;done)|omega|rfl) [-getElem?_pos,r3,l24,l26,hC3,lC3,Zaj,slc,Zag]
 refine Zac (Yc9 t24'.1 (by omega) bh (by decide)) ?_
 rintro _ h4 n4 k4 rfl
 simp(disch:=first|(simp;done)|omega|rfl) [-getElem?_pos,]
 refine Zac (Yc9 (t26.keep k4).1 (by rw[cl];have:=A0.dl;omega) bP (by decide)) ?_
 rintro _ h5 n5 k5 rfl
 have k45:=k4.trans k5
 have K5:=K3.trans k45
 have le5:=k45.le
 simp(disch:=first|(simp;done)|omega|rfl) [-getElem?_pos,Zag]
 refine Za7 (Ypo (M:=M) (C:=C) (qg:=qg) (ql:=ql) (qp:=qp) (dn:=dn) (t19.keep K5) hl h0 hW (by omega) (by have:=(k45.get C lC3).trans hC3;rw[A0.eg,A0.el,A0.ep]at this;exact this) (by omega) (t24'.keep k45).1 lh (t26.keep k45).1 A0.dl hres (fun y hy=>(bh y hy).mono (by decide)) (fun y hy=>(bP y hy).mono (by decide)) bl (by simp[r3]) (by simp[r19]) (by simp) (by simp)) ?_
 intro e fr st hq
 simp(disch:=first|(simp;done)|omega|rfl) [-getElem?_pos,]
 exact hq.trans K5
structure AnD (al es us fs gs ls:List Rat):Prop where
 le:es.length=al.length
 lu:us.length=al.length
 lf:fs.length=al.length
 lg:gs.length=al.length
 ll:ls.length=al.length+1
 n8:al.length≤8
 hg:∀i,i<al.length→pg gs i=pg es i+pg fs i
 hl:∀i,i<al.length→pg ls (i+1)=pg es i
 ha:∀i,i<al.length→pg al i=pg es i+pg us i
 h0:pg ls 0=0
 be:∀y∈es,Qb 1000 y
 bu:∀y∈us,Qb 1000 y
 bf:∀y∈fs,Qb 1000 y
def Ypq{H:T O}{M n C dn:Nat}{W:List Nat}{r:T V}{va ve vu vf vg vl:V}{al es us fs gs ls:List Rat}{g l p:Str}{D:Int}{qg ql qp:Rat}(A0:AnL g l p D qg ql qp dn)(d0:AnD al es us fs gs ls)(ta:Tx H n va al)(te:Tx H n ve es)(tu:Tx H n vu us)(tf:Tx H n vf fs)(tg:Tx H n vg gs)(tl:Tx H n vl ls)(hW:Zae M W=[])(hMn:M≤n)(hP:P10 H n)(hC:H.get C=some (.cells [.str g,.str l,.str p,.int .i64 D] 24 true))(hCn:C<n)(r1:r.get 1=some va)(r3:r.get 3=some (.ptr C 0))(r10:r.get 10=some ve)(r11:r.get 11=some vu)(r13:r.get 13=some vf)(r16:r.get 16=some vg)(r19:r.get 19=some vl):
  Code A.C none A.ta3_3 ⟨r,298,[]⟩ ⟨H,n,W⟩ (fun e fr st=>Yd7 M e fr st H n):=by
 rw[Zai]
 have la:=ta.len
 try rw[Zb1]at la
 have le:=te.len
 try rw[Zb1]at le
 rw[d0.le]at le
 have lu:=tu.len
 try rw[Zb1]at lu
 rw[d0.lu]at lu
 have lf:=tf.len
 try rw[Zb1]at lf
 rw[d0.lf]at lf
 have lg:=tg.len
 try rw[Zb1]at lg
 rw[d0.lg]at lg
 have ll:=tl.len
 try rw[Zb1]at ll
 rw[d0.ll]at ll
 have n8:=d0.n8
 simp(disch:=first|(simp;done)|omega|rfl) [-getElem?_pos,A.ta3_3,r1,la]
 refine Zak [(6,6),(23,23),(168,213)] (fun e r' st=>e=.exit 2∧Zae M st.w=[]∧Keeps H n st.h st.n) (fun m r' st=>Zae M st.w=[]∧Keeps H n st.h st.n∧∃t,t+m=al.length∧r'.get 168=some (.int .i64 t)) al.length ?_ ?_ ?_
 ·exact⟨hW,Keeps.refl,0,by omega,by simp⟩
 ·rintro m r' ⟨H1,n1,W1⟩ hr hf ⟨hW1,hK,t,ht,h168⟩
  simp only at hW1 hK
  rw[Zai]
  have leK:=hK.le
  cases m with
  |zero=>
   obtain rfl:t=al.length:=by omega
   simp(disch:=first|(simp;done)|omega|rfl) [-getElem?_pos,A.lb3_2,hr,hf,h168,la,hW1,hK]
  |succ m=>
   have hlt:t<al.length:=by omega
   have hlt':(t:Int)<(al.length:Int):=by omega
   have hlt2:(t:Int)+1<((al.length+1:Nat):Int):=by omega
   have hlt3:((t:Int)+1).toNat=t+1:=by omega
   have hlt4:(0:Int)≤(t:Int)+1:=by omega
   have hlt5:t<al.length+1:=by omega
   obtain⟨i1,o1,c1,y1,w1,a1,a2,a3,a4⟩:=(ta.keep hK).at (Zgp (Zbk (p:=al) (i:=t) hlt))
   obtain⟨i2,o2,c2,y2,w2,b1,b2,b3,b4⟩:=(te.keep hK).at (Zgp (Zbk (p:=es) (i:=t) (by rw[d0.le];exact hlt)))
   obtain⟨i3,o3,c3,y3,w3,e1,e2,e3,e4⟩:=(tu.keep hK).at (Zgp (Zbk (p:=us) (i:=t) (by rw[d0.lu];exact hlt)))
   obtain⟨i4,o4,c4,y4,w4,f1,f2,f3,f4⟩:=(tf.keep hK).at (Zgp (Zbk (p:=fs) (i:=t) (by rw[d0.lf];exact hlt)))
   obtain⟨i5,o5,c5,y5,w5,g1,g2,g3,g4⟩:=(tg.keep hK).at (Zgp (Zbk (p:=gs) (i:=t) (by rw[d0.lg];exact hlt)))
   obtain⟨i6,o6,c6,y6,w6,l1,l2,l3,l4⟩:=(tl.keep hK).at (Zgp (Zbk (p:=ls) (i:=t+1) (by rw[d0.ll];omega)))
   rw[d0.hg t hlt]at g4
   rw[d0.hl t hlt]at l4
   rw[d0.ha t hlt]at a4
   have qe:=d0.be _ (Yr1 (Zbk (p:=es) (i:=t) (by rw[d0.le];exact hlt)))
   have qu:=d0.bu _ (Yr1 (Zbk (p:=us) (i:=t) (by rw[d0.lu];exact hlt)))
   have qf:=d0.bf _ (Yr1 (Zbk (p:=fs) (i:=t) (by rw[d0.lf];exact hlt)))
   simp(disch:=first|(simp;done)|omega|rfl) [-getElem?_pos,A.lb3_2,hr,hf,h168,hlt,hlt',r1,r10,r11,r13,r16,r19,la,le,lu,lf,lg,ll,b1,b2,b3,b4,f1,f2,f3,f4,g1,g2,g3,g4]
   refine Zac (Zny qe qf (by decide) (by decide)) ?_
   rintro _ h3 n3 k3 rfl
   have le3:=k3.le
   have b3':=(k3.get i2 b2).trans b3
   have e3':=(k3.get i3 e2).trans e3
   have l3':=(k3.get i6 l2).trans l3
   have a3':=(k3.get i1 a2).trans a3
   have b2':i2<n3:=by omega
   have e2':i3<n3:=by omega
   have l2':i6<n3:=by omega
   have a2':i1<n3:=by omega
   have o6':o6+(t+1)=o6+t+1:=by omega
   simp(disch:=first|(simp;done)|omega|rfl) [-getElem?_pos,hr,hf,h168,hlt,hlt',hlt2,hlt3,hlt4,hlt5,r1,r10,r11,r13,r16,r19,la,le,lu,lf,lg,ll,b1,b2',b3',b4,e1,e2',e3',e4,l1,l2',l3',l4]
   refine Zac (Zny qe qu (by decide) (by decide)) ?_
   rintro _ h4 n4 k4 rfl
   have le4:=k4.le
   have a3'':=(k4.get i1 a2').trans a3'
   have a2'':i1<n4:=by omega
   simp(disch:=first|(simp;done)|omega|rfl) [-getElem?_pos,hr,hf,h168,hlt,hlt',hlt2,hlt3,hlt4,hlt5,r1,r10,r11,r13,r16,r19,la,le,lu,lf,lg,ll,a1,a2'',a3'',a4,Zag]
   exact⟨m,by omega,hW1,(hK.trans k3).trans k4,t+1,by omega,by omega⟩
 ·rintro _ r' ⟨H1,n1,W1⟩ hr ⟨rfl,hW1,hK⟩
  simp only at hW1 hK
  have leK:=hK.le
  simp(disch:=first|(simp;done)|omega|rfl) [-getElem?_pos,hr]
  refine Za7 (Ypp (M:=M) (C:=C) A0 (tl.keep hK) (by rw[d0.ll];omega) d0.h0 hW1 (by omega) (hP.keep hK) ((hK.get C hCn).trans hC) (by omega) (by simp[hr,r3]) (by simp[hr,r19])) ?_
  intro e fr st hq
  simp(disch:=first|(simp;done)|omega|rfl) [-getElem?_pos,]
  exact hq.trans hK
def Ypr{H:T O}{M n C dn:Nat}{W:List Nat}{r:T V}{va ve vu vf vg vl:V}{al es us fs gs ls:List Rat}{g l p:Str}{D:Int}{qg ql qp:Rat}(A0:AnL g l p D qg ql qp dn)(d0:AnD al es us fs gs ls)(ta:Tx H n va al)(te:Tx H n ve es)(tu:Tx H n vu us)(tf:Tx H n vf fs)(tg:Tx H n vg gs)(tl:Tx H n vl ls)(hW:Zae M W=[])(hMn:M≤n)(hP:P10 H n)(hC:H.get C=some (.cells [.str g,.str l,.str p,.int .i64 D] 24 true))(hCn:C<n)(r1:r.get 1=some va)(r3:r.get 3=some (.ptr C 0))(r10:r.get 10=some ve)(r11:r.get 11=some vu)(r12:r.get 12=some (.int .i64 0))(r13:r.get 13=some vf)(r15:r.get 15=some (.int .i64 0))(r16:r.get 16=some vg)(r18:r.get 18=some (.int .i64 0))(r19:r.get 19=some vl)(r21:r.get 21=some (.int .i64 0)):
  Code A.C none A.ta3_4 ⟨r,298,[]⟩ ⟨H,n,W⟩ (fun e fr st=>Yd7 M e fr st H n):=by
 rw[Zai]
 have la:=ta.len
 try rw[Zb1]at la
 have le:=te.len
 try rw[Zb1]at le
 rw[d0.le]at le
 have lu:=tu.len
 try rw[Zb1]at lu
 rw[d0.lu]at lu
 have lf:=tf.len
 try rw[Zb1]at lf
 rw[d0.lf]at lf
 have lg:=tg.len
 try rw[Zb1]at lg
 rw[d0.lg]at lg
 have ll:=tl.len
 try rw[Zb1]at ll
 rw[d0.ll]at ll
 have n8:=d0.n8
 have d1:((al.length+1:Nat):Int)=(al.length:Int)+1:=by omega
 simp(disch:=first|(simp;done)|omega|rfl) [-getElem?_pos,A.ta3_4,r1,r10,r11,r12,r13,r15,r16,r18,r19,r21,la,le,lu,lf,lg,ll,Zag,d1]
 refine Zac (Yc9 te (by rw[d0.le];omega) d0.be (by decide)) ?_
 rintro _ h1 n1 k1 rfl
 simp(disch:=first|(simp;done)|omega|rfl) [-getElem?_pos,r11]
 refine Zac (Yc9 (tu.keep k1) (by rw[d0.lu];omega) d0.bu (by decide)) ?_
 rintro _ h2 n2 k2 rfl
 have K2:=k1.trans k2
 simp(disch:=first|(simp;done)|omega|rfl) [-getElem?_pos,r13]
 refine Zac (Yc9 (tf.keep K2) (by rw[d0.lf];omega) d0.bf (by decide)) ?_
 rintro _ h3 n3 k3 rfl
 have K3:=K2.trans k3
 have le3:=K3.le
 simp(disch:=first|(simp;done)|omega|rfl) [-getElem?_pos,Zag]
 refine Za7 (Ypq (M:=M) (C:=C) A0 d0 (ta.keep K3) (te.keep K3) (tu.keep K3) (tf.keep K3) (tg.keep K3) (tl.keep K3) hW (by omega) (hP.keep K3) ((K3.get C hCn).trans hC) (by omega) (by simp[r1]) (by simp[r3]) (by simp[r10]) (by simp[r11]) (by simp[r13]) (by simp[r16]) (by simp[r19])) ?_
 intro e fr st hq
 simp(disch:=first|(simp;done)|omega|rfl) [-getElem?_pos,]
 exact hq.trans K3
def Yny{H:T O}{n dn:Nat}{v:V}{dl:List Rat}{g l p:Str}{D:Int}{qg ql qp:Rat}(A0:AnL g l p D qg ql qp dn)(t:Tx H n v dl)(hl:dl.length≤9)(hq:∀q∈dl,Qb 29 q)(hP:P10 H n):Fn A.C 11 [.agg [.str g,.str l,.str p,.int .i64 D],v] H n (fun x h' n'=>∃a b,x=.tup [a,b,.int .i64 0]∧TxT h' n' a (runE qg ql qp dn dl)∧TxT h' n' b (Zw5 qg ql qp dn dl)):=by
 obtain⟨eg,el,ep,ed⟩:=A0.rat
 have hs:∀s∈dl.map Zas,s.length≤64:=fun s hs=>by
  obtain⟨q,hq',rfl⟩:=Ytq.1 hs
  have:=Yhc (hq q hq')
  omega
 have hc:Zgs (dl.map Zas)=0:=by
  have e:Ydi (dl.map Zas)=0:=Zv4 fun x hx=>by
   rw[List.map_map]at hx
   obtain⟨q,hq',rfl⟩:=Ytq.1 hx
   have e:chkNum (Zas q)=0:=by rw[Zo1,(Zu9 (hq q hq') (by decide)).1];rfl
   simp[e]
  unfold Zgs
  rw[Yrt (by rw[Yug];omega),e]
 have R:RnH g l p D (dl.map Zas):=⟨A0.lg,A0.ll,A0.lp,by rw[Yug];omega,hs,fun _=>by
  rw[eg,el,ep];exact⟨A0.bg.mono (by decide),A0.bl.mono (by decide),A0.bp.mono (by decide)⟩,fun _=>by rw[Yug];omega⟩
 have E0:Zan [Za8 g l p D,Zgs (dl.map Zas)]=0:=by rw[A0.c,hc];decide
 have er:Zs8 (dl.map Zas)=dl:=by
  unfold Zs8
  rw[List.map_map]
  conv=>rhs;rw[←List.map_id dl]
  exact List.map_congr_left fun q _=>Zlu q
 have f:=Ye7 (h:=H) (N:=n) (v:=v) t hP R
 rw[E0,eg,el,ep,ed,er]at f
 intro w
 refine(f w).mono ?_
 rintro x ⟨h',n',w'⟩ ⟨hw',hk',hx⟩
 refine⟨hw',hk',?_⟩
 simp only at hx ⊢
 have bE:∀y∈runE qg ql qp dn dl,Qb 1000 y:=fun y hy=>((Zk8 (D:=dn) A0.bg A0.bl A0.bp hq (k:=dl.length) (Yru _)).2 y hy).mono (by omega)
 have bU:∀y∈Zw5 qg ql qp dn dl,Qb 1000 y:=fun y hy=>(Zpk (D:=dn) A0.bg A0.bl A0.bp hq (k:=dl.length) (Yru _) y hy).mono (by omega)
 rcases hx with⟨h0,_⟩|⟨_,⟨hb,_⟩|⟨_,_,a,b,hv,h1,h2⟩⟩
 ·exact absurd rfl h0
 ·rw[Yfi bE (by decide),Yfi bU (by decide)]at hb
  rcases hb with hb|hb<;>cases hb
 ·exact⟨a,b,hv,h1,h2⟩
end Go.Mx
