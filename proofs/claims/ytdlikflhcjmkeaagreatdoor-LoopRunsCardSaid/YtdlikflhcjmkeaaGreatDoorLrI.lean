/-lensletlaw06-/
import Derived.Test.YtdlikflhcjmkeaaGreatDoorLrF
set_option linter.all false
set_option maxHeartbeats 8000000
namespace Go.Mx
open Go Go.Proofs
variable {D z:Int} {H:T O} {M n:Nat} {d:List Str} {g l:Str}
set_option maxRecDepth 1000000
def A.ta5_0:Zaz:=.seq (sr [mv 113 15,ni 114 113 0]
 (cd 114
 (.reg [mN 17,mN 18])
 (.skip)))
 (sr [mv 115 10,mv 116 15,ge 117 (.bin .eql (.prim .int) false (tq 115) (tq 116)),mv 118 117,mg 119 8 118,mg 120 17 118,gy 121 118 (.call (fq 41) [tq 119,tq 120]),pf 122 118 121,mv 123 122,mg 124 9 123,mg 125 18 123,gy 126 123 (.call (fq 41) [tq 124,tq 125]),pf 127 123 126,mv 128 127,mg 129 11 128,mg 130 12 128,mg 131 16 128,mg 132 19 128,gy 133 128 (.call (fq 29) [tq 129,tq 130,tq 131,tq 132]),pf 134 128 133,mv 135 134,mg 136 13 135,mg 137 14 135,mg 138 20 135,mg 139 21 135,gy 140 135 (.call (fq 23) [tq 136,tq 137,tq 138,tq 139]),pf 141 135 140,mv 6 141]
 (.ret))
def A.ta5_1:Zaz:=.seq (sr [mv 104 16,ei 105 104 0]
 (cd 105
 (.regD [lN 107 4 7,mv 108 2,c1 109 40 108,c2 110 37 107 109,mv 106 110,xt 111 106 0,xt 112 106 1,mv 19 111] [0,0,2,7,15,31,31,63])
 (.skip)))
 A.ta5_0
def A.ta5_2:Zaz:=.seq (sr [mv 88 15,ei 89 88 0]
 (cd 89
 (sr [lN 91 4 7,mv 92 1,c2 93 37 91 92,mv 90 93,xt 94 90 0,xt 95 90 1,mv 17 94,mv 18 95]
 (sr [lN 96 4 7,mv 97 1,c2 98 38 96 97,mv 21 98]
 (.reg [mv 99 17,c1 100 12 99,mv 101 18,ge 102 (.append 1 16 30 [(.str [])] (tq 100) (tq 101)),c1 103 39 102,mv 15 103])))
 (.skip)))
 A.ta5_1
def A.ta5_3:Zaz:=.seq (.regD [lN 55 4 3,mv 56 1,c1 57 12 56,c2 58 33 55 57,mv 54 58,xt 59 54 0,xt 60 54 1,xt 61 54 2,mv 8 59,mv 9 60,mv 10 61] [0,0,2,7,15,31,31,31,63,383,1023])
 (sr [lN 63 4 3,mv 64 2,c2 65 34 63 64,mv 62 65,xt 66 62 0,xt 67 62 1,mv 11 66,mv 12 67]
 (.seq (.regD [lN 69 4 3,mv 70 1,c1 71 12 70,c2 72 35 69 71,mv 68 72,xt 73 68 0,xt 74 68 1,mv 13 73,mv 14 74] [0,0,2,7,15,31,31,63,255])
 (sr [lN 75 4 7,c1 76 25 75,mv 77 1,c1 78 36 77,ge 79 (.bslice 3 1 2 [.int .i64 0,.int .i64 0] [(0,1,(tq 76)),(1,1,(tq 78))]),c1 80 16 79,mv 15 80]
 (sr [lN 81 4 7,c1 82 25 81,mv 83 2,ge 84 (.call (fq 17) [tq 83,.const (.int .i64 0),.const (.int .i64 64)]),ge 85 (.bslice 3 1 2 [.int .i64 0,.int .i64 0] [(0,1,(tq 82)),(1,1,(tq 84))]),c1 86 16 85,mv 16 86]
 (sr [mN 17,mN 18,mN 19]
 (sr [mv 87 15,mv 20 87,ge 21 (.mov (.const (.str [])))]
 A.ta5_2))))))
def A.b5:Zaz:=sr [bx 3 48 0,ge 6 (.mov (.const (.bool false)))]
 (sr [lN 22 4 3,ge 7 (.alloc [(.str []),(.str []),(.str []),.int .i64 0] 49),gn (.store 4 (tq 7) (tq 22))]
 (.seq (sr [ge 23 (.call (fq 7) []),ge 24 (.un .not (tq 23)),mv 25 24,gz 26 25 (.load (some 4) (tq 7)),gz 27 25 (.call (fq 24) [tq 26]),gz 28 25 (.un .not (tq 27)),pt 29 25 28,mv 30 29,mh 31 1 30,gz 32 30 (.call (fq 8) [tq 31,.const (.int .i64 12),.const (.int .i64 64)]),gz 33 30 (.un .not (tq 32)),pt 34 30 33,mv 35 34,mh 36 2 35,gz 37 35 (.bin .gtr (.node []) false (tq 36) (kq 12)),mh 38 37 35,mg 39 2 38,gy 40 38 (.bin .leq (.node []) false (tq 39) (kq 64)),gz 41 35 (.pick (tq 38) (tq 40) (.const (.bool false))),pt 42 35 41,mv 43 42,gz 44 43 (.load (some 4) (tq 7)),gz 45 43 (.call (fq 25) [tq 44]),gz 46 43 (.bin .eql (.prim .int) true (tq 45) (kq 0)),mh 47 46 43,gy 48 47 (.load (some 4) (tq 7)),gy 49 47 (.call (fq 32) [tq 48,.const (.int .i64 12),.const (.int .i64 6)]),gy 50 47 (.un .not (tq 49)),gz 51 43 (.pick (tq 47) (tq 50) (.const (.bool false))),pt 52 43 51]
 (cd 52
 (sr [ge 53 (.call (fq 7) []),mv 6 53]
 (.ret))
 (.skip)))
 A.ta5_3))
def A.c5:A.F 5=some ⟨142,[.tmp 6],A.b5⟩:=by kernel_rfl
def A.k5:=@A.kk 5 _ _ _ A.c5 rfl
def Yx6(E:Int)(es us:List Rat):Int:=if E=0 then (if Zcy (es++us)=true then 4 else 0) else E
def Yx5(M:Nat)(e:Ex)(fr:Fr)(st:St)(H:T O)(n:Nat):Prop:=e=.ret∧∃r,fr=⟨r,142,[]⟩∧r.get 6=some (.bool true)∧Zac M st.w=[]∧Keeps H n st.h st.n
def Yxx{h0 hi:T O}{n0 ni:Nat}{W:List Nat}{r:T V}{a b c i1 i2 c1 c2 v17 v18 v19:V}{E F:Int}{es us is:List Rat}{cq:Rat}{s:Str}(hR:Yx7 h0 n0 (.tup [a,b,c]) E es us)(k0:Keeps h0 n0 H n)(hI:Ywc hi ni (.tup [i1,i2]) F is)(ki:Keeps hi ni H n)(hC:Ywe (.tup [c1,c2]) E cq)(l1:es.length<100000)(l2:us.length<100000)(l3:is.length<100000)(q3:F=0→∀q∈is,(Zaq q).length<1000000000)(qc:E=0→(Zaq cq).length<1000000000)(hs:E=0→s=Zaq cq)(t17:E=0→Tx H n v17 es)(t18:E=0→Tx H n v18 us)(t19:F=0→Tx H n v19 is)(hW:Zac M W=[])
  (r8:r.get 8=some a) (r9:r.get 9=some b) (r10:r.get 10=some c) (r11:r.get 11=some i1) (r12:r.get 12=some i2) (r13:r.get 13=some c1) (r14:r.get 14=some c2) (r15:r.get 15=some (.int .i64 (Yx6 E es us))) (r16:r.get 16=some (.int .i64 F)) (r17:r.get 17=some v17) (r18:r.get 18=some v18) (r19:r.get 19=some v19) (r20:r.get 20=some (.int .i64 E)) (r21:r.get 21=some (.str s)):
  Code A.C none A.ta5_0 ⟨r,142,[]⟩ ⟨H,n,W⟩ (fun e fr st=>Yx5 M e fr st H n):=by
 have hr:=fun w=>Yt8 (w:=w) hI ki t19 l3 q3
 have hn:=fun st=>Yuh (st:=st) hC hs qc
 have sn:∀w,A.C.call (.func 41 [] []) [.nilslice,.nilslice] ⟨H,n,w⟩=some (.bool true,⟨H,n,w⟩):=fun w=>Yhl (l:=[]) Sl.nil Sl.nil (by simp)
 rw[Zai]
 unfold Yx6 at r15
 rcases hR with⟨hE,hx⟩|⟨hE,⟨hb,hx⟩|⟨hb1,hb2,a',b',hx,ta,tb⟩⟩
 ·simp only[V.tup.injEq,Yqu,and_true]at hx
  obtain⟨rfl,rfl,rfl⟩:=hx
  rw[Yqe hE]at r15
  simp(disch:=first|(simp;done)|omega|rfl) [-getElem?_pos,A.ta5_0,r8,r9,r10,r11,r12,r13,r14,r15,r16,r17,r18,r19,r20,r21,hE,Zak,sn,hr,hn]
  exact⟨rfl,_,rfl,by simp,by simpa using hW,Keeps.refl⟩
 ·subst hE
  simp only[V.tup.injEq,Yqu,and_true]at hx
  obtain⟨rfl,rfl,rfl⟩:=hx
  have hbb:Zcy (es++us)=true:=by rw[Yxn];simpa using hb
  rw[Yqi rfl,Yqi hbb]at r15
  simp(disch:=first|(simp;done)|omega|rfl) [-getElem?_pos,A.ta5_0,r8,r9,r10,r11,r12,r13,r14,r15,r16,r17,r18,r19,r20,r21,Zak,sn,hr,hn]
  exact⟨rfl,_,rfl,by simp,by simpa using hW,Keeps.refl⟩
 ·subst hE
  simp only[V.tup.injEq,Yqu,and_true]at hx
  obtain⟨rfl,rfl,rfl⟩:=hx
  have hbb:¬Zcy (es++us)=true:=by rw[Yxn,hb1,hb2];decide
  rw[Yqi rfl,Yqe hbb]at r15
  have s1:=fun w=>Yhl (w:=w) (l:=es.map Zaq) (ta.keep k0).1 (t17 rfl) (by simpa using l1)
  have s2:=fun w=>Yhl (w:=w) (l:=us.map Zaq) (tb.keep k0).1 (t18 rfl) (by simpa using l2)
  simp(disch:=first|(simp;done)|omega|rfl) [-getElem?_pos,A.ta5_0,r8,r9,r10,r11,r12,r13,r14,r15,r16,r17,r18,r19,r20,r21,Zak,s1,s2,hr,hn]
  exact⟨rfl,_,rfl,by simp,by simpa using hW,Keeps.refl⟩
def Yx5.trans{H2:T O}{n2:Nat}{e:Ex}{fr:Fr}{st:St}(s:Yx5 M e fr st H2 n2)(k:Keeps H n H2 n2):Yx5 M e fr st H n:=by
 obtain⟨h1,r,h2,h3,h4,h5⟩:=s
 exact⟨h1,r,h2,h3,h4,k.trans h5⟩
structure RnL (g l p:Str) (D z:Int) (d:List Str):Prop where
 H:RnH g l p D d
 z:0≤z→z≤64→z≤12
noncomputable def Yxp(g l p:Str)(D z:Int):Int:=Zau [Zbj g l p D,if z<0∨64<z then 3 else 0]
noncomputable def Yxo(g l p:Str)(D z:Int):List Rat:=Ywo (ratS g) (ratS l) (ratS p) D.toNat (Ywp z.toNat)
def Yxl{p:Str}(L:RnL g l p D z d)(c:Yxp g l p D z=0):∃(qg ql qp:Rat) (n m:Nat),g=Zaq qg∧l=Zaq ql∧p=Zaq qp∧D=(n:Int)∧n≤6∧ratS g=qg∧ratS l=ql∧ratS p=qp∧Qb 40 qg∧Qb 40 ql∧Qb 40 qp∧z=(m:Int)∧m≤12:=by
 obtain⟨c1,c2⟩:=Zio c
 have hzr:0≤z∧z≤64:=by
  split at c2
  ·omega
  ·rename_i hc;omega
 obtain⟨m,rfl⟩:∃n:Nat,z=(n:Int):=⟨z.toNat,by omega⟩
 have hn12:m≤12:=by have:=L.z hzr.1 hzr.2;omega
 obtain⟨cg,cl,cp,dn,rfl,dl,_⟩:=Yn9 c1
 obtain⟨bg,bl,bp⟩:=L.H.q c1
 exact⟨ratS g,ratS l,ratS p,dn,m,(Zco cg).1.symm,(Zco cl).1.symm,(Zco cp).1.symm,rfl,dl,rfl,rfl,rfl,bg,bl,bp,rfl,hn12⟩
def Yyb{p:Str}(L:RnL g l p D z d)(c:Yxp g l p D z=0):∀q∈Yxo g l p D z,Qb 5000 q:=by
 obtain⟨qg,ql,qp,n,m,rfl,rfl,rfl,rfl,hn,eg,el,ep,bg,bl,bp,rfl,hm⟩:=Yxl L c
 unfold Yxo
 rw[eg,el,ep,Int.toNat_natCast,Int.toNat_natCast]
 have rq:=Ywn (D:=n) bg bl bp (@Yw7 m) (k:=(Ywp m).length) (Yqg _)
 have pl:=@Ywk m
 exact fun y hy=>(rq.2 y hy).mono (by rw[pl];omega)
def Yx3{g l p:Str}{D z:Int}:(Yxo g l p D z).length=z.toNat:=by unfold Yxo Ywo;rw[Ywi.1,Ywk]
def Yxy{h0 hi:T O}{n0 ni B:Nat}{W:List Nat}{r:T V}{a b c i1 i2 c1 c2 v17 v18:V}{E:Int}{es us:List Rat}{cq:Rat}{s p:Str}(L:RnL g l p D z d)(hB:H.get B=some (.cells [.str g,.str l,.str p,.int .i64 D] 49 true))(hBN:B<n)(hR:Yx7 h0 n0 (.tup [a,b,c]) E es us)(k0:Keeps h0 n0 H n)(hI:Ywc hi ni (.tup [i1,i2]) (Yxp g l p D z) (Yxo g l p D z))(ki:Keeps hi ni H n)(hC:Ywe (.tup [c1,c2]) E cq)(l1:es.length<100000)(l2:us.length<100000)(qc:E=0→(Zaq cq).length<1000000000)(hs:E=0→s=Zaq cq)(t17:E=0→Tx H n v17 es)(t18:E=0→Tx H n v18 us)(hW:Zac M W=[])(r2:r.get 2=some (.int .i64 z))(r7:r.get 7=some (.ptr B 0))
  (r8:r.get 8=some a) (r9:r.get 9=some b) (r10:r.get 10=some c) (r11:r.get 11=some i1) (r12:r.get 12=some i2) (r13:r.get 13=some c1) (r14:r.get 14=some c2) (r15:r.get 15=some (.int .i64 (Yx6 E es us))) (r16:r.get 16=some (.int .i64 (Yxp g l p D z))) (r17:r.get 17=some v17) (r18:r.get 18=some v18) (r19:r.get 19=some .nilslice) (r20:r.get 20=some (.int .i64 E)) (r21:r.get 21=some (.str s)):
  Code A.C none A.ta5_1 ⟨r,142,[]⟩ ⟨H,n,W⟩ (fun e fr st=>Yx5 M e fr st H n):=by
 have b3:Yxp g l p D z=0→∀q∈Yxo g l p D z,(Zaq q).length<1000000000:=fun h q hq=>by
  have:=Zly (Yyb L h q hq)
  omega
 have il:=@Yx3 g l p D z
 rw[Zai]
 by_cases c0:Yxp g l p D z=0
 ·have hlz:(Yxo g l p D z).length<100000:=by
   obtain⟨_,_,_,_,m,_,_,_,_,_,_,_,_,_,_,_,hz,hm⟩:=Yxl L c0
   rw[il,hz,Int.toNat_natCast];omega
  obtain⟨qg,ql,qp,dn,m,hg,hl,hp,hD,hn,eg,el,ep,bg,bl,bp,hz,hm⟩:=Yxl L c0
  simp(disch:=first|(simp;done)|omega|rfl) [-getElem?_pos,A.ta5_1,r2,r7,r16,c0,Zak,hB,hBN,Zah,slc]
  rw[hz]
  refine Zaa (Yxg (by omega)) ?_
  rintro x2 h2 n2 k2 hx2
  have pl:=@Ywk m
  have hK:(3*40+3)*(Ywp m).length+1*((Ywp m).length+1)+2≤5000:=by rw[pl];omega
  simp(disch:=first|(simp;done)|omega|rfl) [-getElem?_pos,]
  rw[hg,hl,hp,hD]
  refine Zaa (Ywz (K:=5000) hx2 bg bl bp Yw7 (by decide) hn (by rw[pl];omega) hK (by decide) (by decide)) ?_
  rintro _ h3 n3 k3 ⟨a3,b3',rfl,ta3,_⟩
  have kk:=k2.trans k3
  have e3:Yxo g l p D z=Ywo qg ql qp dn (Ywp m):=by unfold Yxo;rw[eg,el,ep,hD,hz,Int.toNat_natCast,Int.toNat_natCast]
  simp(disch:=first|(simp;done)|omega|rfl) [-getElem?_pos,]
  refine Zbo ((Yxx hR (k0.trans kk) hI (ki.trans kk) hC l1 l2 hlz b3 qc hs (fun h=>(t17 h).keep kk) (fun h=>(t18 h).keep kk) (fun _=>by rw[e3];exact ta3.1) hW (by simp[r8]) (by simp[r9]) (by simp[r10]) (by simp[r11]) (by simp[r12]) (by simp[r13]) (by simp[r14]) (by simp[r15]) (by simp[r16]) (by simp[r17]) (by simp[r18]) (by simp) (by simp[r20]) (by simp[r21]))) ?_
  intro e fr st hq
  simp(disch:=first|(simp;done)|omega|rfl) [-getElem?_pos,]
  exact hq.trans kk
 ·simp(disch:=first|(simp;done)|omega|rfl) [-getElem?_pos,A.ta5_1,r16,c0,Zak]
  have hlz:z.toNat<100000∨True:=.inr trivial
  refine Zbo (Yxx (is:=[]) (i1:=i1) (i2:=i2) (v19:=.nilslice) (F:=Yxp g l p D z) hR k0 (.inl ⟨c0,?_⟩) ki hC l1 l2 (by simp) (fun h=>absurd h c0) qc hs t17 t18 (fun h=>absurd h c0) hW (by simp[r8]) (by simp[r9]) (by simp[r10]) (by simp[r11]) (by simp[r12]) (by simp[r13]) (by simp[r14]) (by simp[r15]) (by simp[r16]) (by simp[r17]) (by simp[r18]) (by simp[r19]) (by simp[r20]) (by simp[r21])) ?_
  ·rcases hI with⟨_,hx⟩|⟨hc,_⟩
   ·exact hx
   ·exact absurd hc c0
  ·intro e fr st hq
   simp(disch:=first|(simp;done)|omega|rfl) [-getElem?_pos,]
   exact hq
def Yx9{H h0 hi:T O}{M n n0 ni B:Nat}{W:List Nat}{r:T V}{a b c i1 i2 c1 c2 v:V}{D z:Int}{g l p:Str}{d:List Str}(L:RnL g l p D z d)(hB:H.get B=some (.cells [.str g,.str l,.str p,.int .i64 D] 49 true))(hBN:B<n)(hMn:M≤n)(hv:Sl H n v (strs d))(hR:Yx7 h0 n0 (.tup [a,b,c]) (Zau [Zbj g l p D,Ywg d]) (Ywo (ratS g) (ratS l) (ratS p) D.toNat (Ywv d)) (Yw5 (ratS g) (ratS l) (ratS p) D.toNat (Ywv d)))(k0:Keeps h0 n0 H n)(hI:Ywc hi ni (.tup [i1,i2]) (Yxp g l p D z) (Yxo g l p D z))(ki:Keeps hi ni H n)(hC:Ywe (.tup [c1,c2]) (Zau [Zbj g l p D,Ywg d]) (sqQ (Ywo (ratS g) (ratS l) (ratS p) D.toNat (Ywv d))))(hW:Zac M W=[])(r1:r.get 1=some v)(r2:r.get 2=some (.int .i64 z))(r7:r.get 7=some (.ptr B 0))
  (r8:r.get 8=some a) (r9:r.get 9=some b) (r10:r.get 10=some c) (r11:r.get 11=some i1) (r12:r.get 12=some i2) (r13:r.get 13=some c1) (r14:r.get 14=some c2) (r15:r.get 15=some (.int .i64 (Zau [Zbj g l p D,Ywg d]))) (r16:r.get 16=some (.int .i64 (Yxp g l p D z))) (r17:r.get 17=some .nilslice) (r18:r.get 18=some .nilslice) (r19:r.get 19=some .nilslice) (r20:r.get 20=some (.int .i64 (Zau [Zbj g l p D,Ywg d]))) (r21:r.get 21=some (.str [])):
  Code A.C none A.ta5_2 ⟨r,142,[]⟩ ⟨H,n,W⟩ (fun e fr st=>Yx5 M e fr st H n):=by
 rw[Zai]
 have lrc:=Yt6 (l:=d)
 by_cases c0:Zau [Zbj g l p D,Ywg d]=0
 ·obtain⟨qg,ql,qp,dn,q,hg,hl,hp,hD,hn,eg,el,ep,bg,bl,bp,er,ht,lq,bq⟩:=L.H.go c0
  obtain⟨es,hes⟩:∃es,es=Ywo qg ql qp dn q:=⟨_,rfl⟩
  obtain⟨us,hus⟩:∃us,us=Yw5 qg ql qp dn q:=⟨_,rfl⟩
  have ee:Ywo (ratS g) (ratS l) (ratS p) D.toNat (Ywv d)=es:=by rw[eg,el,ep,hD,er,Int.toNat_natCast,hes]
  have eu:Yw5 (ratS g) (ratS l) (ratS p) D.toNat (Ywv d)=us:=by rw[eg,el,ep,hD,er,Int.toNat_natCast,hus]
  rw[c0,ee,eu]at hR
  rw[c0,ee]at hC
  have hK:(3*40+3)*q.length+260*(q.length+1)+2≤5000:=by omega
  have rl:=@Ywi qg ql qp dn q q.length
  have rq:=Ywn (D:=dn) bg bl bp bq (k:=q.length) (Yqg _)
  have ru:=Ywy (D:=dn) bg bl bp bq (k:=q.length) (Yqg _)
  have le:es.length=q.length:=by rw[hes];exact rl.1
  have lu:us.length=q.length:=by rw[hus];exact rl.2
  have qe:∀y∈es,Qb 5000 y:=fun y hy=>by rw[hes]at hy;exact(rq.2 y hy).mono hK
  have qu:∀y∈us,Qb 5000 y:=fun y hy=>by rw[hus]at hy;exact(ru y hy).mono hK
  have bs:=Ywu (K:=5000) (l:=es) qe (Yqg _)
  have bs':Qb 200000 (sqQ es):=bs.mono (by rw[le];have:=Yqz (5000+5000+1) lq;omega)
  have hvq:Tx H n v q:=by
   rw[ht]at hv;exact hv
  simp(disch:=first|(simp;done)|omega|rfl) [-getElem?_pos,A.ta5_2,r1,r7,r15,c0,Zak,hB,hBN,Zah,slc]
  rw[hg,hl,hp,hD]
  refine Zaa (Ywz (K:=5000) hvq bg bl bp bq (by decide) hn (by omega) hK (by decide) (by decide)) ?_
  rintro _ h2 n2 k2 ⟨a3,b3,rfl,ta,tb⟩
  rw[←hes]at ta
  rw[←hus]at tb
  have le2:=k2.le
  have hB2:=(k2.get B hBN).trans hB
  have lB2:B<n2:=by omega
  simp(disch:=first|(simp;done)|omega|rfl) [-getElem?_pos,r1,r7,hB2,lB2,Zah,slc]
  rw[hg,hl,hp,hD]
  refine Zaa (Yxt (K:=5000) (hvq.keep k2) bg bl bp bq (by decide) hn (by omega) hK (by decide) (by decide)) ?_
  rintro _ h3 n3 k3 rfl
  rw[←hes]
  simp(disch:=first|(simp;done)|omega|rfl) [-getElem?_pos,]
  refine Zaa (Yxc ((ta.keep k3).1) (by simp[le];omega)) ?_
  rintro y h4 n4 k4 hy
  have le3:=k3.le
  have le4:=k4.le
  have tb4:=((tb.keep k3).keep k4).1
  obtain⟨y',h5,n5,w5,ap,k5,sy,hw5⟩:=Yxw (w:=W) hy (Sn.one.2 tb4) (fun x hx=>by obtain⟨z,_,rfl⟩:=Yts.1 hx;rfl) (by omega) (by simp[strs,le];omega) (by simp[strs,tx,lu];omega)
  have e5:((strs (es.map Zaq)).map fun x=>[x])++((tx us).map fun x=>[x])=(tx (es++us)).map fun x=>[x]:=by simp[tx,strs]
  rw[e5]at sy
  have sl5:Tx h5 n5 y' (es++us):=Sn.one.1 sy
  have hL:=fun w=>Yas (w:=w) sl5 (by rw[Yqr];omega) fun q' hq'=>by
   rcases Yry.1 hq' with hq'|hq'
   ·have:=Zly (qe q' hq');omega
   ·have:=Zly (qu q' hq');omega
  have K5:Keeps H n h5 n5:=(k2.trans k3).trans (k4.then k5)
  have k25:Keeps h2 n2 h5 n5:=k3.trans (k4.then k5)
  simp(disch:=first|(simp;done)|omega|rfl) [-getElem?_pos, -Zac,ap,hL]
  refine Zbo (Yxy (M:=M) (a:=a) (b:=b) (c:=c) (c1:=c1) (c2:=c2) (E:=0) (es:=es) (us:=us) (v17:=a3) (v18:=b3) (s:=Zaq (sqQ es)) (cq:=sqQ es) L ((K5.get B hBN).trans hB) (by have:=K5.le;omega) hR (k0.trans K5) hI (ki.trans K5) hC (by omega) (by omega) (fun _=>by have:=Zly bs';omega) (fun _=>rfl) (fun _=>(ta.keep k25).1) (fun _=>(tb.keep k25).1) ?_ (by simp[r2]) (by simp[r7]) (by simp[r8]) (by simp[r9]) (by simp[r10]) (by simp[r11]) (by simp[r12]) (by simp[r13]) (by simp[r14]) (by simp[Yx6]) (by simp[r16]) (by simp) (by simp) (by simp[r19]) (by simp[r20,c0]) (by simp)) ?_
  ·refine Zo5 fun i hi=>?_
   rcases hw5 i hi with h6|h6
   ·exact Yge hW i h6
   ·omega
  ·intro e fr st hq
   simp(disch:=first|(simp;done)|omega|rfl) [-getElem?_pos,]
   exact hq.trans K5
 ·have e1:Yx6 (Zau [Zbj g l p D,Ywg d]) (Ywo (ratS g) (ratS l) (ratS p) D.toNat (Ywv d)) (Yw5 (ratS g) (ratS l) (ratS p) D.toNat (Ywv d))=Zau [Zbj g l p D,Ywg d]:=Yqe c0
  simp(disch:=first|(simp;done)|omega|rfl) [-getElem?_pos,A.ta5_2,r15,c0,Zak]
  refine Zbo (Yxy (M:=M) (a:=a) (b:=b) (c:=c) (c1:=c1) (c2:=c2) (E:=Zau [Zbj g l p D,Ywg d]) (es:=[]) (us:=[]) (v17:=.nilslice) (v18:=.nilslice) (s:=[]) (cq:=0) L hB hBN (.inl ⟨c0,?_⟩) k0 hI ki (.inl ⟨c0,?_⟩) (by simp) (by simp) (fun h=>absurd h c0) (fun h=>absurd h c0) (fun h=>absurd h c0) (fun h=>absurd h c0) hW (by simp[r2]) (by simp[r7]) (by simp[r8]) (by simp[r9]) (by simp[r10]) (by simp[r11]) (by simp[r12]) (by simp[r13]) (by simp[r14]) (by simp[r15,Yx6,c0]) (by simp[r16]) (by simp[r17]) (by simp[r18]) (by simp[r19]) (by simp[r20]) (by simp[r21])) ?_
  ·rcases hR with⟨_,hx⟩|⟨hc,_⟩
   ·exact hx
   ·exact absurd hc c0
  ·rcases hC with⟨_,hx⟩|⟨hc,_⟩
   ·exact hx
   ·exact absurd hc c0
  ·intro e fr st hq
   simp(disch:=first|(simp;done)|omega|rfl) [-getElem?_pos,]
   exact hq
def Yw4{H:T O}{M n B C:Nat}{W:List Nat}{r:T V}{v:V}{D z:Int}{g l p:Str}{d:List Str}(L:RnL g l p D z d)(hB:H.get B=some (.cells [.str g,.str l,.str p,.int .i64 D] 49 true))(hBN:B<n)(hC:H.get C=some (.cells [.str g,.str l,.str p,.int .i64 D] 48 true))(hCN:C<n)(hMn:M≤n)(hv:Sl H n v (strs d))(hP:P10 H n)(hW:Zac M W=[])(r1:r.get 1=some v)(r2:r.get 2=some (.int .i64 z))(r3:r.get 3=some (.ptr C 0))(r7:r.get 7=some (.ptr B 0)):
  Code A.C none A.ta5_3 ⟨r,142,[]⟩ ⟨H,n,W⟩ (fun e fr st=>Yx5 M e fr st H n):=by
 rw[Zai]
 simp(disch:=first|(simp;done)|omega|rfl) [-getElem?_pos,A.ta5_3,r1,r2,r3,r7,hC,hCN,Zah,slc]
 refine Zaa (Yud hv L.H.ld) ?_
 rintro x1 h1 n1 k1 hx1
 simp(disch:=first|(simp;done)|omega|rfl) [-getElem?_pos,]
 refine Zaa (Yxu hx1 (hP.keep k1) L.H) ?_
 rintro x2 h2 n2 k2 hx2
 obtain⟨a,b,c,rfl⟩:=hx2.three
 have K2:=k1.trans k2
 have le2:=K2.le
 have hC2:=(K2.get C hCN).trans hC
 have lC2:C<n2:=by omega
 simp(disch:=first|(simp;done)|omega|rfl) [-getElem?_pos,r1,r2,r3,r7,hC2,lC2,Zah,slc]
 refine Zaa (Yx2 (hP.keep K2) L.H.lg L.H.ll L.H.lp L.H.q L.z) ?_
 rintro x3 h3 n3 k3 hx3
 obtain⟨i1,i2,rfl⟩:=hx3.two
 have K3:=K2.trans k3
 have le3:=K3.le
 have hC3:=(K3.get C hCN).trans hC
 have lC3:C<n3:=by omega
 simp(disch:=first|(simp;done)|omega|rfl) [-getElem?_pos,r1,r2,r3,r7,hC3,lC3,Zah,slc]
 refine Zaa (Yud (hv.keep K3) L.H.ld) ?_
 rintro x4 h4 n4 k4 hx4
 have K4:=K3.trans k4
 simp(disch:=first|(simp;done)|omega|rfl) [-getElem?_pos,]
 refine Zaa (Yxh hx4 (hP.keep K4) L.H) ?_
 rintro x5 h5 n5 k5 hx5
 obtain⟨c1,c2,rfl⟩:=hx5.two
 have K5:=K4.trans k5
 have le5:=K5.le
 have hB5:=(K5.get B hBN).trans hB
 have lB5:B<n5:=by omega
 have lg:=L.H.lg
 have ll:=L.H.ll
 have lp:=L.H.lp
 simp(disch:=first|(simp;done)|omega|rfl) [-getElem?_pos,r1,r2,r3,r7,hB5,lB5,Zah,slc]
 refine Zaa (Yh6 (by omega) (by omega) (by omega)) ?_
 rintro _ h6 n6 k6 rfl
 simp(disch:=first|(simp;done)|omega|rfl) [-getElem?_pos,r1,r2,r3,r7]
 refine Zaa (Yya (hv.keep (K5.trans k6)) L.H.ld fun s hs=>by have:=L.H.fd s hs;omega) ?_
 rintro _ h7 n7 k7 rfl
 have hi7:n7<n7+1:=by omega
 have kA:=(k6.trans k7).trans (kset (Keeps.refl (h:=h7) (n:=n7)) (.cells [.int .i64 (Zbj g l p D),.int .i64 (Ywg d)] 3 true))
 have K7:=K5.trans kA
 have le7:=K7.le
 have hB7:=(K7.get B hBN).trans hB
 have lB7:B<n7+1:=by have:=(K5.trans (k6.trans k7)).le;omega
 have hB7':=((K5.trans (k6.trans k7)).get B hBN).trans hB
 have nB7:¬B=n7:=by have:=(K5.trans (k6.trans k7)).le;have:=k7.le;have:=k6.le;omega
 simp(disch:=first|(simp;done)|omega|rfl) [-getElem?_pos,splice,Zam.chk,Zue hi7,r1,r2,r3,r7,nB7,hB7',lB7,Zah,slc]
 generalize h7.set n7 (.cells [.int .i64 (Zbj g l p D),.int .i64 (Ywg d)] 3 true)=H7 at*
 refine Zaa (Yh6 (by omega) (by omega) (by omega)) ?_
 rintro _ h8 n8 k8 rfl
 have hi8:n8<n8+1:=by omega
 have kC:=k8.trans (kset (Keeps.refl (h:=h8) (n:=n8)) (.cells [.int .i64 (Zbj g l p D),.int .i64 (if z<0∨64<z then 3 else 0)] 3 true))
 have K8:=K7.trans kC
 have hB8:=(K8.get B hBN).trans hB
 have le8:=K8.le
 simp(disch:=first|(simp;done)|omega|rfl) [-getElem?_pos,r1,r2,r3,r7,Zwc,splice,Zam.chk,Zue hi8]
 generalize h8.set n8 (.cells [.int .i64 (Zbj g l p D),.int .i64 (if z<0∨64<z then 3 else 0)] 3 true)=H8 at*
 have kk2:Keeps h2 n2 H8 (n8+1):=((((k3.trans k4).trans k5).trans kA).trans kC)
 have kk3:Keeps h3 n3 H8 (n8+1):=(((k4.trans k5).trans kA).trans kC)
 refine Zbo (Yx9 (M:=M) (a:=a) (b:=b) (c:=c) (c1:=c1) (c2:=c2) (i1:=i1) (i2:=i2) L hB8 (by omega) (by omega) (hv.keep K8) hx2 kk2 hx3 kk3 hx5 hW (by simp[r1]) (by simp[r2]) (by simp[r7]) (by simp) (by simp) (by simp) (by simp) (by simp) (by simp) (by simp) (by simp) (by simp[Yxp]) (by simp) (by simp) (by simp) (by simp) (by simp)) ?_
 intro e fr st hq
 simp(disch:=first|(simp;done)|omega|rfl) [-getElem?_pos,]
 exact hq.trans K8
def Ywr{l:List Str}(h:Yub 12 64 l=true):l.length≤66∧∀s∈l,s.length≤40:=by
 simp only[Yub,Yq1,Yrs]at h
 refine⟨?_,fun s hs=>by simpa[Yvf]using h.2 s hs⟩
 have:=h.1
 simp[Yvw]at this
 omega
def Ywl{l:List Str}(h:Yub 12 64 l=true)(h2:l.length≤64):l.length≤12:=by
 simp only[Yub,Yq1,Yrs]at h
 have:=h.1
 simp[Yvw]at this
 omega
def Yx0{h:T O}{N:Nat}{g l p:Str}{D z:Int}{v:V}{d:List Str}(hs:Sl h N v (strs d))(hP:P10 h N)(hd:d.length<9223372036854775808)(hg:g.length<9223372036854775808)(hl:l.length<9223372036854775808)(hp:p.length<9223372036854775808):Fn A.C 5 [.agg [.str g,.str l,.str p,.int .i64 D],v,.int .i64 z] h N (fun x _ _=>x=.bool true):=by
 intro w
 rw[Zab,A.k5 (by simp)]
 have kB:Keeps h N (((h.set N (.cells [.str g,.str l,.str p,.int .i64 D] 48 true)).set (N+1) (.cells [.str [],.str [],.str [],.int .i64 0] 49 true)).set (N+1) (.cells [.str g,.str l,.str p,.int .i64 D] 49 true)) (N+2):=((Keeps.refl.new _).new _).set (by omega)
 have hA:=fun w=>Zro (w:=w) (hP.keep kB)
 have b0:(((h.set N (.cells [.str g,.str l,.str p,.int .i64 D] 48 true)).set (N+1) (.cells [.str [],.str [],.str [],.int .i64 0] 49 true)).set (N+1) (.cells [.str g,.str l,.str p,.int .i64 D] 49 true)).get N=some (.cells [.str g,.str l,.str p,.int .i64 D] 48 true):=by simp
 have b1:(((h.set N (.cells [.str g,.str l,.str p,.int .i64 D] 48 true)).set (N+1) (.cells [.str [],.str [],.str [],.int .i64 0] 49 true)).set (N+1) (.cells [.str g,.str l,.str p,.int .i64 D] 49 true)).get (N+1)=some (.cells [.str g,.str l,.str p,.int .i64 D] 49 true):=by simp
 simp(disch:=first|(simp;done)|omega|rfl) [-getElem?_pos,A.b5,Zah,slc,splice,Zal]
 generalize ((h.set N (.cells [.str g,.str l,.str p,.int .i64 D] 48 true)).set (N+1) (.cells [.str [],.str [],.str [],.int .i64 0] 49 true)).set (N+1) (.cells [.str g,.str l,.str p,.int .i64 D] 49 true)=hB at*
 simp(disch:=first|(simp;done)|omega|rfl) [-getElem?_pos,hA,b0,b1,Zah,slc]
 refine Zaa (Ydk hg hl hp) ?_
 rintro _ h1 n1 k1 rfl
 have le1:=k1.le
 have K1:=kB.trans k1
 have hA1:=fun w=>Zro (w:=w) (hP.keep K1)
 have f0:=(k1.get N (by omega)).trans b0
 have f1:=(k1.get (N+1) (by omega)).trans b1
 have e0:N<n1:=by omega
 have e1:N+1<n1:=by omega
 have hS1:∀w,A.C.call (.func 8 [] []) [v,.int .i64 12,.int .i64 64] ⟨h1,n1,w⟩=some (.bool (Yub 12 64 d),⟨h1,n1,w⟩):=fun w=>Yuo (n:=12) (lim:=64) (hs.keep K1) hd (by decide)
 by_cases cS:g.length≤40∧l.length≤40∧p.length≤40
 ·by_cases cd:Yub 12 64 d=true
  ·by_cases cz:12<z∧z≤64
   ·simp(disch:=first|(simp;done)|omega|rfl) [-getElem?_pos,cS,cd,cz.1,cz.2,hS1,hA1,f0,f1,e0,e1,Zah,slc,Ret]
    exact K1
   ·have lz:0≤z→z≤64→z≤12:=fun _ _=>by omega
    by_cases c12:12<z
    ·have c64:¬z≤64:=fun hc=>cz ⟨c12,hc⟩
     obtain⟨ld15,fd⟩:=Ywr cd
     simp(disch:=first|(simp;done)|omega|rfl) [-getElem?_pos,cS,cd,c12,c64,hS1,f0,f1,e0,e1,Zah,slc]
     refine Zaa (Yh6 (by omega) (by omega) (by omega)) ?_
     rintro _ h2 n2 k2 rfl
     have le2:=k2.le
     have K2:=K1.trans k2
     have hA2:=fun w=>Zro (w:=w) (hP.keep K2)
     have f02:=(k2.get N (by omega)).trans f0
     have f12:=(k2.get (N+1) (by omega)).trans f1
     have e02:N<n2:=by omega
     have e12:N+1<n2:=by omega
     by_cases c0:Zbj g l p D=0
     ·simp(disch:=first|(simp;done)|omega|rfl) [-getElem?_pos,c0,Zak,f02,f12,e02,e12,Zah,slc]
      have fl:=Ywt (h:=h2) (N:=n2) (D:=D) (dd:=12) (n:=6) cS.1 cS.2.1 cS.2.2 (by decide) (by decide)
      refine Zaa fl ?_
      rintro _ h3 n3 k3 rfl
      have le3:=k3.le
      have K3:=K2.trans k3
      have hA3:=fun w=>Zro (w:=w) (hP.keep K3)
      have dl:D≤6:=by
       obtain⟨_,_,_,dn,hd',dl,_⟩:=Yn9 c0
       omega
      have dl':decide (D≤((6:Nat):Int))=true:=by simpa using dl
      by_cases cf:Yxa [g,l,p] 3 12=true
      ·have L:RnL g l p D z d:=⟨⟨cS.1,cS.2.1,cS.2.2,by omega,fun s hs=>by have:=fd s hs;omega,fun _=>by
         simp only[Yxa,List.all_cons,List.all_nil,Bool.and_true,Yq1]at cf
         exact⟨(Yxb cf.2.1).2,(Yxb cf.2.2.1).2,(Yxb cf.2.2.2).2⟩,fun hc=>by
         unfold Ywg at hc
         split at hc
         ·omega
         ·exact Ywl cd (by omega)⟩,lz⟩
       rw[dl',cf,decide_eq_true c0]
       simp(disch:=first|(simp;done)|omega|rfl) [-getElem?_pos,f02,f12]
       refine Zbo (Yw4 (M:=N) (B:=N+1) (C:=N) L ((k3.get (N+1) (by omega)).trans f12) (by omega) ((k3.get N (by omega)).trans f02) (by omega) (by omega) (hs.keep K3) (hP.keep K3) (by simp) (by simp) (by simp) (by simp) (by simp)) ?_
       rintro _ _ ⟨H,nn,WW⟩ ⟨rfl,r6',rfl,h6,hw,hk⟩
       simp only at hw hk
       simp(disch:=first|(simp;done)|omega|rfl) [-getElem?_pos,h6,hw,Ret]
       exact K3.trans hk
      ·have cf':Yxa [g,l,p] 3 12=false:=by simpa using cf
       rw[cf',Yye,Bool.and_false]
       simp(disch:=first|(simp;done)|omega|rfl) [-getElem?_pos,hA3,Ret]
       exact K3
     ·have L:RnL g l p D z d:=⟨⟨cS.1,cS.2.1,cS.2.2,by omega,fun s hs=>by have:=fd s hs;omega,fun hc=>absurd hc c0,fun hc=>by
         unfold Ywg at hc
         split at hc
         ·omega
         ·exact Ywl cd (by omega)⟩,lz⟩
      simp(disch:=first|(simp;done)|omega|rfl) [-getElem?_pos,c0,Zak]
      refine Zbo (Yw4 (M:=N) (B:=N+1) (C:=N) L f12 (by omega) f02 (by omega) (by omega) (hs.keep K2) (hP.keep K2) (by simp) (by simp) (by simp) (by simp) (by simp)) ?_
      rintro _ _ ⟨H,nn,WW⟩ ⟨rfl,r6',rfl,h6,hw,hk⟩
      simp only at hw hk
      simp(disch:=first|(simp;done)|omega|rfl) [-getElem?_pos,h6,hw,Ret]
      exact K2.trans hk
    ·have c13:z≤12:=by omega
     obtain⟨ld15,fd⟩:=Ywr cd
     simp(disch:=first|(simp;done)|omega|rfl) [-getElem?_pos,cS,cd,c12,hS1,f0,f1,e0,e1,Zah,slc]
     refine Zaa (Yh6 (by omega) (by omega) (by omega)) ?_
     rintro _ h2 n2 k2 rfl
     have le2:=k2.le
     have K2:=K1.trans k2
     have hA2:=fun w=>Zro (w:=w) (hP.keep K2)
     have f02:=(k2.get N (by omega)).trans f0
     have f12:=(k2.get (N+1) (by omega)).trans f1
     have e02:N<n2:=by omega
     have e12:N+1<n2:=by omega
     by_cases c0:Zbj g l p D=0
     ·simp(disch:=first|(simp;done)|omega|rfl) [-getElem?_pos,c0,Zak,f02,f12,e02,e12,Zah,slc]
      have fl:=Ywt (h:=h2) (N:=n2) (D:=D) (dd:=12) (n:=6) cS.1 cS.2.1 cS.2.2 (by decide) (by decide)
      refine Zaa fl ?_
      rintro _ h3 n3 k3 rfl
      have le3:=k3.le
      have K3:=K2.trans k3
      have hA3:=fun w=>Zro (w:=w) (hP.keep K3)
      have dl:D≤6:=by
       obtain⟨_,_,_,dn,hd',dl,_⟩:=Yn9 c0
       omega
      have dl':decide (D≤((6:Nat):Int))=true:=by simpa using dl
      by_cases cf:Yxa [g,l,p] 3 12=true
      ·have L:RnL g l p D z d:=⟨⟨cS.1,cS.2.1,cS.2.2,by omega,fun s hs=>by have:=fd s hs;omega,fun _=>by
         simp only[Yxa,List.all_cons,List.all_nil,Bool.and_true,Yq1]at cf
         exact⟨(Yxb cf.2.1).2,(Yxb cf.2.2.1).2,(Yxb cf.2.2.2).2⟩,fun hc=>by
         unfold Ywg at hc
         split at hc
         ·omega
         ·exact Ywl cd (by omega)⟩,lz⟩
       rw[dl',cf,decide_eq_true c0]
       simp(disch:=first|(simp;done)|omega|rfl) [-getElem?_pos,f02,f12]
       refine Zbo (Yw4 (M:=N) (B:=N+1) (C:=N) L ((k3.get (N+1) (by omega)).trans f12) (by omega) ((k3.get N (by omega)).trans f02) (by omega) (by omega) (hs.keep K3) (hP.keep K3) (by simp) (by simp) (by simp) (by simp) (by simp)) ?_
       rintro _ _ ⟨H,nn,WW⟩ ⟨rfl,r6',rfl,h6,hw,hk⟩
       simp only at hw hk
       simp(disch:=first|(simp;done)|omega|rfl) [-getElem?_pos,h6,hw,Ret]
       exact K3.trans hk
      ·have cf':Yxa [g,l,p] 3 12=false:=by simpa using cf
       rw[cf',Yye,Bool.and_false]
       simp(disch:=first|(simp;done)|omega|rfl) [-getElem?_pos,hA3,Ret]
       exact K3
     ·have L:RnL g l p D z d:=⟨⟨cS.1,cS.2.1,cS.2.2,by omega,fun s hs=>by have:=fd s hs;omega,fun hc=>absurd hc c0,fun hc=>by
         unfold Ywg at hc
         split at hc
         ·omega
         ·exact Ywl cd (by omega)⟩,lz⟩
      simp(disch:=first|(simp;done)|omega|rfl) [-getElem?_pos,c0,Zak]
      refine Zbo (Yw4 (M:=N) (B:=N+1) (C:=N) L f12 (by omega) f02 (by omega) (by omega) (hs.keep K2) (hP.keep K2) (by simp) (by simp) (by simp) (by simp) (by simp)) ?_
      rintro _ _ ⟨H,nn,WW⟩ ⟨rfl,r6',rfl,h6,hw,hk⟩
      simp only at hw hk
      simp(disch:=first|(simp;done)|omega|rfl) [-getElem?_pos,h6,hw,Ret]
      exact K2.trans hk
  ·simp(disch:=first|(simp;done)|omega|rfl) [-getElem?_pos,cS,cd,hS1,hA1,f0,f1,e0,e1,Zah,slc,Ret]
   exact K1
 ·simp(disch:=first|(simp;done)|omega|rfl) [-getElem?_pos,cS,hA1,Ret]
  exact K1
end Go.Mx
