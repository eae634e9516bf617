/-lensletlaw05-/
import Derived.Test.YthekjfgljafnaaaGreatDoorSpI
set_option linter.all false
namespace Go.Mx
open Go Go.Proofs
set_option maxHeartbeats 4000000
set_option maxRecDepth 1000000
def A.lb3_0:Zaw:=sr [bi 138 .lss 137 136]
 (.seq (cd 138
 (.skip)
 (.exit 6))
 (.seq (.block 7 (sr [ia 139 1 135 137,ld 140 139,mv 20 140]
 (.reg [mv 141 18,mv 142 20,mv 143 17,mv 144 20,c1 145 17 144,ia 146 1 143 145,ld 147 146,c2 148 16 142 147,c2 149 15 141 148,mv 18 149])))
 (.reg [bc 150 .add 137 1,mv 137 150])))
def A.lb3_1:Zaw:=sr [bi 130 .lss 129 128]
 (.seq (cd 130
 (.skip)
 (.exit 4))
 (.seq (.block 5 (sr [ia 131 1 127 129,ld 132 131,mv 17 132]
 (sr [mv 133 3,c1 134 13 133,mv 18 134]
 (.seq (sr [mv 135 8,ln 136 135,mc 137 0]
 (.block 6 (.loop A.lb3_0)))
 (sr [mv 151 18,mv 152 17,c2 153 12 151 152,ge 154 (.un .not (tq 153))]
 (cd 154
 (sr [ge 2 (.mov (.const (.bool false)))]
 (.ret))
 (.skip)))))))
 (.reg [bc 155 .add 129 1,mv 129 155])))
def A.lb3_2:Zaw:=sr [bi 118 .lss 117 116]
 (.seq (cd 118
 (.skip)
 (.exit 2))
 (.seq (.block 3 (sr [ia 119 1 115 117,ld 120 119,mv 15 120]
 (sr [mv 121 11,mv 122 15,c2 123 14 121 122,ge 124 (.bin .neq (.prim .str) true (tq 123) (.const (.str [48])))]
 (cd 124
 (sr [ge 2 (.mov (.const (.bool false)))]
 (.ret))
 (.skip)))))
 (.reg [bc 125 .add 117 1,mv 117 125])))
def A.lb3_3:Zaw:=sr [bi 96 .lss 95 94]
 (.seq (cd 96
 (.skip)
 (.exit 0))
 (.seq (.block 1 (sr [ia 97 1 93 95,ld 98 97,mv 11 98]
 (sr [mv 100 0,mv 101 11,c2 102 11 100 101,mv 99 102,xt 103 99 0,xt 104 99 1,mv 12 103,mv 13 104]
 (.seq (sr [mv 105 13,ni 106 105 0,mv 107 106,mh 108 12 107,mh 109 0 107,gz 110 107 (.len 1 (tq 109)),gz 111 107 (.call (fq 13) [tq 110]),gz 112 107 (.call (fq 12) [tq 108,tq 111]),gz 113 107 (.un .not (tq 112)),pt 114 107 113]
 (cd 114
 (sr [ge 2 (.mov (.const (.bool false)))]
 (.ret))
 (.skip)))
 (sr [mv 115 8,ln 116 115,mc 117 0]
 (.block 2 (.loop A.lb3_2)))))))
 (.reg [bc 126 .add 95 1,mv 95 126])))
def A.ta3_0:Zaw:=sr [ge 164 (.bslice 25 1 0 [] []),mv 165 6,ge 166 (.append 1 24 25 [.nilslice] (tq 164) (tq 165)),mv 21 166]
 (sr [mv 167 21,ge 168 (.bslice 37 1 0 [] []),mv 169 6,ge 170 (.iaddrSl 1 (tq 169) (kq 0)),ld 171 170,ge 172 (.append 1 16 37 [(.str [])] (tq 168) (tq 171)),ge 173 (.iaddrSl 1 (tq 167) (kq 0)),so 173 172]
 (.seq (.regD [mv 174 21,ge 175 (.iaddrSl 1 (tq 174) (kq 0)),ld 176 175,mv 177 21,ge 178 (.iaddrSl 1 (tq 177) (kq 0)),ld 179 178,ge 180 (.iaddrSl 1 (tq 179) (kq 0)),ld 181 180,ge 182 (.call (fq 19) [tq 181,(.const (.str [49,47,51]))]),ge 183 (.iaddrSl 1 (tq 176) (kq 0)),so 183 182] [0,1,3,0,8,24,56,120,248,511,1023])
 (sr [mv 184 0,mv 185 6,mv 186 6,ln 187 186,bc 188 .sub 187 1,ge 189 (.sliceSl 1 (tq 185) none (some (tq 188)) none),c2 190 18 184 189,ei 191 190 21,mv 192 191,mg 193 0 192,mg 194 21 192,gy 195 192 (.call (fq 18) [tq 193,tq 194]),gy 196 192 (.bin .eql (.prim .int) true (tq 195) (kq 21)),pf 197 192 196,mv 198 197,gy 199 198 (.call (fq 5) []),pf 200 198 199,mv 2 200]
 (.ret))))
def A.ta3_1:Zaw:=.seq (sr [mv 156 0,mv 157 6,c2 158 18 156 157,ni 159 158 0]
 (cd 159
 (sr [ge 2 (.mov (.const (.bool false)))]
 (.ret))
 (.skip)))
 (.seq (sr [mv 160 6,ln 161 160,ei 162 161 0]
 (cd 162
 (sr [ge 163 (.call (fq 5) []),mv 2 163]
 (.ret))
 (.skip)))
 A.ta3_0)
def A.ta3_2:Zaw:=.seq (sr [mv 127 0,ln 128 127,mc 129 0]
 (.block 4 (.loop A.lb3_1)))
 A.ta3_1
def A.ta3_3:Zaw:=.seq (sr [mv 93 6,ln 94 93,mc 95 0]
 (.block 0 (.loop A.lb3_3)))
 A.ta3_2
def A.b3:Zaw:=sr [ge 2 (.mov (.const (.bool false)))]
 (.seq (sr [mv 22 0,ge 23 (.call (fq 4) [tq 22,.const (.int .i64 5),.const (.int .i64 5),.const (.int .i64 4)]),ge 24 (.un .not (tq 23))]
 (cd 24
 (sr [ge 25 (.call (fq 5) []),mv 2 25]
 (.ret))
 (.skip)))
 (sr [mv 26 0,ge 27 (.iaddrSl 1 (tq 26) (kq 0)),ld 28 27,ln 29 28,mv 3 29]
 (sr [mv 31 0,c1 32 6 31,mv 30 32,xt 33 30 0,xt 34 30 1,mv 4 33,mv 5 34]
 (sr [mv 36 0,c1 37 7 36,mv 35 37,xt 38 35 0,xt 39 35 1,mv 6 38,mv 7 39]
 (sr [mv 41 0,c1 42 8 41,mv 40 42,xt 43 40 0,xt 44 40 1,mv 8 43,mv 9 44]
 (.seq (sr [mv 45 5,mv 46 7,bi 47 .add 45 46,mv 48 9,bi 49 .add 47 48,ni 50 49 0,mv 51 50,mh 52 6 51,gz 53 51 (.len 1 (tq 52)),mh 54 3 51,gz 55 51 (.bin .gtr (.node []) false (tq 53) (tq 54)),pt 56 51 55,mv 57 56,mh 58 6 57,mh 59 3 57,gz 60 57 (.call (fq 9) [tq 58,tq 59]),gz 61 57 (.bin .neq (.prim .int) true (tq 60) (kq 0)),pt 62 57 61,mv 63 62,mh 64 8 63,mh 65 3 63,gz 66 63 (.call (fq 9) [tq 64,tq 65]),gz 67 63 (.bin .neq (.prim .int) true (tq 66) (kq 0)),pt 68 63 67,mv 69 68,mh 70 8 69,gz 71 69 (.len 1 (tq 70)),mh 72 4 69,gz 73 69 (.bin .neq (.prim .int) false (tq 71) (tq 72)),pt 74 69 73,mv 75 74,mh 76 4 75,mh 77 6 75,gz 78 75 (.len 1 (tq 77)),gz 79 75 (.bin .add (.node []) false (tq 76) (tq 78)),mh 80 3 75,gz 81 75 (.bin .neq (.prim .int) false (tq 79) (tq 80)),pt 82 75 81,mv 83 82,mh 84 6 83,gz 85 83 (.call (fq 10) [tq 84]),gz 86 83 (.un .not (tq 85)),pt 87 83 86,mv 88 87,mh 89 8 88,gz 90 88 (.call (fq 10) [tq 89]),gz 91 88 (.un .not (tq 90)),pt 92 88 91]
 (cd 92
 (sr [ge 2 (.mov (.const (.bool false)))]
 (.ret))
 (.skip)))
 A.ta3_3))))))
def A.c3:A.F 3=some ⟨201,[.tmp 2],A.b3⟩:=by kernel_rfl
def A.k3:=@A.kk 3 _ _ _ A.c3 rfl
def Yqd{h:T O}{N:Nat}:Fn A.C 13 [.int .i64 0] h N (fun x _ _=>x=.nilslice):=by
 intro w
 rw[Zab,A.k13 (by simp)]
 simp(disch:=first|(simp;done)|omega|rfl) [-getElem?_pos,A.b13]
 refine Zai [(3,12)] (fun e r st=>e=.exit 0∧Zaa N st.w=[]∧Keeps h N st.h st.n∧r.get 3=some .nilslice) (fun m r st=>m=0∧Zaa N st.w=[]∧Keeps h N st.h st.n∧r.get 4=some (.int .i64 0)∧r.get 3=some .nilslice) 0 ?_ ?_ ?_
 ·exact⟨rfl,by simp,Keeps.refl,by simp,by simp⟩
 ·rintro m r ⟨H,n1,W⟩ hr hf ⟨rfl,hW,hK,h4,h3⟩
  simp only at hW hK
  rw[Zah]
  simp(disch:=first|(simp;done)|omega|rfl) [-getElem?_pos,A.lb13_0,hr,hf,h3,h4,hW,hK]
 ·rintro _ r ⟨H,n1,W⟩ hr ⟨rfl,hW,hK,h3⟩
  simp only at hW hK
  simp(disch:=first|(simp;done)|omega|rfl) [-getElem?_pos,hr,h3,Ret,hW,hK]
def Yj1{h:T O}{N n:Nat}(hn:n<1000):Fn A.C 13 [.int .i64 n] h N (fun x h' n'=>Tx h' n' x ((List.range n).map fun _=>0)):=by
 by_cases h0:0<n
 ·intro w
  refine(Ybv h0 hn w).mono fun v st ⟨q1,q2,q3⟩=>⟨q1,q2,?_⟩
  obtain⟨R,rfl,_,hR⟩:=q3
  have:=hR.txt.1
  simpa using this
 ·obtain rfl:n=0:=by omega
  intro w
  refine(Yqd w).mono fun v st ⟨q1,q2,q3⟩=>⟨q1,q2,?_⟩
  subst q3
  exact .inl ⟨rfl,.inl rfl⟩
def Ygf{nB n0:Nat}{B:T O}{vd vb vc:V}{m:List (List Str)}{Kr Cr:List (List Rat)}{r0:T V}(hBn:nB≤n0)(hM:TlM m)(eK:Kr=Zll (Zdq m) (hdL m))(eC:Cr=Zea (Zdq m) (hdL m))(hd:MtS B n0 vd m)(hb:TxM B n0 vb Kr)(hc:TxM B n0 vc Cr)(hP:P10 B n0)(a0:r0.get 0=some vd)(a8:r0.get 8=some vc)(a93:r0.get 93=some vb)(a94:r0.get 94=some (.int .i64 Kr.length)):
  ∀j r st,(∀t,inD [(2,2),(11,13),(15,15),(95,126)] t=false→r.get t=r0.get t)→Fx [(2,2),(11,13),(15,15),(95,126)] r0 201 ⟨r,201,[]⟩→(Zaa nB st.w=[]∧Keeps B n0 st.h st.n∧∃k,k+j=Kr.length∧r.get 95=some (.int .i64 (k:Nat)))→Code A.C none A.lb3_3 ⟨r,201,[]⟩ st (Rd [(2,2),(11,13),(15,15),(95,126)] r0 201 (fun j r st=>Zaa nB st.w=[]∧Keeps B n0 st.h st.n∧∃k,k+j=Kr.length∧r.get 95=some (.int .i64 (k:Nat))) j (fun e r st=>e=.exit 0∧Zaa nB st.w=[]∧Keeps B n0 st.h st.n)):=by
 rintro j r ⟨H,n1,W⟩ hr hf ⟨hW,hK,k,hk,h95⟩
 simp only at hW hK
 rw[Zah]
 have leK:=hK.le
 have n5:=hM.n5
 have s5:=hM.s5
 have s1:=hM.s1
 obtain⟨bC,bK,bl⟩:=Zm2 hM
 rw[←eC]at bC bl
 rw[←eK]at bK bl
 have rK:RcN Kr (hdL m):=by rw[eK];exact Zja
 have rC:RcN Cr (hdL m):=by rw[eC];exact Znc hM.rc
 have ld:=hd.len
 have lc:=hc.len
 cases j with
 |zero=>
  obtain rfl:k=Kr.length:=by omega
  simp(disch:=first|(simp;done)|omega|rfl) [-getElem?_pos,A.lb3_3,hr,hf,h95,a0,a8,a93,a94,hW,hK]
 |succ j=>
  have hlt:k<Kr.length:=by omega
  have hlt':(k:Int)<(Kr.length:Int):=by omega
  obtain⟨x,hx⟩:=Zae hlt
  have hxl:=rK x (Yv7 hx)
  have hxq:=bK x (Yv7 hx)
  obtain⟨i,o,cc,e,rw,u,q1,q2,q3,q4,q5⟩:=(hb.keep hK).at hx
  have lb:=(hb.keep hK).len
  simp(disch:=first|(simp;done)|omega|rfl) [-getElem?_pos,A.lb3_3,hr,hf,h95,a0,a8,a93,a94,hlt,hlt',lb,q1,q2,q3,q4]
  refine Zac (Yfl (hd.keep hK) q5 (hP.keep hK) hM.sh (fun q hq=>(hxq q hq).mono (by decide)) (by omega)) ?_
  rintro _ H2 n2 k2 hT
  obtain⟨ea,eq⟩:=Yp4 hM (k:=k) (x:=x) (by rw[←eK];exact hx)
  rw[ea,eq]at hT
  rcases hT with⟨t1,_⟩|⟨_,⟨t1,_⟩|⟨_,v2,rfl,t2⟩⟩
  ·exact absurd rfl t1
  ·rw[Yt4]at t1
   cases t1
  have le2:=k2.le
  simp(disch:=first|(simp;done)|omega|rfl) [-getElem?_pos,hr,hf,h95,a0,a8,a93,a94,Zad,ld]
  refine Zac (Yj1 (n:=m.length) (by omega)) ?_
  rintro vz H3 n3 k3 hz
  have le3:=k3.le
  have hsr:=fun w=>Ybj (w:=w) (l:=((List.range m.length).map fun _=>(0:Rat)).map Zax) (t2.keep k3) hz (by simp;omega)
  have kX:=k2.trans k3
  have kk3:=hK.trans kX
  simp(disch:=first|(simp;done)|omega|rfl) [-getElem?_pos,hr,hf,h95,a0,a8,a93,a94,Zad,ld,hsr,lc]
  refine Zai [(2,2),(15,15),(117,125)] (fun e r st=>e=.exit 2∧Zaa nB st.w=[]∧Keeps H3 n3 st.h st.n) (fun a r st=>Zaa nB st.w=[]∧Keeps H3 n3 st.h st.n∧∃t,t+a=Cr.length∧r.get 117=some (.int .i64 (t:Nat))) Cr.length ?_ ?_ ?_
  ·exact⟨by simp[hW],Keeps.refl,0,by omega,by simp⟩
  ·rintro a r2 ⟨H4,n4,W4⟩ hr2 hf2 ⟨hW4,hK4,t,ht,h117⟩
   simp only at hW4 hK4
   rw[Zah]
   have le4:=hK4.le
   cases a with
   |zero=>
    obtain rfl:t=Cr.length:=by omega
    simp(disch:=first|(simp;done)|omega|rfl) [-getElem?_pos,A.lb3_2,hr2,hf2,h117,hr,hf,h95,a0,a8,hW4,hK4]
   |succ a=>
    have tlt:t<Cr.length:=by omega
    have tlt':(t:Int)<(Cr.length:Int):=by omega
    obtain⟨v,hv⟩:=Zae tlt
    have hvl:=rC v (Yv7 hv)
    have hvq:=bC v (Yv7 hv)
    have kk4:=kk3.trans hK4
    obtain⟨i5,o5,cc5,e5,rw5,u5,g1,g2,g3,g4,g5⟩:=(hc.keep kk4).at hv
    have lc4:=(hc.keep kk4).len
    simp(disch:=first|(simp;done)|omega|rfl) [-getElem?_pos,A.lb3_2,hr2,hf2,h117,hr,hf,h95,a0,a8,tlt,tlt',lc4,g1,g2,g3,g4]
    refine Zac (Yma (j:=1212) (k:=1212) (q5.keep (kX.trans hK4)) g5 (by omega) hxq hvq (by decide) (by decide) (by
     have:=Ywr (1212+1212+1) (show x.length≤5 by omega)
     omega)) ?_
    rintro _ H5 n5' k5 rfl
    have hz0:=Ylk hM (k:=k) (a:=t) (x:=x) (v:=v) (by rw[←eK];exact hx) (by rw[←eC];exact hv)
    simp(disch:=first|(simp;done)|omega|rfl) [-getElem?_pos,hr2,hf2,h117,hr,hf,h95,a0,a8,hz0,Ya7,hW4]
    exact⟨a,by omega,hK4.trans k5,t+1,by omega,by omega⟩
  ·rintro e r2 ⟨H6,n6,W6⟩ hr2 ⟨rfl,hW6,hK6⟩
   simp only at hW6 hK6
   simp(disch:=first|(simp;done)|omega|rfl) [-getElem?_pos,hr2,hr,hf,h95,a0,a8,hW6]
   refine⟨?_,j,by omega,kk3.trans hK6,k+1,by omega,by omega⟩
   exact Fx.inner hf (by decide) (fun h=>by simpa using h) hr2
def Yge{nB n0:Nat}{B:T O}{vd vc:V}{m:List (List Str)}{Cr:List (List Rat)}{ps:List Nat}{r0:T V}(hBn:nB≤n0)(hM:TlM m)(eC:Cr=Zea (Zdq m) (hdL m))(eP:ps=(Za0 (Zdq m) (hdL m)).2.2)(hd:MtS B n0 vd m)(hc:TxM B n0 vc Cr)(a3:r0.get 3=some (.int .i64 (hdL m:Nat)))(a8:r0.get 8=some vc)(a127:r0.get 127=some vd)(a128:r0.get 128=some (.int .i64 m.length)):
  ∀j r st,(∀t,inD [(2,2),(17,18),(20,20),(129,155)] t=false→r.get t=r0.get t)→Fx [(2,2),(17,18),(20,20),(129,155)] r0 201 ⟨r,201,[]⟩→(Zaa nB st.w=[]∧Keeps B n0 st.h st.n∧∃k,k+j=m.length∧r.get 129=some (.int .i64 (k:Nat)))→Code A.C none A.lb3_1 ⟨r,201,[]⟩ st (Rd [(2,2),(17,18),(20,20),(129,155)] r0 201 (fun j r st=>Zaa nB st.w=[]∧Keeps B n0 st.h st.n∧∃k,k+j=m.length∧r.get 129=some (.int .i64 (k:Nat))) j (fun e r st=>e=.exit 4∧Zaa nB st.w=[]∧Keeps B n0 st.h st.n)):=by
 rintro j r ⟨H,n1,W⟩ hr hf ⟨hW,hK,k,hk,h129⟩
 simp only at hW hK
 rw[Zah]
 have leK:=hK.le
 have n5:=hM.n5
 have s5:=hM.s5
 have s1:=hM.s1
 obtain⟨bC,bK,bl⟩:=Zm2 hM
 rw[←eC]at bC bl
 have hE:=Zqr hM.rc
 rw[←eC,←eP]at hE
 have rC:RcN Cr (hdL m):=by rw[eC];exact Znc hM.rc
 have lD:(Zdq m).length=m.length:=Zmg
 have hdT:TxM B n0 vd (Zdq m):=MtS.txm (by rw[←hM.t];exact hd)
 have ld:=hd.len
 have lc:=hc.len
 cases j with
 |zero=>
  obtain rfl:k=m.length:=by omega
  simp(disch:=first|(simp;done)|omega|rfl) [-getElem?_pos,A.lb3_1,hr,hf,h129,a3,a8,a127,a128,hW,hK]
 |succ j=>
  have hlt:k<m.length:=by omega
  have hlt':(k:Int)<(m.length:Int):=by omega
  obtain⟨l,hl⟩:=Zae (l:=Zdq m) (k:=k) (by omega)
  have hll:=hM.rc l (Yv7 hl)
  have hlq:=hM.qb l (Yv7 hl)
  obtain⟨i,o,cc,e,rw,u,q1,q2,q3,q4,q5⟩:=(hdT.keep hK).at hl
  have ld1:=(hd.keep hK).len
  simp(disch:=first|(simp;done)|omega|rfl) [-getElem?_pos,A.lb3_1,hr,hf,h129,a3,a8,a127,a128,hlt,hlt',ld1,q1,q2,q3,q4]
  refine Zac (Yj1 (n:=hdL m) (by omega)) ?_
  rintro vz H3 n3 k3 hz
  have le3:=k3.le
  have kk3:=hK.trans k3
  rw[←Yp5 (C:=Cr) (ps:=ps) (l:=l)]at hz
  simp(disch:=first|(simp;done)|omega|rfl) [-getElem?_pos,hr,hf,h129,a3,a8,a127,a128,lc]
  refine Zai [(18,18),(20,20),(137,150)] (fun e r st=>e=.exit 6∧Zaa nB st.w=[]∧Keeps H3 n3 st.h st.n∧∃s,r.get 18=some s∧Tx st.h st.n s l) (fun a r st=>Zaa nB st.w=[]∧Keeps H3 n3 st.h st.n∧∃t,t+a=Cr.length∧r.get 137=some (.int .i64 (t:Nat))∧∃s,r.get 18=some s∧Tx st.h st.n s (Yfw Cr ps l (hdL m) t)) Cr.length ?_ ?_ ?_
  ·exact⟨by simp[hW],Keeps.refl,0,by omega,by simp,vz,by simp,hz⟩
  ·rintro a r2 ⟨H4,n4,W4⟩ hr2 hf2 ⟨hW4,hK4,t,ht,h137,s,h18,hs⟩
   simp only at hW4 hK4 hs
   rw[Zah]
   have le4:=hK4.le
   have kk4:=kk3.trans hK4
   cases a with
   |zero=>
    obtain rfl:t=Cr.length:=by omega
    rw[eC,eP,Yp2 hM hl]at hs
    simp(disch:=first|(simp;done)|omega|rfl) [-getElem?_pos,A.lb3_0,hr2,hf2,h137,h18,hr,hf,h129,a3,a8,hW4,hK4]
    exact hs
   |succ a=>
    have tlt:t<Cr.length:=by omega
    have tlt':(t:Int)<(Cr.length:Int):=by omega
    obtain⟨v,hv⟩:=Zae tlt
    have hvl:=rC v (Yv7 hv)
    have hvq:=bC v (Yv7 hv)
    obtain⟨p,hp,hpn,hfz,_⟩:=hE.piv t v hv
    have hpn':(p:Int)<(hdL m:Int):=by omega
    obtain⟨i5,o5,cc5,e5,rw5,u5,g1,g2,g3,g4,g5⟩:=(hc.keep kk4).at hv
    have lc4:=(hc.keep kk4).len
    have hpv:=fun w=>Zwl (w:=w) g5 (by omega)
    simp only[hfz]at hpv
    obtain⟨y,hy⟩:=Zae (l:=l) (k:=p) (by omega)
    have q54:=q5.keep (k3.trans hK4)
    have lu:=Tx.len q54
    rw[hll]at lu
    obtain⟨i6,o6,cc6,e6,rw6,b1,b2,b3,b4⟩:=q54.at (Zhj hy)
    simp(disch:=first|(simp;done)|omega|rfl) [-getElem?_pos,A.lb3_0,hr2,hf2,h137,h18,hr,hf,h129,a3,a8,tlt,tlt',lc4,g1,g2,g3,g4,hpv,lu,hpn,hpn',b1,b2,b3,b4]
    refine Zac (Ybu (j:=1212) (k:=14) g5 hvq (hlq y (Yv7 hy)) (by decide) (by decide) (by omega)) ?_
    rintro v6 H6 n6 k6 ho6
    have hsc:=(Yj7 ho6).1
    have le6:=k6.le
    simp(disch:=first|(simp;done)|omega|rfl) [-getElem?_pos,hr2,hf2,h137,h18,hr,hf,h129,a3,a8]
    refine Zac (Yjo (j:=6136) (k:=6136) (hs.keep k6) hsc (by rw[Zj3,Yw7];omega) (Yln bC hlq (by omega)) (fun q hq=>by
     obtain⟨z,hz,rfl⟩:=Ywv.1 hq
     exact((hvq z hz).mul (hlq y (Yv7 hy))).mono (by decide)) (by decide) (by decide) (by rw[Zj3];omega)) ?_
    rintro v7 H7 n7 k7 ho7
    have hsm:=(Yj7 ho7).1
    have hy2:l[p]?.getD 0=y:=by rw[hy];rfl
    rw[Zj3,←hy2,Ybc hv hp hvl]at hsm
    simp(disch:=first|(simp;done)|omega|rfl) [-getElem?_pos,hr2,hf2,h137,h18,hr,hf,h129,a3,a8,hW4]
    exact⟨a,by omega,(hK4.trans k6).trans k7,t+1,by omega,by omega,hsm⟩
  ·rintro e r2 ⟨H6,n6,W6⟩ hr2 ⟨rfl,hW6,hK6,s,h18,hs⟩
   simp only at hW6 hK6 hs
   have hsr:=fun w=>Ybj (w:=w) (l:=l.map Zax) hs (q5.keep (k3.trans hK6)) (by simp;omega)
   simp(disch:=first|(simp;done)|omega|rfl) [-getElem?_pos,hr2,hr,hf,h129,h18,a3,a8,a127,a128,hW6,hsr]
   refine⟨?_,j,by omega,kk3.trans hK6,k+1,by omega,by omega⟩
   exact Fx.inner hf (by decide) (fun h=>by simpa using h) hr2
variable {N:Nat} {h:T O} {v:V} {w:List Nat}
set_option maxHeartbeats 16000000
def TxM.half{n:Nat}{m:List (List Rat)}(s:TxM h N v m)(hn:n≤m.length):∃v',Zc0 ⟨h,N,w⟩ 1 (some v) (some none) (some (some (.int .i64 (n:Nat)))) (some none)=some (v',⟨h,N,w⟩)∧TxM h N v' (m.take n):=by
 obtain⟨us,h1,h2,h3⟩:=s
 obtain⟨v',e1,e2⟩:=Zfe (w:=w) h1 (lo:=0) (hi:=n) (by omega) (by omega) none (some (.int .i64 (n:Nat))) (.inr ⟨rfl,rfl⟩) (.inl rfl)
 rw[Yyv]at e2
 refine⟨v',e1,us.take n,e2,by rw[Ywm,Ywm,h2],fun j l hl=>?_⟩
 have hj:j<n:=by
  have:=Zau hl
  rw[Ywm]at this
  omega
 rw[Ywn,Yv6 hj]at hl
 obtain⟨u,a1,a2⟩:=h3 j l hl
 exact⟨u,by rw[Ywn,Yv6 hj];exact a1,a2⟩
def Zor(hP:P10 h N):A.C.call (.func 5 [] []) [] ⟨h,N,w⟩=some (.bool true,⟨h,N,w⟩):=by
 exact A.known hP.2
def Yry{q:Nat}{l:List Rat}(hv:Tx h N v l)(hl:0<l.length)(hl2:l.length<1000)(hq:h.get q=some (.cells [] 37 true)):Zb0 ⟨h,N,w⟩ 1 16 37 (.slice q 0 0 (some 0) 1) v=some (.slice N 0 l.length none 1,⟨h.set N (.cells (tx l) 37 true),N+1,w⟩):=by
 have hsr:Zaz ⟨h,N,w⟩ 1 v=some (l.length,tx l):=by rw[Ybk hv,Zhc]
 have hsq:slc ([]:List V) 0 0=some []:=rfl
 simp only[Zb0,hsr,St.row,hq,Yyy,Nat.zero_mul,hsq,St.alloc]
 rw[Yv4 (by omega),Yv4 (by unfold Zda;omega),Yv4 (by omega)]
 simp
def Yo8{q:Nat}{us:List V}(hv:Sl h N v us)(hl:0<us.length)(hl2:us.length<1000)(hq:h.get q=some (.cells [] 25 true)):Zb0 ⟨h,N,w⟩ 1 24 25 (.slice q 0 0 (some 0) 1) v=some (.slice N 0 us.length none 1,⟨h.set N (.cells us 25 true),N+1,w⟩):=by
 have hsr:Zaz ⟨h,N,w⟩ 1 v=some (us.length,us):=Ybk hv
 have hsq:slc ([]:List V) 0 0=some []:=rfl
 simp only[Zb0,hsr,St.row,hq,Yyy,Nat.zero_mul,hsq,St.alloc]
 rw[Yv4 (by omega),Yv4 (by unfold Zda;omega),Yv4 (by omega)]
 simp
def Yp1:Zax (1/3)=[49,47,51]:=by decide+kernel
def Yp3{nB n1:Nat}{B H:T O}{W:List Nat}{vd vb:V}{m:List (List Str)}{Kr:List (List Rat)}{r0:T V}(hM:TlM m)(eK:Kr=Zll (Zdq m) (hdL m))(hK0:0<Kr.length)(hd0:MtS B nB vd m)(hP0:P10 B nB)(hW:Zaa nB W=[])(hK:Keeps B nB H n1)(hb:TxM H n1 vb Kr)(a0:r0.get 0=some vd)(a6:r0.get 6=some vb):
  Code A.C none A.ta3_0 ⟨r0,201,[]⟩ ⟨H,n1,W⟩ (fun e fr st=>e=.ret∧∃r,fr=⟨r,201,[]⟩∧r.get 2=some (.bool true)∧Zaa nB st.w=[]∧Keeps B nB st.h st.n):=by
 rw[Zah]
 have leK:=hK.le
 have n5:=hM.n5
 have n1':=hM.n1
 obtain⟨bC,bK,bl⟩:=Zm2 hM
 rw[←eK]at bK bl
 have rK:RcN Kr (hdL m):=by rw[eK];exact Zja
 have ekb:kbQ m=Kr:=eK.symm
 obtain⟨us,sU,lU,hU⟩:=hb
 obtain⟨x0,hx0⟩:=Zae hK0
 obtain⟨u0,hu0,tu0⟩:=hU 0 x0 hx0
 have xl:=rK x0 (Yv7 hx0)
 have xq:=bK x0 (Yv7 hx0)
 obtain⟨y0,hy0⟩:=Zae (l:=x0) (k:=0) (by omega)
 have yq:=xq y0 (Yv7 hy0)
 have hul:0<us.length:=by omega
 have hul':(0:Int)<(us.length:Int):=by omega
 have hA:=Yo8 (N:=n1+1) (q:=n1) (w:=W) (h:=H.set n1 (.cells [] 25 true)) (sU.keep (Keeps.refl.new _)) hul (by omega) (by rw[T.get_set,Yv6 rfl])
 obtain⟨X1,hX1⟩:∃X,(H.set n1 (.cells [] 25 true)).set (n1+1) (.cells us 25 true)=X:=⟨_,rfl⟩
 rw[hX1]at hA
 have kX1:Keeps H n1 X1 (n1+1+1):=by rw[←hX1];exact(Keeps.refl.new _).new _
 have gX1:X1.get (n1+1)=some (.cells us 25 true):=by rw[←hX1,T.get_set,Yv6 rfl]
 have lb:=sU.len
 obtain⟨i,o,cc,e,rw,q1,q2,q3,q4⟩:=(sU.keep kX1).at hu0
 have qi:i<n1:=by
  obtain⟨i',o',cc',e',rw',p1,p2,_⟩:=sU.at hu0
  rw[q1]at p1
  simp at p1
  omega
 rw[Yxc]at q4
 have ine:¬i=n1+1+1:=by omega
 have hB:=Yry (N:=n1+1+1+1) (q:=n1+1+1) (w:=W) (l:=x0) (v:=u0) (h:=X1.set (n1+1+1) (.cells [] 37 true)) (tu0.keep (kX1.new _)) (by omega) (by omega) (by rw[T.get_set,Yv6 rfl])
 obtain⟨X2,hX2⟩:∃X,(X1.set (n1+1+1) (.cells [] 37 true)).set (n1+1+1+1) (.cells (tx x0) 37 true)=X:=⟨_,rfl⟩
 rw[hX2]at hB
 have kX2:Keeps X1 (n1+1+1) X2 (n1+1+1+1+1):=by rw[←hX2];exact(Keeps.refl.new _).new _
 have g20:X2.get (n1+1)=some (.cells us 25 true):=(kX2.get (n1+1) (by omega)).trans gX1
 have g21:X2.get (n1+1+1+1)=some (.cells (tx x0) 37 true):=by rw[←hX2,T.get_set,Yv6 rfl]
 obtain⟨vR,evR⟩:∃vR:V,vR=.slice (n1+1+1+1) 0 x0.length none 1:=⟨_,rfl⟩
 have sp:splice us 0 [vR]=us.set 0 vR:=Ze6 hul
 have lt20:n1+1<n1+1+1+1+1:=by omega
 have lt21:n1+1+1+1<n1+1+1+1+1:=by omega
 have wa:¬n1+1<nB:=by omega
 have wb:¬n1+1+1+1<nB:=by omega
 have hcR:vR.cells=[vR]:=by rw[evR];rfl
 have hoR:V.one vR=true:=by rw[evR];rfl
 have hbR:Zk3 vR=some (n1+1+1+1,0):=by rw[evR];rfl
 have hlR:Zo1 vR=some x0.length:=by rw[evR];rfl
 have hus1:1≤us.length:=hul
 rw[←evR]at hB
 have xp:0<x0.length:=by omega
 have xp':(0:Int)<(x0.length:Int):=by omega
 have ne1:¬n1+1+1+1=n1+1:=by omega
 have ty0:(tx x0)[0]?=some (.str (Zax y0)):=Zhj hy0
 have hadd:∀{h':T O} {N':Nat},Fn A.C 19 [.str (Zax y0),.str [49,47,51]] h' N' (fun u _ _=>u=.str (Zax (y0+1/3))):=fun {h' N'}=>by
  have:=Zv1 (h:=h') (N:=N') yq (show Qb 2 (1/3:Rat) from ⟨by decide+kernel,by decide+kernel⟩) (by decide) (by decide)
  rwa [Yp1]at this
 simp(disch:=first|(simp;done)|omega|rfl) [-getElem?_pos, -V.cells, -V.one,A.ta3_0,a0,a6,hA,hB,Zcw,hul,hul',lb,q1,q3,q4,ine,g20,g21,lt20,lt21,sp,hcR,hoR,Zal,hus1,wa,hW,hlR,hbR,xp,xp',ne1,ty0]
 refine Zac hadd ?_
 rintro _ H7 n7 k7 rfl
 have le7:=k7.le
 have g71:H7.get (n1+1+1+1)=some (.cells (tx x0) 37 true):=(k7.get _ (by omega)).trans (by rw[T.get_set,Yv4 (by omega)];exact g21)
 have g70:H7.get (n1+1)=some (.cells (us.set 0 vR) 25 true):=(k7.get _ (by omega)).trans (by rw[T.get_set,Yv6 rfl])
 have e21:RwS H7 n7 (n1+1+1+1) x0:=⟨by omega,g71⟩
 obtain⟨p3,p4⟩:=e21.put (j:=0) (q:=y0+1/3) xp
 have lt7:n1+1+1+1<n7:=by omega
 have hcs:∀s:Str,(V.str s).cells=[V.str s]:=fun _=>rfl
 have hco:∀s:Str,V.one (V.str s)=true:=fun _=>rfl
 have htl1:1≤(tx x0).length:=by rw[Zhc];omega
 simp(disch:=first|(simp;done)|omega|rfl) [-getElem?_pos, -V.cells, -V.one,a0,a6,Zal,hcs,hco,htl1,p3,g71,lt7,wa,wb,hW,xp,xp',hlR,hbR,ne1,Zao.chk]
 obtain⟨z0,hz0⟩:∃z,x0.set 0 (y0+1/3)=z:=⟨_,rfl⟩
 rw[hz0]at p4 ⊢
 obtain⟨X4,hX4⟩:∃X,H7.set (n1+1+1+1) (.cells (tx z0) 37 true)=X:=⟨_,rfl⟩
 rw[hX4]at p4 ⊢
 have zl:z0.length=x0.length:=by rw[←hz0,Yx4]
 have zq:∀q∈z0,Qb 1800 q:=fun q hq=>by
  rw[←hz0]at hq
  rcases Yxm hq with h|rfl
  ·exact(xq q h).mono (by decide)
  ·exact(yq.add (show Qb 2 (1/3:Rat) from ⟨by decide+kernel,by decide+kernel⟩)).mono (by decide)
 have zne:z0≠x0:=fun hc=>by
  have h1:z0[0]?=some (y0+1/3):=by rw[←hz0,List.getElem?_set,Yv6 rfl,Yv6 xp]
  rw[hc,hy0]at h1
  have h2:=Yxj h1
  have h3:(1/3:Rat)=0:=by grind
  exact absurd h3 (by decide+kernel)
 have kx4:Keeps H n1 X4 n7:=by
  rw[←hX4]
  exact(((((kX1.trans kX2).set (by omega))).trans k7).set (by omega))
 have hb4:TxM X4 n7 vb Kr:=⟨us,sU.keep kx4,lU,fun j l hl=>by
  obtain⟨u,a1,a2⟩:=hU j l hl
  exact⟨u,a1,a2.keep kx4⟩⟩
 have g4:X4.get (n1+1)=some (.cells (us.set 0 vR) 25 true):=by rw[←hX4,T.get_set,Yv4 (by omega)];exact g70
 have tR:Tx X4 n7 vR z0:=by
  rw[evR,←zl]
  exact p4.txt.1
 have hw4:TxM X4 n7 (.slice (n1+1) 0 us.length none 1) (Kr.set 0 z0):=by
  refine⟨us.set 0 vR,?_,by simp[lU],fun j l hl=>?_⟩
  ·have:=Sl.row (cp:=none) (N:=n7) (by omega) g4 rfl (by simp)
   rwa [Yx4]at this
  ·rw[List.getElem?_set]at hl ⊢
   by_cases hj:0=j
   ·subst hj
    rw[Yv6 rfl,Yv6 hK0]at hl
    rw[Yv6 rfl,Yv6 hul]
    obtain rfl:=Yxj hl
    exact⟨vR,rfl,tR⟩
   ·rw[Yv4 hj]at hl ⊢
    obtain⟨u,a1,a2⟩:=hU j l hl
    exact⟨u,a1,a2.keep kx4⟩
 have hn1:(us.length:Int)-1=((us.length-1:Nat):Int):=by omega
 obtain⟨v',f1,f2⟩:=hb4.half (w:=(n1+1+1+1)::(n1+1)::W) (n:=us.length-1) (by omega)
 have kA:=hK.trans kx4
 simp(disch:=first|(simp;done)|omega|rfl) [-getElem?_pos, -V.cells, -V.one,a0,a6,lb,hn1,Zcb,evOpt,f1]
 refine Zac (Zfy (B:=Kr.take (us.length-1)) (hd0.keep kA) f2 hM.sh hM.c16 (fun r hr q hq=>(bK r (Yxi hr) q hq).mono (by decide)) (by rw[Ywm];omega) (fun r hr=>rK r (Yxi hr)) (by omega)) ?_
 rintro _ H8 n8 k8 rfl
 have c1:¬kbQ m=Kr.take (us.length-1):=fun hc=>by
  have:=congrArg List.length hc
  rw[ekb,Ywm]at this
  omega
 rw[Yv4 c1]
 simp(disch:=first|(simp;done)|omega|rfl) [-getElem?_pos, -V.cells, -V.one,a0,a6,Zad]
 refine Zac (Zfy (B:=Kr.set 0 z0) (hd0.keep (kA.trans k8)) (hw4.keep k8) hM.sh hM.c16 (fun r hr q hq=>by
  rcases Yxm hr with h|rfl
  ·exact(bK r h q hq).mono (by decide)
  ·exact zq q hq) (by rw[Yx4];omega) (fun r hr=>by
  rcases Yxm hr with h|rfl
  ·exact rK r h
  ·omega) (by omega)) ?_
 rintro _ H9 n9 k9 rfl
 have c2:¬kbQ m=Kr.set 0 z0:=fun hc=>by
  have h1:(Kr.set 0 z0)[0]?=some z0:=by rw[List.getElem?_set,Yv6 rfl,Yv6 hK0]
  rw[←hc,ekb,hx0]at h1
  exact zne (Yxj h1).symm
 rw[Yv4 c2]
 have kF:=(kA.trans k8).trans k9
 have haw:=fun w=>Zor (w:=w) (hP0.keep kF)
 simp(disch:=first|(simp;done)|omega|rfl) [-getElem?_pos, -V.cells, -V.one,a0,a6,Zad,haw,hW,wa,wb]
 exact kF
set_option maxHeartbeats 16000000
def TPM.got{h:T O}{n:Nat}{c:Int}{M:List (List Rat)}{v:V}(s:TPM 0 M v c h n)(hM:QbM M 1212):c=0∧TxM h n v M:=by
 rcases s with⟨h0,_⟩|⟨_,⟨h0,_⟩|⟨_,rfl,h1⟩⟩
 ·exact absurd rfl h0
 ·rw[Yo6 (hM.mono (by decide))]at h0
  cases h0
 ·exact⟨rfl,h1⟩
def Ya8{M:List (List Rat)}{n:Nat}(h:QbM M 1212)(hc:RcN M n)(hn:n≤5):∀x∈M.map fun r=>r.map Zax,x.length<100000∧∀s∈x,s.length≤100000:=fun x hx=>by
 obtain⟨r,hr,rfl⟩:=Ywv.1 hx
 refine⟨by rw[Yw7,hc r hr];omega,fun s hs=>?_⟩
 obtain⟨q,hq,rfl⟩:=Ywv.1 hs
 have:=(Zr5 (h r hr q hq) (by decide)).2
 omega
def Ygh{h:T O}{N:Nat}{vd:V}{m:List (List Str)}(hd:MtS h N vd m)(hP:P10 h N)(hml:m.length<9223372036854775808)(hmx:∀x∈m,x.length<9223372036854775808):Fn A.C 3 [vd] h N (fun x _ _=>x=.bool true):=by
 intro w
 rw[Zab,A.k3 (by simp)]
 simp(disch:=first|(simp;done)|omega|rfl) [-getElem?_pos,A.b3]
 refine Zac (Yn7 (r0:=5) (c:=5) (d:=4) hd hml hmx (by decide) (by decide) (by decide)) ?_
 rintro _ h1 n1 k1 rfl
 have haw1:=fun w=>Zor (w:=w) (hP.keep k1)
 cases hf:Yf0 m 5 5 4 with
 |false=>
  simp(disch:=first|(simp;done)|omega|rfl) [-getElem?_pos,haw1,Ret]
  exact k1
 |true=>
  have hM:=Ytv hf
  have n5:=hM.n5
  have n1':=hM.n1
  have s1:=hM.s1
  have s5:=hM.s5
  obtain⟨bC,bK,bl⟩:=Zm2 hM
  obtain⟨Kr,eK⟩:∃K,K=Zll (Zdq m) (hdL m):=⟨_,rfl⟩
  obtain⟨Cr,eC⟩:∃K,K=Zea (Zdq m) (hdL m):=⟨_,rfl⟩
  rw[←eK]at bK bl
  rw[←eC]at bC bl
  have rK:RcN Kr (hdL m):=by rw[eK];exact Zja
  have rC:RcN Cr (hdL m):=by rw[eC];exact Znc hM.rc
  have eC2:=Zqr hM.rc
  rw[←eC]at eC2
  have eK2:=Zqr (Zkj (m:=Zdq m) (n:=hdL m))
  change Yt9 (Zll (Zdq m) (hdL m)) _ _ at eK2
  rw[←eK]at eK2
  have ld:=hd.len
  obtain⟨l0,hl0,h0⟩:∃l0,m[0]?=some l0∧hdL m=l0.length:=by
   obtain⟨l0,hl0⟩:=Zae (l:=m) (k:=0) (by omega)
   exact⟨l0,hl0,by unfold hdL;rw[hl0];rfl⟩
  obtain⟨i,o,cc,e,rw,u0,q1,q2,q3,q4,q5⟩:=(hd.keep k1).at hl0
  have l5:=q5.len
  rw[Zb5,←h0]at l5
  rw[Yxc]at q4
  have m0':(0:Int)<(m.length:Int):=by omega
  simp(disch:=first|(simp;done)|omega|rfl) [-getElem?_pos,ld,s1,m0',q1,q3,q4,l5]
  refine Zac (Ymb (hd.keep k1) hM.sh) ?_
  rintro _ h2 n2 k2 rfl
  have erk:Ysa m=((Cr.length:Nat):Int):=by
   unfold Ysa
   rw[Yv6 hM.c16,eC]
  rw[hM.c16,erk]
  have kk2:=k1.trans k2
  simp(disch:=first|(simp;done)|omega|rfl) [-getElem?_pos,ld]
  refine Zac (Yjg (hd.keep kk2) (hP.keep kk2) hM.sh) ?_
  rintro _ h3 n3 k3 ⟨vb,cb,rfl,hb⟩
  rw[hM.c16,show kbQ m=Kr from eK.symm]at hb
  obtain⟨rfl,hB⟩:=hb.got bK
  have kk3:=kk2.trans k3
  simp(disch:=first|(simp;done)|omega|rfl) [-getElem?_pos,ld]
  refine Zac (Zrd (hd.keep kk3) (hP.keep kk3) hM.sh) ?_
  rintro _ h4 n4 k4 ⟨vc,cc4,rfl,hc⟩
  rw[hM.c16,show cbQ m=Cr from eC.symm]at hc
  obtain⟨rfl,hC⟩:=hc.got bC
  have kk4:=kk3.trans k4
  have lK:=(hB.keep k4).len
  have lC:=hC.len
  have g1:¬((hdL m:Nat):Int)<(Kr.length:Int):=by omega
  have g2:((Cr.length:Nat):Int)+((Kr.length:Nat):Int)=((hdL m:Nat):Int):=by omega
  simp(disch:=first|(simp;done)|omega|rfl) [-getElem?_pos,ld,Zad,lK,lC,g1]
  refine Zac (Yb1 (n:=hdL m) (hB.keep k4).mts (by rw[Yw7];omega) (Ya8 bK rK n5)) ?_
  rintro _ h5 n5' k5 rfl
  rw[Zu5 (bK.mono (by decide)) rK]
  simp(disch:=first|(simp;done)|omega|rfl) [-getElem?_pos,ld,Zad,lK,lC]
  refine Zac (Yb1 (n:=hdL m) (hC.keep k5).mts (by rw[Yw7];omega) (Ya8 bC rC n5)) ?_
  rintro _ h6 n6 k6 rfl
  rw[Zu5 (bC.mono (by decide)) rC]
  have kk6:=(kk4.trans k5).trans k6
  have hb6:=((hB.keep k4).keep k5).keep k6
  have hc6:=(hC.keep k5).keep k6
  have hd6:=hd.keep kk6
  have hP6:=hP.keep kk6
  have hEb:=fun w=>Zpz (w:=w) hb6 eK2 (by omega) (by omega)
  have hEc:=fun w=>Zpz (w:=w) hc6 eC2 (by omega) (by omega)
  have le6:=kk6.le
  simp(disch:=first|(simp;done)|omega|rfl) [-getElem?_pos,ld,Zad,lK,lC,g2,hEb,hEc,A.ta3_3]
  refine Zai [(2,2),(11,13),(15,15),(95,126)] (fun e r st=>e=.exit 0∧Zaa N st.w=[]∧Keeps h6 n6 st.h st.n) (fun j r st=>Zaa N st.w=[]∧Keeps h6 n6 st.h st.n∧∃k,k+j=Kr.length∧r.get 95=some (.int .i64 (k:Nat))) Kr.length ?_ (Ygf (nB:=N) (vd:=vd) (vb:=vb) (vc:=vc) le6 hM eK eC hd6 hb6 hc6 hP6 (by simp) (by simp) (by simp) (by simp)) ?_
  ·exact⟨by simp,Keeps.refl,0,by omega,by simp⟩
  ·rintro _ r ⟨h7,n7,W7⟩ hr ⟨rfl,hW7,k7⟩
   simp only at hW7 k7
   have kk7:=kk6.trans k7
   have le7:=kk7.le
   simp(disch:=first|(simp;done)|omega|rfl) [-getElem?_pos,hr,ld,A.ta3_2]
   refine Zai [(2,2),(17,18),(20,20),(129,155)] (fun e r st=>e=.exit 4∧Zaa N st.w=[]∧Keeps h7 n7 st.h st.n) (fun j r st=>Zaa N st.w=[]∧Keeps h7 n7 st.h st.n∧∃k,k+j=m.length∧r.get 129=some (.int .i64 (k:Nat))) m.length ?_ (Yge (nB:=N) (vd:=vd) (vc:=vc) le7 hM eC rfl (hd.keep kk7) (hc6.keep k7) (by simp[hr]) (by simp[hr]) (by simp[hr]) (by simp[hr])) ?_
   ·exact⟨hW7,Keeps.refl,0,by omega,by simp⟩
   ·rintro _ r2 ⟨h8,n8,W8⟩ hr2 ⟨rfl,hW8,k8⟩
    simp only at hW8 k8
    have kk8:=kk7.trans k8
    have le8:=kk8.le
    have hb8:=(hb6.keep k7).keep k8
    simp(disch:=first|(simp;done)|omega|rfl) [-getElem?_pos,hr2,hr,A.ta3_1]
    refine Zac (Zfy (B:=Kr) (hd.keep kk8) hb8 hM.sh hM.c16 (bK.mono (by decide)) (by omega) rK (by omega)) ?_
    rintro _ h9 n9 k9 rfl
    have kk9:=kk8.trans k9
    have hb9:=hb8.keep k9
    have lb9:=hb9.len
    have ekb:kbQ m=Kr:=eK.symm
    rw[Yv6 ekb]
    by_cases hK0:Kr.length=0
    ·have haw9:=fun w=>Zor (w:=w) (hP.keep kk9)
     simp(disch:=first|(simp;done)|omega|rfl) [-getElem?_pos,hr2,hr,Zad,lb9,hK0,haw9,Ret,hW8]
     exact kk9
    ·have hK0':¬(Kr.length:Int)=0:=by omega
     simp(disch:=first|(simp;done)|omega|rfl) [-getElem?_pos,hr2,hr,Zad,lb9,hK0,hK0']
     refine Zbd (Yp3 (nB:=N) (B:=h) (vd:=vd) (vb:=vb) hM eK (by omega) hd hP (by simpa using hW8) kk9 hb9 (by simp[hr2,hr]) (by simp[hr2,hr])) ?_
     rintro _ _ ⟨h10,n10,W10⟩ ⟨rfl,r3,rfl,h2',hWx,hKx⟩
     simp only at hWx hKx
     simp(disch:=first|(simp;done)|omega|rfl) [-getElem?_pos,h2',Ret]
     exact⟨hWx,hKx⟩
open Go
inductive Zms where
 |nil
 |emp (b:Addr)
 |sl (b:Addr) (l c:Nat) (f:Nat→ByteArray)
def Zms.val:Zms→Value
 |.nil=>.slice none 0 0
 |.emp b=>.slice (some b) 0 0
 |.sl b l c f=>.slice (some b) l c
def Zms.ok(W:World):Zms→Prop
 |.sl b l c f=>l≤c∧0<c∧∀i,i<c→W.cell? (b.add i)=some (.string (f i))
 |_=>True
def Zms.strs:Zms→List Str
 |.sl b l c f=>(List.range l).map fun i=>(f i).data.toList
 |_=>[]
def eOf(W:World)(a:Addr):TypeId:=match W.heap[a.block]? with
 |some (.cells _ e _)=>e
 |_=>0
def Zxy{W:World}{a:Addr}{n:Nat}{f:Nat→Value}(hn:0<n)(hc:∀i,i<n→W.cell? (a.add i)=some (f i)):
  ∃c' lo hi,W.heap[a.block]?=some (.cells c' (eOf W a) (lo,hi))∧a.spot=none∧(∀i,i<n→c'[a.off+i]?=some (f i))∧a.off+n≤c'.size∧a.block<W.heap.size:=by
 have h0:=hc 0 hn
 have ha0:a.add 0=a:=by simp[Addr.add]
 rw[ha0]at h0
 obtain⟨c',e,fr,hb⟩:∃c' e fr,W.heap[a.block]?=some (.cells c' e fr):=by
  unfold World.cell? at h0
  split at h0
  ·rename_i c' e fr hb;exact⟨c',e,fr,hb⟩
  ·cases h0
 have hs:a.spot=none:=by
  unfold World.cell? at h0
  rw[hb]at h0
  simp only at h0
  split at h0
  ·cases h0
  ·rename_i h;simpa using h
 have hcell:∀i,i<n→c'[a.off+i]?=some (f i):=fun i hi=>by
  have:=hc i hi
  unfold World.cell? at this
  have e1:(a.add i).block=a.block:=by unfold Addr.add;split<;>rfl
  have e2:(a.add i).off=a.off+i:=by unfold Addr.add;split<;>simp_all
  have e3:(a.add i).spot=none:=by unfold Addr.add;split<;>simp_all
  rw[e1,hb]at this
  simp only[e2,e3,Option.isSome_none,Ywi,if_false]at this
  exact this
 have hlt:a.block<W.heap.size:=by
  rcases Nat.lt_or_ge a.block W.heap.size with h|h
  ·exact h
  ·rw[Array.getElem?_eq_none h]at hb;cases hb
 have hend:a.off+n≤c'.size:=by
  have:=hcell (n-1) (by omega)
  have h2:=(Array.getElem?_eq_some_iff.1 this).1
  omega
 obtain⟨lo,hi⟩:=fr
 exact⟨c',lo,hi,by rw[hb];simp[eOf,hb],hs,hcell,hend,hlt⟩
structure Ysh where
 a:Addr
 n:Nat
 f:Nat→Value
 g:Nat→V
def Ysh.ok(W:World)(r:Ysh):Prop:=0<r.n∧(∀i,i<r.n→W.cell? (r.a.add i)=some (r.f i))∧∀i,i<r.n→(r.f i).oneCell'=true
def Zrz{P:Program}{tbl:Nat→Option Zev}{G:Nat}(hP:Zl2 P tbl G){x:Za4}(hx:Zbx P x){F d:Nat}{f:FuncId}{mf:Zev}(hf:Zl9 P f=some mf){args:List V}{xs:List Value}{v:V}{y:Value}{S:St}{μ:Mu}{W:World}
  (h:Yr5 (Zg3 mf (Zbh (Zhe x tbl F d) F) args S) v) (hh:Zbb P μ W S) (hS:S.w=[]) (hargs:VRs μ args xs) (hv:∀μ z,VR μ v z→z=y):
  Calls P f ⟨xs⟩ W fun e W'=>e=.returned y∧RowKit.Below W.heap.size W W':=by
 obtain⟨s,hrun,hw⟩:=h.ex
 obtain⟨fn,hfn,_⟩:=Zx0 hf
 have ih:=Zki hP.m hP.e hP.t hx F d
 have:=Yec (Yfa ih hP.e (Yeo hP.m hP.e ih) (Yjy ih hP.e) (Zwh ih) F) hfn hf hh hargs hrun
 refine callsIn_wide.1 (CallsIn.mono (F:=Fence.wide) this fun e W' he=>?_)
 cases e with
 |returned z=>
  obtain⟨μ',ws,h1,h2⟩:=he
  have hws:ws=[]:=by have:=h2.wl;rw[hw,hS]at this;simpa using this.symm
  subst hws
  exact⟨by rw[hv _ _ h1],h2.chg.os,h2.chg.tape,h2.chg.output,h2.chg.size,fun k hk=>h2.chg.block k hk fun i hi=>by cases hi⟩
 |panicked _=>exact he.elim
 |outgrown=>exact he.elim
def Cx.calls{P:Program}{C:Cx}{G:Nat}(hP:Zl2 P C.tbl G)(hx:Zbx P C.x){f:Nat}{mf:Zev}(hf:Zl9 P f=some mf)(ht:C.tbl f=some mf){args:List V}{xs:List Value}{v:V}{y:Value}{S:St}{μ:Mu}{W:World}
  (hn:∀st,C.x (.func f [] []) args st=none) (h:Fn C f args S.h S.n (fun u _ _=>u=v)) (hh:Zbb P μ W S) (hS:S.w=[]) (hargs:VRs μ args xs) (hv:∀μ z,VR μ v z→z=y):
  Calls P f ⟨xs⟩ W fun e W'=>e=.returned y∧RowKit.Below W.heap.size W W':=by
 obtain⟨u,st',hc,hw,hk,hu⟩:=(h []).ex
 subst hu
 have hS':(⟨S.h,S.n,[]⟩:St)=S:=by obtain⟨a,b,c⟩:=S;simp only at hS;subst hS;rfl
 rw[hS']at hc
 rw[Cx.call_eq]at hc
 unfold Zer at hc
 rw[hn]at hc
 simp only at hc
 obtain⟨n,hn'⟩:=Zk1 (q:=fun n=>Zbh (C.at n) n) (fun n m hnm=>Zb8 (Cx.at_mono hnm) n m hnm) (fun _ _ _ _ _ e=>Cx.code_need e) hc
 unfold Zcz at hn'
 simp only[ht,List.nil_append,Yyb]at hn'
 exact Zrz (F:=n) (d:=n) hP hx hf ⟨_,hn',hw⟩ hh hS hargs hv
end Go.Mx
