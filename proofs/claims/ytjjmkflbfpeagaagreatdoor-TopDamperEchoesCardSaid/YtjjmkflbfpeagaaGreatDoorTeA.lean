/-TopDamperEchoes-/
import Derived.Test.YtjjmkflbfpeagaaGreatDoorFwA
set_option linter.all false
set_option maxHeartbeats 8000000
namespace Go.Mx
open Go Go.Proofs
variable {D k n:Nat} {g l r:Rat}
set_option maxRecDepth 1000000
noncomputable def A.b34:=A.q Tryz.f34
def A.k34:=@A.kk 34 25 [.tmp 6,.tmp 7] A.b34 (by kernel_rfl) rfl
noncomputable def A.b10:=A.q Tryz.f10
def A.k10:=@A.kk 10 11 [.tmp 4,.tmp 5] A.b10 (by kernel_rfl) rfl
noncomputable def A.b81:=A.q Tryz.f81
def A.k81:=@A.kk 81 8 [.tmp 2,.tmp 3] A.b81 (by kernel_rfl) rfl
def Zxr{h:T O}{N k:Nat}{x:V}{q:Rat}(hx:Fc h N x q)(hP:jB h N)(hq:Qb k q)(hk:k<=400000000):Fn A.C 81 [x] h N (fun v _ _=>v=if vZ q=true then .aY [.str [],.int .i64 4] else .aY [.str (av q),.int .i64 0]):=by
 intro w
 rw[aQ,A.k81 (by simp)]
 obtain⟨n1,u1,n2,u2,rfl,s1,s2⟩:=hx
 have o1:=cP s1
 have o2:=cP s2
 unfold V.one at o1 o2
 have kB:ad h N (h.set N (.cells [.int .i64 n1,u1,.int .i64 n2,u2] 72 true)) (N+1):=aG ad.refl _
 have b0:(h.set N (.cells [.int .i64 n1,u1,.int .i64 n2,u2] 72 true)).get N=some (.cells [.int .i64 n1,u1,.int .i64 n2,u2] 72 true):=by simp
 simp(disch:=first|(simp;done)|omega|rfl) [-getElem?_pos,A.b81,aL,aM,o1,o2]
 generalize fV:h.set N (.cells [.int .i64 n1,u1,.int .i64 n2,u2] 72 true)=hB at*
 clear fV
 have hx:Fc hB (N+1) (.agg [.int .i64 n1,u1,.int .i64 n2,u2]) q:=⟨n1,u1,n2,u2,rfl,s1.ae kB,s2.ae kB⟩
 have OW:=hP.ae kB
 have lg:=XH hx OW hq hk
 refine au lg ?_
 rintro _ h2 m2 k2 rfl
 have nk:=k2.le
 have f2:=(k2.get N (by omega)).trans b0
 have e2:N<m2:=by omega
 cases hb:vZ q with
 |true=>
  simp(disch:=first|(simp;done)|omega|rfl) [-getElem?_pos,aA]
  exact kB.trans k2
 |false=>
  simp(disch:=first|(simp;done)|omega|rfl) [-getElem?_pos,f2,e2,aL,aM]
  refine au (Zz5 (hx.ae k2) (OW.ae k2) (by have:=Es hq.1;omega) (by have:=Es hq.2;omega)) ?_
  rintro _ h3 m3 k3 rfl
  simp(disch:=first|(simp;done)|omega|rfl) [-getElem?_pos,aA]
  exact(kB.trans k2).trans k3
def gY(g r:Rat):Nat->Rat
 |0=> -g
 |k+1=>gY g r k*r
def Yju{j:Nat}(h:n<=j):pg (eH n) j=0:=by
 unfold pg
 rw[jC (by rw[xe];exact h)]
 rfl
def Pw{j:Nat}:pg (eH n) (j+1)=0:=by
 rcases Nat.lt_or_ge (j+1) n with h|h
 ·rw[MF h,aq (by omega)]
 ·exact Yju h
def Yqr{g l:Rat}{n:Nat}(hn:0<n):∀k,qx g l 0 0 (eH n) (k+1)=gY g (l-g) k
 |0=>by
  unfold qx
  rw[QJ,MI,Pw]
  have e:xg g l 0 0 (eH n) 0 0=1:=by
   unfold xg qx
   rw[aJ (aR _),MI,Nat.sub_zero,MF hn,aJ rfl]
   grind
  rw[e,gY]
  grind
 |k+1=>by
  have ih:=Yqr (g:=g) (l:=l) hn k
  have e:xg g l 0 0 (eH n) 0 (k+1)=qx g l 0 0 (eH n) (k+1):=by
   unfold xg
   rw[aJ (tN _),Nat.sub_zero]
  have e2:BG g l 0 0 (eH n) (k+1)= -qx g l 0 0 (eH n) (k+1):=by
   unfold qx
   rw[Pw]
   grind
  rw[gY,<-ih]
  generalize hx:qx g l 0 0 (eH n) (k+1)=x at*
  unfold qx
  rw[QJ,e,e2,Pw]
  grind
def Zvt{g l:Rat}{D n:Nat}:∀k,k<=D->BG g l 0 D (eH n) k=0
 |0,_=>MI
 |k+1,h=>by
  have e:xg g l 0 D (eH n) D k=0:=by unfold xg;rw[aq (by omega)]
  rw[QJ,Zvt k (by omega),e]
  grind
def Yp1(h:k+1<=D):qx g l 0 D (eH n) (k+1)=0:=by
 unfold qx
 rw[Zvt _ h,Pw]
 grind
def Ymz(hn:0<n):qx g l 0 D (eH n) 0=1:=by
 unfold qx
 rw[MI,MF hn,aJ rfl]
 grind
def Yns(h:dL r<1):dL (gY g r (k+1))<=dL (gY g r k):=by
 rw[gY,Xi]
 have h1:=@Xh (gY g r k)
 have:=Rat.mul_le_mul_of_nonneg_left (Rat.le_of_lt h) h1
 rw[Rat.mul_one]at this
 exact this
def Ynt(h:¬dL r<1):dL (gY g r k)<=dL (gY g r (k+1)):=by
 rw[gY,Xi]
 have h1:=@Xh (gY g r k)
 have:=Rat.mul_le_mul_of_nonneg_left (Rat.not_lt.1 h) h1
 rw[Rat.mul_one]at this
 exact this
def We{g r:Rat}(hg:Qb 14 g)(hr:Qb 30 r):∀k,Qb (14+30*k) (gY g r k)
 |0=>hg.neg
 |k+1=>((We hg hr k).mul hr).mono (by omega)
def Yj7{h:T O}{N:Nat}{x y:Rat}(hx:Qb 14 x)(hy:Qb 14 y)(hP:jB h N):Fn A.C 10 [.str (av x),.str (av y)] h N (fun u _ _=>u=.aY [.str (av (x-y)),.int .i64 0]):=by
 intro w
 have cA:qw [av x,av y]=0:=ML fun z hz=>by
  simp only[km,rV,jy,List.not_mem_nil,or_false]at hz
  rcases hz with rfl|rfl
  ·rw[Ia,(vc hx (by decide)).1];rfl
  ·rw[Ia,(vc hy (by decide)).1];rfl
 rw[aQ,A.k10 (by simp)]
 simp(disch:=first|(simp;done)|omega|rfl) [-getElem?_pos,A.b10]
 have f:Fn A.C 34 [.str (av x),.str (av y),.func 35 [] []] h N (fun u _ _=>u=.aY [.str (av (x-y)),.int .i64 0]):=by
  intro w
  rw[aQ,A.k34 (by simp)]
  have kC:ad h N (h.set N (.cells [.str (av x),.str (av y)] 22 true)) (N+1):=ad.refl.new _
  have s0:Sl (h.set N (.cells [.str (av x),.str (av y)] 22 true)) (N+1) (.slice N 0 2 (some 2) 1) (jV [av x,av y]):=Sl.row (e:=22) (rw:=true) (cp:=some 2) (by omega) (by simp[jV]) rfl (by simp)
  simp(disch:=first|(simp;done)|omega|rfl) [-getElem?_pos,A.b34,ag]
  have l1:=NT hx
  have l2:=NT hy
  refine au (Yfj s0 (by simp) (fun s hs=>by
   simp at hs
   rcases hs with rfl|rfl<;>omega)) ?_
  rintro _ h1 n1 k1 rfl
  rw[cA]
  have K1:=kC.trans k1
  simp(disch:=first|(simp;done)|omega|rfl) [-getElem?_pos,aW]
  refine au (yV hx (by decide)) ?_
  rintro v2 h2 n2 k2 f2
  simp(disch:=first|(simp;done)|omega|rfl) [-getElem?_pos,]
  refine au (yV hy (by decide)) ?_
  rintro v3 h3 n3 k3 f3
  simp(disch:=first|(simp;done)|omega|rfl) [-getElem?_pos,]
  have q2:=hx.iF
  have q3:=hy.iF
  refine au (My (f2.ae k3) f3 (by omega) (by omega) (by omega) (by omega)) ?_
  rintro v4 h4 n4 k4 f4
  have K4:=((K1.trans k2).trans k3).trans k4
  have bq:Qb 30 (x-y):=by
   have:=(hx.add hy.neg).mono (k:=30) (by decide)
   rwa [<-Rat.sub_eq_add_neg]at this
  simp(disch:=first|(simp;done)|omega|rfl) [-getElem?_pos,]
  refine au (Zxr f4 (hP.ae K4) bq (by decide)) ?_
  rintro _ h5 n5 k5 rfl
  rw[(vc bq (by decide)).1]
  simp(disch:=first|(simp;done)|omega|rfl) [-getElem?_pos,aA]
  exact K4.trans k5
 refine au f ?_
 rintro _ h1 n1 k1 rfl
 simp(disch:=first|(simp;done)|omega|rfl) [-getElem?_pos,aA]
 exact k1
def Yn6{l:List Rat}{h:T O}{N K:Nat}{v:V}(hv:Tx h N v l)(hl:l.length<1000)(hq:∀q∈l,Qb K q)(hK:K<=1800):Fn A.C 9 [v] h N (fun u _ _=>u=.int .i64 0):=by
 have e:cN ((l.map av).map fun s=>((aN s:Nat):Int))=0:=ML fun x hx=>by
  rw[List.map_map]at hx
  obtain⟨q,BJ,rfl⟩:=tV.1 hx
  have e:aN (av q)=0:=by rw[Ia,(vc (hq q BJ) hK).1];rfl
  simp[e]
 have:=Yg2 (h:=h) (N:=N) (v:=v) (l:=l.map av) hv (by simpa using(by omega:l.length<100000)) (fun s hs=>by
  obtain⟨q,BJ,rfl⟩:=tV.1 hs
  have:=(vc (hq q BJ) hK).2
  omega)
 rw[e]at this
 exact this
def Yo7{l:List Rat}{K:Nat}(hq:∀q∈l,Qb K q)(hK:K<=1800):vd l=false:=by
 unfold vd
 rw[List.any_eq_false]
 intro q h
 rw[(vc (hq q h) hK).1]
 decide
def A.yH:cj:=.seq (sr [mv 133 19,mv 134 6,bi 135 .lss 133 134]
 (cd 135
 (.skip)
 (.exit 2)))
 (.seq (.block 3 (.seq (sr [mv 138 9,mv 139 19,ia 140 1 138 139,ld 141 140,mv 142 18,ge 143 (.bin .neq (.cQ .str) false (tq 141) (tq 142))]
 (cd 143
 (sr [ge 4 (.mF (.const (.bool false)))]
 (.ret))
 (.skip)))
 (sr [mv 144 18,mv 145 16,c2 146 13 144 145,mv 18 146]
 (.seq (.fy [mv 147 19,bc 148 .gtr 147 1,mv 149 148,mg 150 13 149,mg 151 150 149,mg 152 9 151,mg 153 19 151,gy 154 151 (.c_ 1 (tq 152) (tq 153)),gy 155 151 (.load none (tq 154)),gy 156 151 (.call (fq 15) [tq 155]),mg 157 9 151,mg 158 19 151,gy 159 151 (.bin .sub (.node []) false (tq 158) (kq 1)),gy 160 151 (.c_ 1 (tq 157) (tq 159)),gy 161 151 (.load none (tq 160)),gy 162 151 (.call (fq 15) [tq 161]),gy 163 151 (.call (fq 14) [tq 156,tq 162]),gy 164 151 (.bin .gtr (.node []) false (tq 163) (kq 0)),gy 165 149 (.pick (tq 151) (tq 164) (.const (.bool false))),mg 166 165 149,mh 167 13 166,gz 168 166 (.un .not (tq 167)),mh 169 168 166,mg 170 9 169,mg 171 19 169,gy 172 169 (.c_ 1 (tq 170) (tq 171)),gy 173 169 (.load none (tq 172)),gy 174 169 (.call (fq 15) [tq 173]),mg 175 9 169,mg 176 19 169,gy 177 169 (.bin .sub (.node []) false (tq 176) (kq 1)),gy 178 169 (.c_ 1 (tq 175) (tq 177)),gy 179 169 (.load none (tq 178)),gy 180 169 (.call (fq 15) [tq 179]),gy 181 169 (.call (fq 14) [tq 174,tq 180]),gy 182 169 (.bin .lss (.node []) false (tq 181) (kq 0)),gz 183 166 (.pick (tq 169) (tq 182) (.const (.bool false))),gy 184 149 (.pick (tq 166) (.const (.bool true)) (tq 183)),pf 185 149 184] [0,1,3,7,15,31,31,127,255,511,31,31,2079,7199,15391,32767,65535,131071,262143,524287,1048575,2097151,4194303,8388607,8388607,33554431,67108863,134217727,8388607,8388607,545259519,1887436799,4034920447,8589934591,17179869183,34359738367,68719476735,137438953471,274877906943])
 (cd 185
 (sr [ge 4 (.mF (.const (.bool false)))]
 (.ret))
 (.skip))))))
 (.fL [mv 136 19,bc 137 .add 136 1,mv 19 137]))
def A.uY:cj:=.seq (sr [mv 99 15,mv 100 6,bi 101 .lss 99 100,mv 102 101,mg 103 15 102,gy 104 102 (.og 3 (tq 5)),gy 105 102 (.load none (tq 104)),gy 106 102 (.bin .leq (.node []) false (tq 103) (tq 105)),pf 107 102 106]
 (cd 107
 (.skip)
 (.exit 0)))
 (.seq (.block 1 (sr [mv 110 7,mv 111 15,ia 112 1 110 111,ld 113 112,ge 114 (.bin .neq (.cQ .str) true (tq 113) (.const (.str [48])))]
 (cd 114
 (sr [ge 4 (.mF (.const (.bool false)))]
 (.ret))
 (.skip))))
 (.fL [mv 108 15,bc 109 .add 108 1,mv 15 109]))
def A.yI:cj:=.seq (sr [mc 19 1]
 (.block 2 (.loop A.yH)))
 (sr [ge 186 (.call (fq 5) []),mv 4 186]
 (.ret))
def A.yJ:cj:=.seq (sr [mc 15 1]
 (.block 0 (.loop A.uY)))
 (sr [fa 116 1 2,ld 117 116,fa 118 0 2,ld 119 118,c2 120 10 117 119,mv 115 120,xt 121 115 0,xt 122 115 1,mv 16 121,mv 17 122]
 (.seq (sr [mv 123 17,ni 124 123 0,mv 125 124,mh 126 16 125,gz 127 125 (.call (fq 11) [tq 126]),gz 128 125 (.bin .neq (.cQ .int) true (tq 127) (kq 0)),pt 129 125 128]
 (cd 129
 (sr [ge 4 (.mF (.const (.bool false)))]
 (.ret))
 (.skip)))
 (sr [fa 130 0 2,ld 131 130,c1 132 12 131,mv 18 132]
 A.yI)))
def A.b3:cj:=sr [bx 2 24 0,ge 4 (.mF (.const (.bool false)))]
 (sr [lN 20 4 2,ge 5 (.alloc [(.str []),(.str []),(.str []),.int .i64 0] 25),gn (.store 4 (tq 5) (tq 20))]
 (.seq (sr [lN 21 4 5,ge 22 (.call (fq 4) [tq 21,.const (.int .i64 4),.const (.int .i64 6)]),ge 23 (.un .not (tq 22))]
 (cd 23
 (sr [ge 24 (.call (fq 5) []),mv 4 24]
 (.ret))
 (.skip)))
 (sr [mv 25 1,ge 26 (.cR .i64 (tq 25)),bc 27 .rem 26 9,ge 28 (.bin .add (.node []) false (kq 2) (tq 27)),mv 6 28]
 (sr [fa 29 2 2,gn (.store 1 (tq 29) (.const (.str [48])))]
 (sr [lN 31 4 2,mv 32 6,c2 33 6 31 32,mv 30 33,xt 34 30 0,xt 35 30 1,mv 7 34,mv 8 35]
 (sr [fa 36 3 2,gn (.store 1 (tq 36) (kq 0))]
 (sr [lN 38 4 2,mv 39 6,c2 40 6 38 39,mv 37 40,xt 41 37 0,xt 42 37 1,mv 9 41,mv 10 42]
 (sr [lN 44 4 2,c1 45 7 44,mv 43 45,xt 46 43 0,xt 47 43 1,mv 11 46,mv 12 47]
 (sr [mv 49 11,c1 50 8 49,mv 48 50,xt 51 48 0,xt 52 48 1,mv 13 51,mv 14 52]
 (.seq (sr [mv 53 8,ni 54 53 0,mv 55 54,mh 56 10 55,gz 57 55 (.bin .neq (.cQ .int) true (tq 56) (kq 0)),pt 58 55 57,mv 59 58,mh 60 12 59,gz 61 59 (.bin .neq (.cQ .int) true (tq 60) (kq 0)),pt 62 59 61,mv 63 62,mh 64 14 63,gz 65 63 (.bin .neq (.cQ .int) true (tq 64) (kq 0)),pt 66 63 65,mv 67 66,mh 68 9 67,gz 69 67 (.len 1 (tq 68)),mh 70 6 67,gz 71 67 (.bin .neq (.cQ .int) false (tq 69) (tq 70)),pt 72 67 71,mv 73 72,mh 74 7 73,gz 75 73 (.len 1 (tq 74)),mh 76 6 73,gz 77 73 (.bin .neq (.cQ .int) false (tq 75) (tq 76)),pt 78 73 77,mv 79 78,mh 80 9 79,gz 81 79 (.call (fq 9) [tq 80]),mh 82 7 79,gz 83 79 (.call (fq 9) [tq 82]),gz 84 79 (.bin .add (.node []) false (tq 81) (tq 83)),gz 85 79 (.bin .neq (.cQ .int) true (tq 84) (kq 0)),pt 86 79 85,mv 87 86,mh 88 9 87,gz 89 87 (.c_ 1 (tq 88) (kq 0)),gz 90 87 (.load none (tq 89)),gz 91 87 (.bin .neq (.cQ .str) true (tq 90) (.const (.str [49]))),pt 92 87 91,mv 93 92,mh 94 7 93,gz 95 93 (.c_ 1 (tq 94) (kq 0)),gz 96 93 (.load none (tq 95)),gz 97 93 (.bin .neq (.cQ .str) true (tq 96) (.const (.str [49]))),pt 98 93 97]
 (cd 98
 (sr [ge 4 (.mF (.const (.bool false)))]
 (.ret))
 (.skip)))
 A.yJ))))))))))
def A.c3:A.F 3=some ⟨187,[.tmp 4],A.b3⟩:=by kernel_rfl
def A.k3:=@A.kk 3 _ _ _ A.c3 rfl
def Mb(M:Nat)(e:Ex)(fr:Fr)(st:St)(H:T O)(n:Nat):Prop:=e=.ret/\∃r,fr=⟨r,187,[]⟩/\r.get 4=some (.bool true)/\aB M st.w=[]/\ad H n st.h st.n
def Mb.trans{H H2:T O}{M n n2:Nat}{e:Ex}{fr:Fr}{st:St}(s:Mb M e fr st H2 n2)(k:ad H n H2 n2):Mb M e fr st H n:=by
 obtain⟨h1,r,h2,h3,h4,h5⟩:=s
 exact⟨h1,r,h2,h3,h4,k.trans h5⟩
def Px{h:T O}{N:Nat}{w:List Nat}(hP:jB h N):A.C.call (.func 5 [] []) [] ⟨h,N,w⟩=some (.bool true,⟨h,N,w⟩):=by
 exact A.known hP.2
def Yqa{H:T O}{M n c:Nat}{W:List Nat}{r:T V}{v9:V}{es:List Rat}{g rt:Rat}{s:Bool}(te:Tx H n v9 es)(hl:es.length=c)(hc:2<=c)(wi:c<=10)(he:∀k,k+1<c->pg es (k+1)=gY g rt k)(hg:Qb 14 g)(hr:Qb 30 rt)(hs:s=true↔dL rt<1)(hW:aB M W=[])(hMn:M<=n)(hP:jB H n)(r6:r.get 6=some (.int .i64 c))(r9:r.get 9=some v9)(kK:r.get 13=some (.bool s))(Py:r.get 16=some (.str (av rt)))(r18:r.get 18=some (.str (av (-g)))):
  Code A.C none A.yI ⟨r,187,[]⟩ ⟨H,n,W⟩ (fun e fr st=>Mb M e fr st H n):=by
 rw[cm]
 have le:=te.len
 rw[hl]at le
 simp(disch:=first|(simp;done)|omega|rfl) [-getElem?_pos,A.yI]
 refine cX [(4,4),(18,19),(133,185)] (fun e r' st=>e=.exit 2/\aB M st.w=[]/\ad H n st.h st.n) (fun m r' st=>aB M st.w=[]/\ad H n st.h st.n/\∃t:Nat,1<=t/\t+m=c/\r'.get 19=some (.int .i64 (t:Nat))/\r'.get 18=some (.str (av (gY g rt (t-1))))) (c-1) ?_ ?_ ?_
 ·exact⟨hW,ad.refl,1,by omega,by omega,by simp,by simp[r18,gY]⟩
 ·rintro m r' ⟨H1,n1,W1⟩ iA hf ⟨nK,hK,t,HM,ht,wX,Aj⟩
  simp only at nK hK
  rw[cm]
  have F5:=hK.le
  cases m with
  |zero=>
   obtain rfl:t=c:=by omega
   simp(disch:=first|(simp;done)|omega|rfl) [-getElem?_pos,A.yH,iA,hf,wX,Aj,r6,nK,hK]
  |succ m=>
   have aO:t<c:=by omega
   have dB:(t:Int)<(c:Int):=by omega
   obtain⟨i1,o1,c1,y1,w1,a1,a2,a3,a4⟩:=(te.ae hK).at (C6 (gH (p:=es) (i:=t) (by omega)))
   have e1:pg es t=gY g rt (t-1):=by
    have:=he (t-1) (by omega)
    rwa [show t-1+1=t by omega]at this
   rw[e1]at a4
   have q1:=We hg hr (t-1)
   have Mc:14+30*(t-1)<=400:=by omega
   have tl1:=(vc q1 (by omega)).2
   have eM:gY g rt (t-1)*rt=gY g rt (t+1-1):=by
    obtain⟨u,rfl⟩:∃u,t=u+1:=⟨t-1,by omega⟩
    rfl
   simp(disch:=first|(simp;done)|omega|rfl) [-getElem?_pos,A.yH,iA,hf,wX,Aj,r6,r9,Py,kK,le,aO,dB,a1,a2,a3,a4,aW]
   refine au (Yke q1 hr (by omega) (by decide)) ?_
   rintro _ h2 n2 k2 rfl
   have nk:=k2.le
   rw[eM]
   have K2:=hK.trans k2
   by_cases c1':t=1
   ·subst c1'
    simp(disch:=first|(simp;done)|omega|rfl) [-getElem?_pos,iA,hf,wX,r6,r9,kK,Py]
    exact⟨m,by omega,nK,K2,2,by omega,by omega,rfl,rfl⟩
   ·have rQ:1<(t:Int):=by omega
    have k_:(t:Int)-1=((t-1:Nat):Int):=by omega
    obtain⟨i2,o2,c2,y2,w2,b1,b2,b3,b4⟩:=(te.ae K2).at (C6 (gH (p:=es) (i:=t-1) (by omega)))
    obtain⟨i3,o3,c3,y3,w3,d1,d2,d3,d4⟩:=(te.ae K2).at (C6 (gH (p:=es) (i:=t) (by omega)))
    rw[e1]at d4
    have u1:=b1.symm.trans d1
    simp only[ak,bh]at u1
    obtain⟨rfl,rfl⟩:=u1
    have u2:=b3.symm.trans d3
    simp only[ak,O.cells.injEq]at u2
    obtain⟨rfl,rfl,rfl⟩:=u2
    have e2:pg es (t-1)=gY g rt (t-2):=by
     have:=he (t-2) (by omega)
     rwa [show t-2+1=t-1 by omega]at this
    rw[e2]at b4
    have q2:=We hg hr (t-2)
    have tl2:=(vc q2 (by omega)).2
    have ge:gY g rt (t-1)=gY g rt (t-2+1):=by rw[show t-2+1=t-1 by omega]
    have EY:∀st,A.C.call (.func 15 [] []) [.str (av (gY g rt (t-1)))] st=some (.str (av (dL (gY g rt (t-1)))),st):=fun st=>XI (by omega)
    have OF:∀st,A.C.call (.func 15 [] []) [.str (av (gY g rt (t-2)))] st=some (.str (av (dL (gY g rt (t-2)))),st):=fun st=>XI (by omega)
    have qa1:Qb 400 (dL (gY g rt (t-1))):=by
     unfold dL
     split
     ·exact q1.neg.mono Mc
     ·exact q1.mono Mc
    have Wf:Qb 400 (dL (gY g rt (t-2))):=by
     unfold dL
     split
     ·exact q2.neg.mono (by omega)
     ·exact q2.mono (by omega)
    have tl3:=(vc Wf (by decide)).2
    have Nn:t-1<c:=by omega
    have hm3:((t-1:Nat):Int)<(c:Int):=by omega
    have hm4:(0:Int)<=((t-1:Nat):Int):=by omega
    cases s with
    |true=>
     have hle:=Yns (g:=g) (k:=t-2) (hs.1 rfl)
     rw[<-ge]at hle
     have FO:¬0<cY (dL (gY g rt (t-1))-dL (gY g rt (t-2))).num:=by rw[Ymv];exact Rat.not_lt.2 hle
     simp(disch:=first|(simp;done)|omega|rfl) [-getElem?_pos,iA,hf,wX,r6,r9,kK,Py,rQ,k_,Nn,hm3,hm4,aO,dB,le,b1,b2,b3,b4,d1,d2,d3,d4,EY,OF,aW]
     refine au (QA qa1 Wf (by decide) (by decide) (by omega)) ?_
     rintro _ h3 n3 k3 rfl
     simp(disch:=first|(simp;done)|omega|rfl) [-getElem?_pos,iA,hf,FO,kK,wX,aW]
     exact⟨m,by omega,nK,K2.trans k3,t+1,by omega,by omega,by simp,by simp⟩
    |false=>
     have hn:¬dL rt<1:=fun h=>by cases hs.2 h
     have ky:=Ynt (g:=g) (k:=t-2) hn
     rw[<-ge]at ky
     have FO:¬cY (dL (gY g rt (t-1))-dL (gY g rt (t-2))).num<0:=by rw[Yjc];exact Rat.not_lt.2 ky
     simp(disch:=first|(simp;done)|omega|rfl) [-getElem?_pos,iA,hf,wX,r6,r9,kK,Py,rQ,k_,Nn,hm3,hm4,aO,dB,le,b1,b2,b3,b4,d1,d2,d3,d4,EY,OF,aW]
     refine au (QA qa1 Wf (by decide) (by decide) (by omega)) ?_
     rintro _ h3 n3 k3 rfl
     simp(disch:=first|(simp;done)|omega|rfl) [-getElem?_pos,iA,hf,FO,kK,wX,aW]
     exact⟨m,by omega,nK,K2.trans k3,t+1,by omega,by omega,by simp,by simp⟩
 ·rintro _ r' ⟨H1,n1,W1⟩ iA ⟨rfl,nK,hK⟩
  simp only at nK hK
  have F5:=hK.le
  have hA:=fun w=>Px (w:=w) (hP.ae hK)
  simp(disch:=first|(simp;done)|omega|rfl) [-getElem?_pos,iA,hA]
  exact⟨rfl,_,rfl,by simp,nK,hK⟩
def Yp9{H:T O}{M n c C X dn:Nat}{W:List Nat}{r:T V}{v7 v9:V}{ls es:List Rat}{qg ql:Rat}{s:Bool}{xs:List V}{e1 e2:TypeId}{b1 b2:Bool}(tl:Tx H n v7 ls)(te:Tx H n v9 es)(ll:ls.length=c)(hl:es.length=c)(hc:2<=c)(wi:c<=10)(hL:∀k,k+1<c->k+1<=dn->pg ls (k+1)=0)(he:∀k,k+1<c->pg es (k+1)=gY qg (ql-qg) k)(hg:Qb 14 qg)(Md:Qb 14 ql)(hs:s=true↔dL (ql-qg)<1)(hW:aB M W=[])(hMn:M<=n)(hP:jB H n)(hC:H.get C=some (.cells [.str (av qg),.str (av ql),.str (av 0),.int .i64 0] e1 b1))(hCn:C<n)(hX:H.get X=some (.cells xs e2 b2))(hXn:X<n)(hx3:xs[3]?=some (.int .i64 (dn:Nat)))(uD:dn<=6)(r2:r.get 2=some (.ptr C 0))(r5:r.get 5=some (.ptr X 0))(r6:r.get 6=some (.int .i64 c))(r7:r.get 7=some v7)(r9:r.get 9=some v9)(kK:r.get 13=some (.bool s)):
  Code A.C none A.yJ ⟨r,187,[]⟩ ⟨H,n,W⟩ (fun e fr st=>Mb M e fr st H n):=by
 rw[cm]
 have lt:=tl.len
 rw[ll]at lt
 have t0:av 0=[48]:=by decide+kernel
 simp(disch:=first|(simp;done)|omega|rfl) [-getElem?_pos,A.yJ]
 refine cX [(4,4),(15,15),(99,114)] (fun e r' st=>e=.exit 0/\aB M st.w=[]/\ad H n st.h st.n) (fun m r' st=>aB M st.w=[]/\ad H n st.h st.n/\∃t:Nat,1<=t/\t+m=c/\r'.get 15=some (.int .i64 (t:Nat))) (c-1) ?_ ?_ ?_
 ·exact⟨hW,ad.refl,1,by omega,by omega,by simp⟩
 ·rintro m r' ⟨H1,n1,W1⟩ iA hf ⟨nK,hK,t,HM,ht,ue⟩
  simp only at nK hK
  rw[cm]
  have F5:=hK.le
  have gX:=(hK.get X hXn).trans hX
  have lX:X<n1:=by omega
  cases m with
  |zero=>
   obtain rfl:t=c:=by omega
   simp(disch:=first|(simp;done)|omega|rfl) [-getElem?_pos,A.uY,iA,hf,ue,r6,nK,hK]
  |succ m=>
   have aO:t<c:=by omega
   have dB:(t:Int)<(c:Int):=by omega
   by_cases cd:t<=dn
   ·have Wg:(t:Int)<=(dn:Int):=by omega
    obtain⟨i1,o1,c1,y1,w1,a1,a2,a3,a4⟩:=(tl.ae hK).at (C6 (gH (p:=ls) (i:=t) (by omega)))
    have e0:pg ls t=0:=by
     have:=hL (t-1) (by omega) (by omega)
     rwa [show t-1+1=t by omega]at this
    rw[e0,t0]at a4
    simp(disch:=first|(simp;done)|omega|rfl) [-getElem?_pos,A.uY,iA,hf,ue,r5,r6,r7,gX,lX,hx3,lt,aO,dB,Wg,a1,a2,a3,a4,aW]
    exact⟨m,by omega,nK,hK,t+1,by omega,by omega,by simp⟩
   ·have Wg:¬(t:Int)<=(dn:Int):=by omega
    simp(disch:=first|(simp;done)|omega|rfl) [-getElem?_pos,A.uY,iA,hf,ue,r5,r6,r7,gX,lX,hx3,lt,aO,dB,Wg,nK,hK,aW]
 ·rintro _ r' ⟨H1,n1,W1⟩ iA ⟨rfl,nK,hK⟩
  simp only at nK hK
  have F5:=hK.le
  have gC:=(hK.get C hCn).trans hC
  have lC:C<n1:=by omega
  have bq:Qb 30 (ql-qg):=(Md.sub hg).mono (by decide)
  have tb:=NT bq
  have tg:=NT hg
  simp(disch:=first|(simp;done)|omega|rfl) [-getElem?_pos,iA,r2,gC,lC]
  refine au (Yj7 Md hg (hP.ae hK)) ?_
  rintro _ h2 n2 k2 rfl
  have nk:=k2.le
  have K2:=hK.trans k2
  have LP:=(k2.get C lC).trans gC
  have lC2:C<n2:=by omega
  have hN:∀st,A.C.call (.func 12 [] []) [.str (av qg)] st=some (.str (av (-qg)),st):=fun st=>WS (by omega)
  simp(disch:=first|(simp;done)|omega|rfl) [-getElem?_pos,iA,r2,aW]
  refine au (Xb (s:=av (ql-qg)) (by omega)) ?_
  rintro _ h3 n3 k3 rfl
  have vY:=k3.le
  have K3:=K2.trans k3
  have gC3:=(k3.get C lC2).trans LP
  have lC3:C<n3:=by omega
  have ec:aN (av (ql-qg))=0:=by rw[Ia,(vc bq (by decide)).1];rfl
  rw[ec]
  simp(disch:=first|(simp;done)|omega|rfl) [-getElem?_pos,iA,r2,gC3,lC3,hN,aW]
  refine nP (Yqa (M:=M) (te.ae K3) hl hc wi he hg bq hs nK (by omega) (hP.ae K3) (by simp[iA,r6]) (by simp[iA,r9]) (by simp[iA,kK]) (by simp) (by simp)) ?_
  intro e fr st hq
  simp(disch:=first|(simp;done)|omega|rfl) [-getElem?_pos,]
  exact hq.trans K3
def Zvb{g l p:Rat}{D:Nat}{d:List Rat}:(eC g l p D d).length=d.length/\(C8 g l p D d).length=d.length:=@BF g l p D d d.length
def Yhr{g l p:Rat}{D:Nat}{d:List Rat}{j:Nat}(h:j<d.length):pg (eC g l p D d) j=qx g l p D d j/\pg (C8 g l p D d) j=BG g l p D d j:=QI h
def Zy3{g l p:aU}{D:Int}{n dd:Nat}{h:T O}{N:Nat}(hg:g.length<9223372036854775808)(hl:l.length<9223372036854775808)(hp:p.length<9223372036854775808)(hc:¬(g.length<=40/\l.length<=40/\p.length<=40)):Fn A.C 4 [.agg [.str g,.str l,.str p,.int .i64 D],.int .i64 (dd:Nat),.int .i64 (n:Nat)] h N (fun u _ _=>u=.bool false):=by
 intro w
 have kB:ad h N (h.set N (.cells [.str g,.str l,.str p,.int .i64 D] 25 true)) (N+1):=ad.refl.new _
 have b0:(h.set N (.cells [.str g,.str l,.str p,.int .i64 D] 25 true)).get N=some (.cells [.str g,.str l,.str p,.int .i64 D] 25 true):=by simp
 rw[aQ,A.k4 (by simp)]
 simp(disch:=first|(simp;done)|omega|rfl) [-getElem?_pos,A.b4,aL,aM]
 generalize h.set N (.cells [.str g,.str l,.str p,.int .i64 D] 25 true)=HB at*
 refine au (WZ hg hl hp) ?_
 rintro _ h1 n1 k1 rfl
 rw[decide_eq_false hc]
 simp(disch:=first|(simp;done)|omega|rfl) [-getElem?_pos,aA]
 exact kB.trans k1
def Ycm{h:T O}{N c dn:Nat}{qg ql:Rat}(hP:jB h N)(bg:Qb 14 qg)(bl:Qb 14 ql)(x0:0<=qg)(l0:0<=ql)(l1:ql<=1)(hd:dn<=6)(hc:c<=10):Fn A.C 6 [.agg [.str (av qg),.str (av ql),.str (av 0),.int .i64 dn],.int .i64 c] h N (fun x h' n'=>∃v,x=.aY [v,.int .i64 0]/\MP h' n' v (eC qg ql 0 dn (eH c))):=by
 have b0:Qb 14 0:=(Qb.int (z:=0) (k:=1) (by decide) (by decide)).mono (by decide)
 have ck:=Xn (dn:=dn) bg bl b0 (by decide) x0 l0 l1 (Rat.le_refl) hd
 have f:=Yjy (h:=h) (N:=N) (g:=av qg) (l:=av ql) (p:=av 0) (D:=dn) (z:=c) hP (F6 (bg.mono (by decide))) (F6 (bl.mono (by decide))) (F6 (b0.mono (by decide))) (fun _=>by
  rw[v_,v_,v_];exact⟨bg.mono (by decide),bl.mono (by decide),b0.mono (by decide)⟩) (fun _ _=>by omega)
 rw[ck,v_,v_,v_,Int.toNat_natCast,Int.toNat_natCast,aq (by omega)]at f
 have E0:cN [0,0]=0:=by decide
 rw[E0]at f
 refine Fn.imp f fun x h' n' hx=>?_
 have bE:∀y∈eC qg ql 0 dn (eH c),Qb 1000 y:=fun y hy=>((MH (D:=dn) bg bl b0 MG (k:=(eH c).length) (aR _)).2 y hy).mono (by rw[xe];omega)
 rcases hx with⟨h0,_⟩|⟨_,⟨hb,_⟩|⟨_,v,hv,h1⟩⟩
 ·exact absurd rfl h0
 ·rw[Yo7 bE (by decide)]at hb;cases hb
 ·exact⟨v,hv,h1⟩
def Yc4{h:T O}{N b:Nat}{g l p:aU}{D:Int}(hP:jB h N)(hg:g.length<9223372036854775808)(hl:l.length<9223372036854775808)(hp:p.length<9223372036854775808)(hb:b<=255):Fn A.C 3 [.agg [.str g,.str l,.str p,.int .i64 D],.int .u8 b] h N (fun x _ _=>x=.bool true):=by
 intro w
 rw[aQ,A.k3 (by simp)]
 have kB:ad h N (((h.set N (.cells [.str g,.str l,.str p,.int .i64 D] 24 true)).set (N+1) (.cells [.str [],.str [],.str [],.int .i64 0] 25 true)).set (N+1) (.cells [.str g,.str l,.str p,.int .i64 D] 25 true)) (N+2):=((ad.refl.new _).new _).set (by omega)
 have hA:=fun w=>Px (w:=w) (hP.ae kB)
 have b0:(((h.set N (.cells [.str g,.str l,.str p,.int .i64 D] 24 true)).set (N+1) (.cells [.str [],.str [],.str [],.int .i64 0] 25 true)).set (N+1) (.cells [.str g,.str l,.str p,.int .i64 D] 25 true)).get N=some (.cells [.str g,.str l,.str p,.int .i64 D] 24 true):=by simp
 have b1:(((h.set N (.cells [.str g,.str l,.str p,.int .i64 D] 24 true)).set (N+1) (.cells [.str [],.str [],.str [],.int .i64 0] 25 true)).set (N+1) (.cells [.str g,.str l,.str p,.int .i64 D] 25 true)).get (N+1)=some (.cells [.str g,.str l,.str p,.int .i64 D] 25 true):=by simp
 simp(disch:=first|(simp;done)|omega|rfl) [-getElem?_pos,A.b3,aL,aM,ag,bS]
 generalize ((h.set N (.cells [.str g,.str l,.str p,.int .i64 D] 24 true)).set (N+1) (.cells [.str [],.str [],.str [],.int .i64 0] 25 true)).set (N+1) (.cells [.str g,.str l,.str p,.int .i64 D] 25 true)=hB at*
 try simp(disch:=first|(simp;done)|omega|rfl) [-getElem?_pos,hA,b0,b1,aL,aM]
 by_cases cS:g.length<=40/\l.length<=40/\p.length<=40
 ·have fl:=Zy2 (h:=hB) (N:=N+2) (D:=D) (dd:=4) (n:=6) cS.1 cS.2.1 cS.2.2 (by decide) (by decide)
  refine au fl ?_
  rintro _ h1 n1 k1 rfl
  have tU:=k1.le
  have K1:=kB.trans k1
  have Pz:=fun w=>Px (w:=w) (hP.ae K1)
  by_cases cc:(decide (kj g l p D=0)&&(yY [g,l,p] 3 4&&decide (D<=((6:Nat):Int))))=true
  ·rw[cc]
   simp only[iS,decide_eq_true_eq]at cc
   obtain⟨c0,cf,_⟩:=cc
   have fC:=(k1.get N (by omega)).trans b0
   have fX:=(k1.get (N+1) (by omega)).trans b1
   obtain⟨cg,cl,cp,dn,hD,dl,g0,l0,l1,p0⟩:=Xd c0
   simp only[yY,List.all_cons,List.all_nil,Bool.and_true,iS]at cf
   obtain⟨_,f1,f2,f3⟩:=cf
   have bg:=(Xl f1).2.2
   have bl:=(Xl f2).2.2
   have eg:=(q8 cg).1
   have el:=(q8 cl).1
   generalize bu g=qg at*
   generalize bu l=ql at*
   subst hD
   clear c0 f1 f2 f3 fl hA Pz cg cl cp p0
   subst eg
   subst el
   have Wh:=Rat.not_lt.1 g0
   have Wj:=Rat.not_lt.1 l0
   have Wk:=Rat.not_lt.1 l1
   have hc:∃c:Nat,c=2+b%9:=⟨_,rfl⟩
   obtain⟨c,hc⟩:=hc
   have ws:bb .i64 (b:Int)=(b:Int):=cb (by omega) (by omega)
   have ms:(b:Int).tmod 9=((b%9:Nat):Int):=by rw[z_ (by omega)];omega
   have ws4:bb .i64 ((b%9:Nat):Int)=((b%9:Nat):Int):=cb (by omega) (by omega)
   have wc:(2:Int)+((b%9:Nat):Int)=(c:Int):=by omega
   have wc2:(2:Int)+(b:Int)%9=(c:Int):=by omega
   have wc4:bb .i64 (c:Int)=(c:Int):=cb (by omega) (by omega)
   have t0:av 0=[48]:=by decide+kernel
   have t1:av 1=[49]:=QC
   have lN:N<n1:=by omega
   have kD:ad h1 n1 h1 n1:=ad.refl
   have Wl:ad h N (h1.set N (.cells [.str (av qg),.str (av ql),.str (av 0),.int .i64 dn] 24 true)) n1:=K1.set (aR _)
   have gA:(h1.set N (.cells [.str (av qg),.str (av ql),.str (av 0),.int .i64 dn] 24 true)).get N=some (.cells [.str (av qg),.str (av ql),.str (av 0),.int .i64 dn] 24 true):=by simp
   have gAX:(h1.set N (.cells [.str (av qg),.str (av ql),.str (av 0),.int .i64 dn] 24 true)).get (N+1)=some (.cells [.str (av qg),.str (av ql),.str p,.int .i64 dn] 25 true):=by
    rw[T.ai,aq (by omega)];exact fX
   rw[t0]at Wl gA gAX
   simp(disch:=first|(simp;done)|omega|rfl) [-getElem?_pos,ws,ms,ws4,wc,wc2,wc4,fC,lN,ag,bS,aL,aM]
   generalize hh2:h1.set N (.cells [.str (av qg),.str (av ql),.str [48],.int .i64 dn] 24 true)=H2 at*
   have i1:=Ycm (h:=H2) (N:=n1) (c:=c) (dn:=dn) (hP.ae Wl) bg bl Wh Wj Wk dl (by omega)
   rw[t0]at i1
   try simp(disch:=first|(simp;done)|omega|rfl) [-getElem?_pos,gA,lN,aL,aM]
   refine au i1 ?_
   rintro _ h3 n3 k3 ⟨v7,rfl,tl⟩
   have vY:=k3.le
   have Wm:N<n3:=by omega
   have K3:=Wl.trans k3
   have gA3:=(k3.get N lN).trans gA
   have gX3:=(k3.get (N+1) (by omega)).trans gAX
   have Wo:ad h N (h3.set N (.cells [.str (av qg),.str (av ql),.str (av 0),.int .i64 0] 24 true)) n3:=K3.set (aR _)
   have gB:(h3.set N (.cells [.str (av qg),.str (av ql),.str (av 0),.int .i64 0] 24 true)).get N=some (.cells [.str (av qg),.str (av ql),.str (av 0),.int .i64 0] 24 true):=by simp
   have gBX:(h3.set N (.cells [.str (av qg),.str (av ql),.str (av 0),.int .i64 0] 24 true)).get (N+1)=some (.cells [.str (av qg),.str (av ql),.str p,.int .i64 dn] 25 true):=by
    rw[T.ai,aq (by omega)];exact gX3
   rw[t0]at Wo gB gBX
   have gl3:Tx (h3.set N (.cells [.str (av qg),.str (av ql),.str [48],.int .i64 0] 24 true)) n3 v7 (eC qg ql 0 dn (eH c)):=by
    refine Sl.dh tl.1 (D:=fun i=>i=N) (np.refl.set (.inl rfl)) fun i hi hc=>?_
    subst hc
    obtain⟨z,w',hz⟩:=tl.2 _ hi
    rw[gA3]at hz
    simp at hz
   simp(disch:=first|(simp;done)|omega|rfl) [-getElem?_pos,gA3,Wm,ag,bS,aL,aM]
   generalize hh4:h3.set N (.cells [.str (av qg),.str (av ql),.str [48],.int .i64 0] 24 true)=H4 at*
   have i2:=Ycm (h:=H4) (N:=n3) (c:=c) (dn:=0) (hP.ae Wo) bg bl Wh Wj Wk (by omega) (by omega)
   rw[t0]at i2
   try simp(disch:=first|(simp;done)|omega|rfl) [-getElem?_pos,gB,Wm,aL,aM]
   refine au i2 ?_
   rintro _ h5 n5 k5 ⟨v9,rfl,te⟩
   have le5:=k5.le
   have lN5:N<n5:=by omega
   have K5:=Wo.trans k5
   have gB5:=(k5.get N Wm).trans gB
   have gX5:=(k5.get (N+1) (by omega)).trans gBX
   have b0q:Qb 14 0:=(Qb.int (z:=0) (k:=1) (by decide) (by decide)).mono (by decide)
   have i3:=Zzi (h:=h5) (N:=n5) (dn:=0) (x:=qg) (ql:=ql) (qp:=0) (hP.ae K5) (bg.mono (by decide)) (bl.mono (by decide)) (b0q.mono (by decide)) Wh Wj Wk Rat.le_refl (by omega)
   rw[t0]at i3
   simp(disch:=first|(simp;done)|omega|rfl) [-getElem?_pos,gB5,lN5,aL,aM]
   refine au i3 ?_
   rintro _ h6 n6 k6 ⟨y,rfl,sy⟩
   have le6:=k6.le
   have K6:=K5.trans k6
   simp(disch:=first|(simp;done)|omega|rfl) [-getElem?_pos,]
   refine au (Yex sy (bg.mono (by decide)) (bl.mono (by decide)) (b0q.mono (by decide)) (by omega)) ?_
   rintro _ h7 n7 k7 rfl
   have Xu:=k7.le
   have K7:=K6.trans k7
   have gB7:=((k6.trans k7).get N lN5).trans gB5
   have gX7:=((k6.trans k7).get (N+1) (by omega)).trans gX5
   have k57:=k6.trans k7
   have Wp:=(gl3.ae k5).ae k57
   have Wq:=te.1.ae k57
   have ll:(eC qg ql 0 dn (eH c)).length=c:=by rw[Zvb.1,xe]
   have lle:(eC qg ql 0 0 (eH c)).length=c:=by rw[Zvb.1,xe]
   have bE:∀d,∀y∈eC qg ql 0 d (eH c),Qb 1000 y:=fun d y hy=>((MH (D:=d) bg bl b0q MG (k:=(eH c).length) (aR _)).2 y hy).mono (by rw[xe];omega)
   have vl:∀k,k<c->pg (eC qg ql 0 dn (eH c)) k=qx qg ql 0 dn (eH c) k:=fun k hk=>(Yhr (by rw[xe];exact hk)).1
   have ve:∀k,k<c->pg (eC qg ql 0 0 (eH c)) k=qx qg ql 0 0 (eH c) k:=fun k hk=>(Yhr (by rw[xe];exact hk)).1
   have l0z:pg (eC qg ql 0 dn (eH c)) 0=1:=by rw[vl 0 (by omega)];exact Ymz (by omega)
   have e0z:pg (eC qg ql 0 0 (eH c)) 0=1:=by rw[ve 0 (by omega)];exact Ymz (by omega)
   have hL:∀k,k+1<c->k+1<=dn->pg (eC qg ql 0 dn (eH c)) (k+1)=0:=fun k h1 h2=>by rw[vl _ h1];exact Yp1 h2
   have hE:∀k,k+1<c->pg (eC qg ql 0 0 (eH c)) (k+1)=gY qg (ql-qg) k:=fun k h1=>by rw[ve _ h1];exact Yqr (by omega) k
   have bl1:=bE dn
   have be1:=bE 0
   clear vl ve
   generalize eC qg ql 0 dn (eH c)=ls at*
   generalize eC qg ql 0 0 (eH c)=es at*
   have lt:=Wp.len
   rw[ll]at lt
   have FQ:=Wq.len
   rw[lle]at FQ
   simp(disch:=first|(simp;done)|omega|rfl) [-getElem?_pos,lt,FQ,aW]
   refine au (Yn6 Wq (by omega) be1 (by decide)) ?_
   rintro _ h8 n8 k8 rfl
   simp(disch:=first|(simp;done)|omega|rfl) [-getElem?_pos,]
   refine au (Yn6 (Wp.ae k8) (by omega) bl1 (by decide)) ?_
   rintro _ h9 n9 k9 rfl
   have k89:=k8.trans k9
   have K9:=K7.trans k89
   have le9:=k89.le
   have tl9:=Wp.ae k89
   have te9:=Wq.ae k89
   obtain⟨i1,o1,c1,y1,w1,a1,a2,a3,a4⟩:=tl9.at (C6 (gH (p:=ls) (i:=0) (by omega)))
   obtain⟨i2,o2,c2,y2,w2,d1,d2,d3,d4⟩:=te9.at (C6 (gH (p:=es) (i:=0) (by omega)))
   rw[l0z,t1]at a4
   rw[e0z,t1]at d4
   try simp only[ri]at a4
   try simp only[ri]at d4
   simp(disch:=first|(simp;done)|omega|rfl) [-getElem?_pos,lt,FQ,a1,a2,a3,a4,d1,d2,d3,d4,aW]
   have gB9:=(k89.get N (by omega)).trans gB7
   have gX9:=(k89.get (N+1) (by omega)).trans gX7
   rw[<-t0]at gB9
   refine nP (Yp9 (M:=N) (C:=N) (X:=N+1) (s:=MJ qg ql 0 0) tl9 te9 ll lle (by omega) (by omega) hL hE bg bl Yi7 (by simp) (by omega) (hP.ae K9) gB9 (by omega) gX9 (by omega) rfl dl (by simp) (by simp) (by simp) (by simp) (by simp) (by simp)) ?_
   rintro _ _ ⟨H,nn,WW⟩ ⟨rfl,r6',rfl,h6',hw,hk⟩
   simp only at hw hk
   simp(disch:=first|(simp;done)|omega|rfl) [-getElem?_pos,h6',hw,aA]
   exact K9.trans hk
  ·have cc':(decide (kj g l p D=0)&&(yY [g,l,p] 3 4&&decide (D<=((6:Nat):Int))))=false:=by simpa using cc
   rw[cc']
   simp(disch:=first|(simp;done)|omega|rfl) [-getElem?_pos,Pz,aA]
   exact K1
 ·have fl:=Zy3 (h:=hB) (N:=N+2) (D:=D) (dd:=4) (n:=6) hg hl hp cS
  refine au fl ?_
  rintro _ h1 n1 k1 rfl
  have K1:=kB.trans k1
  have Pz:=fun w=>Px (w:=w) (hP.ae K1)
  simp(disch:=first|(simp;done)|omega|rfl) [-getElem?_pos,Pz,aA]
  exact K1
end Go.Mx
