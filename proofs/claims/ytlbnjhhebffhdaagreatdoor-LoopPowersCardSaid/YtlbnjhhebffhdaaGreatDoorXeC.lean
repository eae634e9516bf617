/-lensletlaw06-/
import Derived.Test.YtlbnjhhebffhdaaGreatDoorXdE
set_option linter.all false
set_option maxHeartbeats 8000000
namespace Go.Mx
open Go Go.Proofs
variable {H:T O} {M:Nat}
set_option maxRecDepth 1000000
def A.zir:cC:=.seq (.eY [mv 169 0,c1 170 12 169,fa 171 1 19,ld 172 171,c2 173 43 170 172,mv 168 173,xt 174 168 0,xt 175 168 1,mv 21 174,mv 22 175] [0,1,0,4,15,31,63,63,127,511])
 (.seq (sr [mv 176 22,ni 177 176 0]
 (cd 177
 (sr [ge 6 (.kv (.const (.bool false)))]
 (.ret))
 (.skip)))
 (sr [mv 179 21,c1 180 11 179,mv 178 180,xt 181 178 0,xt 182 178 1,mv 23 181,mv 24 182]
 (sr [mv 183 24,ei 184 183 0,mv 185 184,mg 186 23 185,pf 187 185 186,mv 6 187]
 (.ret))))
def A.zis:cC:=.seq (sr [mv 134 17,mv 135 13,mv 136 15,c2 137 29 135 136,c2 138 35 134 137,bc 139 .gtr 138 0,mv 140 139,mh 141 17 140,gz 142 140 (.call (fq 35) [tq 141,(.const (.str [49]))]),gz 143 140 (.bin .lss (.node []) false (tq 142) (kq 0)),mh 144 143 140,mg 145 9 144,gy 146 144 (.un .not (tq 145)),gz 147 140 (.pick (tq 144) (tq 146) (.const (.bool false))),pt 148 140 147,mv 149 148,mh 150 9 149,mh 151 150 149,gy 152 151 (.ky 0 (tq 19)),gy 153 151 (.load none (tq 152)),gy 154 151 (.call (fq 35) [tq 153,(.const (.str [49]))]),gy 155 151 (.bin .geq (.node []) false (tq 154) (kq 0)),gz 156 149 (.pick (tq 151) (tq 155) (.const (.bool false))),pt 157 149 156,mv 158 157,mh 159 9 158,gz 160 158 (.un .not (tq 159)),mh 161 160 158,gy 162 161 (.ky 1 (tq 19)),gy 163 161 (.load none (tq 162)),gy 164 161 (.call (fq 35) [tq 163,(.const (.str [49]))]),gy 165 161 (.bin .lss (.node []) false (tq 164) (kq 0)),gz 166 158 (.pick (tq 161) (tq 165) (.const (.bool false))),pt 167 158 166]
 (cd 167
 (sr [ge 6 (.kv (.const (.bool false)))]
 (.ret))
 (.skip)))
 A.zir
def A.zit:cC:=.seq (sr [mv 95 10,ni 96 95 0,mv 97 96,mh 98 12 97,gz 99 97 (.bin .neq (.zgf .int) true (tq 98) (kq 0)),pt 100 97 99,mv 101 100,mh 102 14 101,gz 103 101 (.bin .neq (.zgf .int) true (tq 102) (kq 0)),pt 104 101 103,mv 105 104,mh 106 16 105,gz 107 105 (.bin .neq (.zgf .int) true (tq 106) (kq 0)),pt 108 105 107,mv 109 108,mh 110 18 109,gz 111 109 (.bin .neq (.zgf .int) true (tq 110) (kq 0)),pt 112 109 111,mv 113 112,mh 114 20 113,gz 115 113 (.bin .neq (.zgf .int) true (tq 114) (kq 0)),pt 116 113 115,mv 117 116,mh 118 11 117,gz 119 117 (.bin .neq (.zgf .str) true (tq 118) (.const (.str [49]))),pt 120 117 119,mv 121 120,mh 122 13 121,mh 123 15 121,mh 124 17 121,gz 125 121 (.kb 30 1 3 [(.str []),(.str []),(.str [])] [(0,1,(tq 122)),(1,1,(tq 123)),(2,1,(tq 124))]),gz 126 121 (.call (fq 41) [tq 125]),gz 127 121 (.bin .neq (.zgf .int) true (tq 126) (kq 0)),pt 128 121 127,mv 129 128,gz 130 129 (.load (some 2) (tq 19)),gz 131 129 (.call (fq 42) [tq 130]),gz 132 129 (.bin .neq (.zgf .int) true (tq 131) (kq 0)),pt 133 129 132]
 (cd 133
 (sr [ge 6 (.kv (.const (.bool false)))]
 (.ret))
 (.skip)))
 A.zis
def A.ziu:cC:=sr [mv 90 0,c1 91 12 90,ge 92 (.call (fq 13) [tq 91,.const (.int .i64 1)]),mv 89 92,xt 93 89 0,xt 94 89 1,ge 19 (.alloc [(.str []),(.str [])] 32),gn (.store 2 (tq 19) (tq 93)),mv 20 94]
 A.zit
def A.ziv:cC:=sr [mv 61 0,c1 62 12 61,ge 63 (.call (fq 14) [tq 62,.const (.int .i64 0)]),mv 60 63,xt 64 60 0,xt 65 60 1,mv 11 64,mv 12 65]
 (sr [mv 67 0,c1 68 12 67,mv 69 7,c2 70 14 68 69,mv 66 70,xt 71 66 0,xt 72 66 1,mv 13 71,mv 14 72]
 (sr [mv 74 0,c1 75 12 74,mv 76 8,c2 77 14 75 76,mv 73 77,xt 78 73 0,xt 79 73 1,mv 15 78,mv 16 79]
 (sr [mv 81 0,c1 82 12 81,mv 83 7,mv 84 8,bi 85 .add 83 84,c2 86 14 82 85,mv 80 86,xt 87 80 0,xt 88 80 1,mv 17 87,mv 18 88]
 A.ziu)))
def A.b5:cC:=sr [ge 6 (.kv (.const (.bool false)))]
 (.seq (sr [ge 25 (.call (fq 7) []),ge 26 (.un .not (tq 25)),mv 27 26,mh 28 0 27,gz 29 27 (.len 1 (tq 28)),gz 30 27 (.bin .lss (.node []) false (tq 29) (kq 2)),pt 31 27 30,mv 32 31,mh 33 0 32,gz 34 32 (.len 1 (tq 33)),gz 35 32 (.bin .gtr (.node []) false (tq 34) (kq 5)),pt 36 32 35,mv 37 36,mh 38 0 37,gz 39 37 (.call (fq 9) [tq 38]),gz 40 37 (.bin .neq (.zgf .int) true (tq 39) (kq 0)),pt 41 37 40,mv 42 41,mh 43 0 42,gz 44 42 (.call (fq 10) [tq 43,.const (.int .i64 5),.const (.int .i64 4)]),gz 45 42 (.un .not (tq 44)),pt 46 42 45]
 (cd 46
 (sr [ge 47 (.call (fq 7) []),mv 6 47]
 (.ret))
 (.skip)))
 (sr [mv 48 1,ge 49 (.zig .i64 (tq 48)),bc 50 .rem 49 4,mv 51 2,ge 52 (.zig .i64 (tq 51)),bc 53 .rem 52 4,mv 7 50,mv 8 53]
 (sr [mv 55 0,c1 56 12 55,c1 57 11 56,mv 54 57,xt 58 54 0,xt 59 54 1,mv 9 58,mv 10 59]
 A.ziv)))
def A.c5:A.F 5=some ⟨188,[.tmp 6],A.b5⟩:=by kernel_rfl
def A.k5:=@A.kk 5 _ _ _ A.c5 rfl
def Xe7(M:Nat)(e:Ex)(fr:Fr)(st:St)(H:T O)(n:Nat):Prop:=e=.ret/\∃r,fr=⟨r,188,[]⟩/\r.get 6=some (.bool true)/\aL M st.w=[]/\ah H n st.h st.n
def Xe7.trans{H2:T O}{n n2:Nat}{e:Ex}{fr:Fr}{st:St}(s:Xe7 M e fr st H2 n2)(k:ah H n H2 n2):Xe7 M e fr st H n:=by
 obtain⟨h1,r,h2,h3,h4,h5⟩:=s
 exact⟨h1,r,h2,h3,h4,k.trans h5⟩
def Xfb{N C:Nat}{W:List Nat}{r:T V}{u:V}{a:List bj}(L:PwH a)(hu:Sl H N u (strs a))(hP:j_ H N)(hC:H.get C=some (.cells [.str (Zao (Xcb a 1)),.str (Zao (Xcc a 1))] 32 true))(hCN:C<N)(hW:aL M W=[])(hMN:M<=N)(r0:r.get 0=some u)(r19:r.get 19=some (.ptr C 0)):
  Code A.C none A.zir ⟨r,188,[]⟩ ⟨H,N,W⟩ (fun e fr st=>Xe7 M e fr st H N):=by
 rw[cn]
 have la:=L.len
 simp(disch:=first|(simp;done)|omega|rfl) [-getElem?_pos,A.zir,r0]
 refine av (Xaj hu (by omega)) ?_
 rintro v1 h1 n1 k1 s1
 have xF:=k1.le
 have g1:=(k1.get C hCN).trans hC
 have i1:C<n1:=by omega
 simp(disch:=first|(simp;done)|omega|rfl) [-getElem?_pos,r19,g1,i1,aI,aK]
 refine av (Xfg L s1 (hP.ai k1)) ?_
 rintro _ h2 n2 k2 ⟨v2,rfl,t2⟩
 simp(disch:=first|(simp;done)|omega|rfl) [-getElem?_pos,a_]
 refine av (Xfi L t2) ?_
 rintro _ h3 n3 k3 rfl
 simp(disch:=first|(simp;done)|omega|rfl) [-getElem?_pos,a_]
 exact⟨rfl,_,rfl,by simp,by simpa using hW,(k1.trans k2).trans k3⟩
def Xe8{a b:Rat}:0<=sg3 (a-b).num↔b<=a:=by
 have h:=@KV a b
 constructor
 ·intro hs
  apply Rat.not_lt.1
  intro hc
  have:=h.2 hc
  omega
 ·intro hs
  apply Int.not_lt.1
  intro hc
  exact(Rat.not_lt.2 hs) (h.1 hc)
def Xfu{N C i j:Nat}{W:List Nat}{r:T V}{u:V}{a:List bj}(L:PwH a)(hi:i<=3)(hj:j<=3)(hu:Sl H N u (strs a))(hP:j_ H N)(hC:H.get C=some (.cells [.str (Zao (Xcb a 1)),.str (Zao (Xcc a 1))] 32 true))(hCN:C<N)(hW:aL M W=[])(hMN:M<=N)(r0:r.get 0=some u)(r9:r.get 9=some (.bool (mW a.length (ziB a))))(tL:r.get 13=some (.str (Zao (zie (ziB a) i (a.length-1)))))(r15:r.get 15=some (.str (Zao (zie (ziB a) j (a.length-1)))))(r17:r.get 17=some (.str (Zao (zie (ziB a) (i+j) (a.length-1)))))(r19:r.get 19=some (.ptr C 0)):
  Code A.C none A.zis ⟨r,188,[]⟩ ⟨H,N,W⟩ (fun e fr st=>Xe7 M e fr st H N):=by
 rw[cn]
 have la:=L.len
 have l1:=L.l
 have lra:=@Yht a
 have few:=fun m (hm:m<=6)=>Xem (p:=ziB a) (m:=m) (by rw[lra];exact l1) (by rw[lra];exact la) L.z L.q hm
 have sub:=Xfd (p:=ziB a) (n:=a.length-1) (a:=i) (b:=j) (by rw[lra];omega) (by omega) (by omega)
 have sta:zie (ziB a) (i+j) (a.length-1)<1->mW a.length (ziB a)=true:=fun h=>by
  have:=Xe1 (p:=ziB a) (m:=i+j) (by rw[lra];exact l1) (by rw[lra];omega) L.z (by rw[lra];exact h)
  rw[lra]at this
  exact this
 rw[lra]at few
 have qa:=few i (by omega)
 have qb:=few j (by omega)
 have qc:=few (i+j) (by omega)
 obtain⟨s1,s2,_⟩:=L.side
 obtain⟨q1,q2⟩:=L.rq
 have t1:([49]:bj)=Zao 1:=by decide+kernel
 have qo:Qb 1 (1:Rat):=Qb.int (z:=1) (k:=1) (by decide) (by decide)
 have lo1:(Zao 1).length<1000000000:=by decide+kernel
 have zhV:∀{q:Rat} {K:Nat} {h':T O} {n':Nat},Qb K q->K<=1000->Fn A.C 35 [.str (Zao q),.str [49]] h' n' (fun u _ _=>u=.int .i64 (sg3 (q-1).num)):=fun hq hK=>by
  rw[t1]
  exact KX hq qo (by omega) (by decide) lo1
 generalize zie (ziB a) i (a.length-1)=A1 at*
 generalize zie (ziB a) j (a.length-1)=A2 at*
 generalize zie (ziB a) (i+j) (a.length-1)=A3 at*
 have ng:¬0<sg3 (A3-A1*A2).num:=fun h=>by
  have:=Ycb.1 h
  exact(Rat.not_lt.2 sub) this
 have qm:=qa.mul qb
 have lm:=SN qm
 simp(disch:=first|(simp;done)|omega|rfl) [-getElem?_pos,A.zis,tL,r15,r17]
 refine av (SP qa qb (by decide) (by decide)) ?_
 rintro _ h1 n1 k1 rfl
 simp(disch:=first|(simp;done)|omega|rfl) [-getElem?_pos,]
 refine av (KX qc qm (by decide) (by decide) (by omega)) ?_
 rintro _ h2 n2 k2 rfl
 have K2:=k1.trans k2
 simp(disch:=first|(simp;done)|omega|rfl) [-getElem?_pos,ng,r17]
 refine av (zhV qc (by decide)) ?_
 rintro _ h3 n3 k3 rfl
 have K3:=K2.trans k3
 have KU:=K3.le
 have g3:=(K3.get C hCN).trans hC
 have i3:C<n3:=by omega
 by_cases hs:mW a.length (ziB a)=true
 ·rw[hs]at r9
  have ge:¬0<=sg3 (Xcb a 1-1).num:=fun h=>by
   have:=Xe8.1 h
   exact(Rat.not_lt.2 this) (s1 hs)
  by_cases c1:sg3 (A3-1).num<0
  ·simp(disch:=first|(simp;done)|omega|rfl) [-getElem?_pos,c1,r9,r19,g3,i3,aI,aK]
   refine av (zhV q1 (by decide)) ?_
   rintro _ h4 n4 k4 rfl
   have K4:=K3.trans k4
   have le4:=K4.le
   simp(disch:=first|(simp;done)|omega|rfl) [-getElem?_pos,ge,r9]
   refine nc (Xfb (M:=M) (C:=C) L (hu.ai K4) (hP.ai K4) ((K4.get C hCN).trans hC) (by omega) (by simpa using hW) (by omega) (by simp[r0]) (by simp[r19])) ?_
   intro e fr st hq
   simp(disch:=first|(simp;done)|omega|rfl) [-getElem?_pos,]
   exact hq.trans K4
  ·simp(disch:=first|(simp;done)|omega|rfl) [-getElem?_pos,c1,r9,r19,g3,i3,aI,aK]
   refine av (zhV q1 (by decide)) ?_
   rintro _ h4 n4 k4 rfl
   have K4:=K3.trans k4
   have le4:=K4.le
   simp(disch:=first|(simp;done)|omega|rfl) [-getElem?_pos,ge,r9]
   refine nc (Xfb (M:=M) (C:=C) L (hu.ai K4) (hP.ai K4) ((K4.get C hCN).trans hC) (by omega) (by simpa using hW) (by omega) (by simp[r0]) (by simp[r19])) ?_
   intro e fr st hq
   simp(disch:=first|(simp;done)|omega|rfl) [-getElem?_pos,]
   exact hq.trans K4
 ·have gg:mW a.length (ziB a)=false:=by simpa using hs
  rw[gg]at r9
  have c1:¬sg3 (A3-1).num<0:=fun h=>hs (sta (KV.1 h))
  have c2:¬sg3 (Xcc a 1-1).num<0:=fun h=>(Rat.not_lt.2 (s2 gg)) (KV.1 h)
  simp(disch:=first|(simp;done)|omega|rfl) [-getElem?_pos,c1,r9,r19,g3,i3,aI,aK]
  refine av (zhV q2 (by decide)) ?_
  rintro _ h4 n4 k4 rfl
  have K4:=K3.trans k4
  have le4:=K4.le
  simp(disch:=first|(simp;done)|omega|rfl) [-getElem?_pos,c2,r9]
  refine nc (Xfb (M:=M) (C:=C) L (hu.ai K4) (hP.ai K4) ((K4.get C hCN).trans hC) (by omega) (by simpa using hW) (by omega) (by simp[r0]) (by simp[r19])) ?_
  intro e fr st hq
  simp(disch:=first|(simp;done)|omega|rfl) [-getElem?_pos,]
  exact hq.trans K4
variable {H:T O} {M N i j:Nat} {W:List Nat} {a:List bj} {r:T V} {u:V}
def Xe9{h:T O}{v:V}{l:List bj}(hs:Sl h N v (strs l))(hl:l.length<100000)(rA:∀s∈l,s.length<9223372036854775808):Fn A.C 9 [v] h N (fun u _ _=>u=.int .i64 (ks l)):=by
 intro w
 have hlen:=hs.len
 rw[HZ]at hlen
 rw[aZ,A.k9 (by simp)]
 by_cases c0:l.length=0
 ·have c0':(l.length:Int)=0:=by omega
  have e1:ks l=12:=by simp[ks,c0]
  simp(disch:=first|(simp;done)|omega|rfl) [-getElem?_pos,A.b9,hlen,c0',a_,Ret,e1]
  exact ah.refl
 have c0':¬(l.length:Int)=0:=by omega
 have ne:¬l=[]:=fun h=>c0 (by rw[h];rfl)
 by_cases c1:13<l.length
 ·have c1':13<(l.length:Int):=by omega
  have e1:ks l=5:=by simp[ks,c0,c1]
  simp(disch:=first|(simp;done)|omega|rfl) [-getElem?_pos,A.b9,hlen,c0',ne,c1',a_,Ret,e1]
  exact ah.refl
 have c1':¬13<(l.length:Int):=by omega
 simp(disch:=first|(simp;done)|omega|rfl) [-getElem?_pos,A.b9,hlen,c0',ne,c1',a_]
 refine av (Zx7 hs hl fun s h=>by have:=rA s h;omega) ?_
 rintro _ h1 n1 k1 rfl
 rw[show cN (l.map fun s=>((aV s:Nat):Int))=gV l from rfl]
 obtain⟨s,gg⟩:=eQ (l:=l) (k:=l.length-1) (by omega)
 obtain⟨i,o,cc,e,rw,q1,q2,q3,q4⟩:=(hs.ai k1).at (KR gg)
 have d1:((l.length:Int)-1).toNat=l.length-1:=by omega
 have d2:(0:Int)<=(l.length:Int)-1:=by omega
 have d3:(l.length:Int)-1<(l.length:Int):=by omega
 by_cases ca:gV l=0
 ·have e1:ks l=if s=[48] then 6 else 0:=by simp[ks,c0,c1,ca,gg]
  have hq:=(kr (Nh ca s (eI gg))).1
  have ez:s=[48]↔aY s=0:=by
   constructor
   ·intro hc;rw[<-hq,<-xI]at hc;exact Zh8 hc
   ·intro hc;rw[<-hq,hc,xI]
  rw[e1]
  simp only[ez]
  rw[<-hq]at q4
  clear e1 ez hq gg
  generalize aY s=q at*
  by_cases cz:q=0
  ·simp(disch:=first|(simp;done)|omega|rfl) [-getElem?_pos,a_,ca,hlen,q1,q2,q3,q4,d1,d2,d3,cz,Zsw,Ret]
   exact k1
  ·simp(disch:=first|(simp;done)|omega|rfl) [-getElem?_pos,a_,ca,hlen,q1,q2,q3,q4,d1,d2,d3,cz,Zsw,Ret]
   exact k1
 ·have e1:ks l=gV l:=by simp[ks,c0,c1,ca]
  rw[e1]
  simp(disch:=first|(simp;done)|omega|rfl) [-getElem?_pos,a_,ca,Ret]
  exact k1
def Xfe:Zao 1=[49]:=by decide+kernel
def Xft{C:Nat}(L:PwH a)(hi:i<=3)(hj:j<=3)(hu:Sl H N u (strs a))(hP:j_ H N)(hC:H.get C=some (.cells [.str (Zao (Xcb a 1)),.str (Zao (Xcc a 1))] 32 true))(hCN:C<N)(hW:aL M W=[])(hMN:M<=N)(r0:r.get 0=some u)(r9:r.get 9=some (.bool (mW a.length (ziB a))))(oh:r.get 10=some (.int .i64 0))(r11:r.get 11=some (.str [49]))(Qv:r.get 12=some (.int .i64 0))(tL:r.get 13=some (.str (Zao (zie (ziB a) i (a.length-1)))))(ME:r.get 14=some (.int .i64 0))(r15:r.get 15=some (.str (Zao (zie (ziB a) j (a.length-1)))))(r16:r.get 16=some (.int .i64 0))(r17:r.get 17=some (.str (Zao (zie (ziB a) (i+j) (a.length-1)))))(r18:r.get 18=some (.int .i64 0))(r19:r.get 19=some (.ptr C 0))(r20:r.get 20=some (.int .i64 0)):
  Code A.C none A.zit ⟨r,188,[]⟩ ⟨H,N,W⟩ (fun e fr st=>Xe7 M e fr st H N):=by
 rw[cn]
 have la:=L.len
 have l1:=L.l
 have lra:=@Yht a
 have few:=fun m (hm:m<=6)=>Xem (p:=ziB a) (m:=m) (by rw[lra];exact l1) (by rw[lra];exact la) L.z L.q hm
 rw[lra]at few
 have qa:=few i (by omega)
 have qb:=few j (by omega)
 have qc:=few (i+j) (by omega)
 obtain⟨_,_,lh,_⟩:=L.side
 obtain⟨q1,q2⟩:=L.rq
 have t1:=Xeg q1
 have t2:=Xeg q2
 have csp:lS (Zao (Xcb a 1)) (Zao (Xcc a 1))=0:=by
  have ca:gV [Zao (Xcb a 1),Zao (Xcc a 1)]=0:=Ye4 fun y hy=>by
   simp only[Yw1,tV,kV,List.not_mem_nil,or_false]at hy
   rcases hy with rfl|rfl
   ·rw[ND q1 (by decide)];rfl
   ·rw[ND q2 (by decide)];rfl
  rw[lS,aR ca,og,og,aA (Rat.not_lt.2 lh)]
 obtain⟨A1,e1⟩:∃x,zie (ziB a) i (a.length-1)=x:=⟨_,rfl⟩
 obtain⟨A2,e2⟩:∃x,zie (ziB a) j (a.length-1)=x:=⟨_,rfl⟩
 obtain⟨A3,e3⟩:∃x,zie (ziB a) (i+j) (a.length-1)=x:=⟨_,rfl⟩
 have ziw:=tL
 have zix:=r15
 have ziy:=r17
 rw[e1]at ziw qa
 rw[e2]at zix qb
 rw[e3]at ziy qc
 have kC:ah H N (H.set N (.cells [.str (Zao A1),.str (Zao A2),.str (Zao A3)] 30 true)) (N+1):=ah.refl.new _
 have s0:Sl (H.set N (.cells [.str (Zao A1),.str (Zao A2),.str (Zao A3)] 30 true)) (N+1) (.slice N 0 3 (some 3) 1) (strs ([A1,A2,A3].map Zao)):=Sl.row (e:=30) (rw:=true) (cp:=some 3) (by omega) (by simp[strs]) rfl (by simp)
 have cr:=fun (w:List Nat)=>Xfv (h:=H.set N (.cells [.str (Zao A1),.str (Zao A2),.str (Zao A3)] 30 true)) (N:=N+1) (K:=429) (l:=[A1,A2,A3]) s0 (by simp) (fun q hq=>by
  simp only[kV,List.not_mem_nil,or_false]at hq
  rcases hq with rfl|rfl|rfl
  ·exact qa
  ·exact qb
  ·exact qc) (by decide)
 simp(disch:=first|(simp;done)|omega|rfl) [-getElem?_pos,A.zit,oh,r11,Qv,ziw,ME,zix,r16,ziy,r18,r20,a_,aj]
 refine av (cr W) ?_
 rintro _ h1 n1 k1 rfl
 have K1:=kC.trans k1
 have xF:=K1.le
 have g1:=(K1.get C hCN).trans hC
 have i1:C<n1:=by omega
 simp(disch:=first|(simp;done)|omega|rfl) [-getElem?_pos,r19,g1,i1,aI,aK,a_]
 refine av (Zwy (by omega) (by omega)) ?_
 rintro _ h2 n2 k2 rfl
 have K2:=K1.trans k2
 have oH:=K2.le
 simp(disch:=first|(simp;done)|omega|rfl) [-getElem?_pos,csp,a_]
 refine nc (Xfu (M:=M) (C:=C) L hi hj (hu.ai K2) (hP.ai K2) ((K2.get C hCN).trans hC) (by omega) (by simpa using hW) (by omega) (by simp[r0]) (by simp[r9]) (by simp[tL]) (by simp[r15]) (by simp[r17]) (by simp[r19])) ?_
 intro e fr st hq
 simp(disch:=first|(simp;done)|omega|rfl) [-getElem?_pos,]
 exact hq.trans K2
def Xfs(L:PwH a)(hi:i<=3)(hj:j<=3)(hu:Sl H N u (strs a))(hP:j_ H N)(hW:aL M W=[])(hMN:M<=N)(r0:r.get 0=some u)(r9:r.get 9=some (.bool (mW a.length (ziB a))))(oh:r.get 10=some (.int .i64 0))(r11:r.get 11=some (.str [49]))(Qv:r.get 12=some (.int .i64 0))(tL:r.get 13=some (.str (Zao (zie (ziB a) i (a.length-1)))))(ME:r.get 14=some (.int .i64 0))(r15:r.get 15=some (.str (Zao (zie (ziB a) j (a.length-1)))))(r16:r.get 16=some (.int .i64 0))(r17:r.get 17=some (.str (Zao (zie (ziB a) (i+j) (a.length-1)))))(r18:r.get 18=some (.int .i64 0)):
  Code A.C none A.ziu ⟨r,188,[]⟩ ⟨H,N,W⟩ (fun e fr st=>Xe7 M e fr st H N):=by
 rw[cn]
 have la:=L.len
 simp(disch:=first|(simp;done)|omega|rfl) [-getElem?_pos,A.ziu,r0]
 refine av (Xaj hu (by omega)) ?_
 rintro v1 h1 n1 k1 s1
 simp(disch:=first|(simp;done)|omega|rfl) [-getElem?_pos,]
 refine av (Xfh L s1 (hP.ai k1)) ?_
 rintro _ h2 n2 k2 rfl
 have K2:=k1.trans k2
 have oH:=K2.le
 have mn2:¬n2<M:=by omega
 have kS:ah h2 n2 ((h2.set n2 (.cells [.str [],.str []] 32 true)).set n2 (.cells [.str (Zao (Xcb a 1)),.str (Zao (Xcc a 1))] 32 true)) (n2+1):=(ah.refl.new _).set (Yv5 _)
 have gS:((h2.set n2 (.cells [.str [],.str []] 32 true)).set n2 (.cells [.str (Zao (Xcb a 1)),.str (Zao (Xcc a 1))] 32 true)).get n2=some (.cells [.str (Zao (Xcb a 1)),.str (Zao (Xcc a 1))] 32 true):=by simp
 have KS:=K2.trans kS
 simp(disch:=first|(simp;done)|omega|rfl) [-getElem?_pos,aj,bM]
 generalize (h2.set n2 (.cells [.str [],.str []] 32 true)).set n2 (.cells [.str (Zao (Xcb a 1)),.str (Zao (Xcc a 1))] 32 true)=HS at*
 refine nc (Xft (M:=M) (C:=n2) L hi hj (hu.ai KS) (hP.ai KS) gS (by omega) (by simp[aL,mn2,hW]) (by omega) (by simp[r0]) (by simp[r9]) (by simp[oh]) (by simp[r11]) (by simp[Qv]) (by simp[tL]) (by simp[ME]) (by simp[r15]) (by simp[r16]) (by simp[r17]) (by simp[r18]) (by simp) (by simp)) ?_
 intro e fr st hq
 simp(disch:=first|(simp;done)|omega|rfl) [-getElem?_pos,]
 exact hq.trans KS
def Xfr(L:PwH a)(hi:i<=3)(hj:j<=3)(hu:Sl H N u (strs a))(hP:j_ H N)(hW:aL M W=[])(hMN:M<=N)(r0:r.get 0=some u)(r7:r.get 7=some (.int .i64 i))(r8:r.get 8=some (.int .i64 j))(r9:r.get 9=some (.bool (mW a.length (ziB a))))(oh:r.get 10=some (.int .i64 0)):
  Code A.C none A.ziv ⟨r,188,[]⟩ ⟨H,N,W⟩ (fun e fr st=>Xe7 M e fr st H N):=by
 rw[cn]
 have la:=L.len
 have l1:=L.l
 have e0:zie (ziB a) 0 (a.length-1)=1:=Xeu (n:=a.length-1) (by rw[Yht];omega) (by omega) (by omega)
 have wij:bA .i64 ((i:Int)+(j:Int))=((i+j:Nat):Int):=by
  rw[show (i:Int)+(j:Int)=((i+j:Nat):Int) by omega]
  exact cH (by omega) (by omega)
 simp(disch:=first|(simp;done)|omega|rfl) [-getElem?_pos,A.ziv,r0]
 refine av (Xaj hu (by omega)) ?_
 rintro v1 h1 n1 k1 s1
 simp(disch:=first|(simp;done)|omega|rfl) [-getElem?_pos,]
 refine av (Xeo (m:=0) L rfl (by decide) s1 (hP.ai k1)) ?_
 rintro _ h2 n2 k2 rfl
 have K2:=k1.trans k2
 rw[e0,Xfe]
 simp(disch:=first|(simp;done)|omega|rfl) [-getElem?_pos,r0]
 refine av (Xaj (hu.ai K2) (by omega)) ?_
 rintro v3 h3 n3 k3 s3
 have K3:=K2.trans k3
 simp(disch:=first|(simp;done)|omega|rfl) [-getElem?_pos,r7]
 refine av (Xeo (m:=i) L rfl (by omega) s3 (hP.ai K3)) ?_
 rintro _ h4 n4 k4 rfl
 have K4:=K3.trans k4
 simp(disch:=first|(simp;done)|omega|rfl) [-getElem?_pos,r0]
 refine av (Xaj (hu.ai K4) (by omega)) ?_
 rintro v5 h5 n5 k5 s5
 have K5:=K4.trans k5
 simp(disch:=first|(simp;done)|omega|rfl) [-getElem?_pos,r8]
 refine av (Xeo (m:=j) L rfl (by omega) s5 (hP.ai K5)) ?_
 rintro _ h6 n6 k6 rfl
 have K6:=K5.trans k6
 simp(disch:=first|(simp;done)|omega|rfl) [-getElem?_pos,r0]
 refine av (Xaj (hu.ai K6) (by omega)) ?_
 rintro v7 h7 n7 k7 s7
 have K7:=K6.trans k7
 simp(disch:=first|(simp;done)|omega|rfl) [-getElem?_pos,r7,r8,wij]
 refine av (Xeo (m:=i+j) L rfl (by omega) s7 (hP.ai K7)) ?_
 rintro _ h8 n8 k8 rfl
 have K8:=K7.trans k8
 have le8:=K8.le
 simp(disch:=first|(simp;done)|omega|rfl) [-getElem?_pos,]
 refine nc (Xfs (M:=M) (i:=i) (j:=j) L hi hj (hu.ai K8) (hP.ai K8) (by simpa using hW) (by omega) (by simp[r0]) (by simp[r9]) (by simp[oh]) (by simp) (by simp) (by simp) (by simp) (by simp) (by simp) (by simp) (by simp)) ?_
 intro e fr st hq
 simp(disch:=first|(simp;done)|omega|rfl) [-getElem?_pos,]
 exact hq.trans K8
def Xet{h:T O}{s t:Nat}(hu:Sl h N u (strs a))(hP:j_ h N)(hla:a.length<9223372036854775808)(On:∀s∈a,s.length<9223372036854775808)(hs:s<=255)(ht:t<=255):Fn A.C 5 [u,.int .u8 s,.int .u8 t] h N (fun x _ _=>x=.bool true):=by
 intro w
 rw[aZ,A.k5 (by simp)]
 have hA:=fun w=>Nf (w:=w) hP
 have lu:=hu.len
 rw[HZ]at lu
 by_cases c1:(a.length:Int)<2
 ·simp(disch:=first|(simp;done)|omega|rfl) [-getElem?_pos,A.b5,hA,lu,c1,Ret]
  exact ah.refl
 by_cases c2:5<(a.length:Int)
 ·simp(disch:=first|(simp;done)|omega|rfl) [-getElem?_pos,A.b5,hA,lu,c1,c2,Ret]
  exact ah.refl
 simp(disch:=first|(simp;done)|omega|rfl) [-getElem?_pos,A.b5,hA,lu,c1,c2]
 refine av (Xe9 hu (by omega) On) ?_
 rintro _ h1 n1 k1 rfl
 have NM:=fun w=>Nf (w:=w) (hP.ai k1)
 by_cases c3:ks a=0
 ·simp(disch:=first|(simp;done)|omega|rfl) [-getElem?_pos,c3,a_]
  refine av (Yn4 (d:=4) (n:=5) (hu.ai k1) hla (by decide) (by decide)) ?_
  rintro _ h2 n2 k2 rfl
  have K2:=k1.trans k2
  have hA2:=fun w=>Nf (w:=w) (hP.ai K2)
  by_cases cf:wO a 5 4=true
  ·have L:PwH a:=⟨c3,cf,by omega⟩
   have ws:bA .i64 (s:Int)=(s:Int):=cH (by omega) (by omega)
   have wt:bA .i64 (t:Int)=(t:Int):=cH (by omega) (by omega)
   have ms:(s:Int).tmod 4=((s%4:Nat):Int):=by rw[DE (by omega)];omega
   have mt:(t:Int).tmod 4=((t%4:Nat):Int):=by rw[DE (by omega)];omega
   have ws4:bA .i64 ((s%4:Nat):Int)=((s%4:Nat):Int):=cH (by omega) (by omega)
   have wt4:bA .i64 ((t%4:Nat):Int)=((t%4:Nat):Int):=cH (by omega) (by omega)
   rw[cf]
   simp(disch:=first|(simp;done)|omega|rfl) [-getElem?_pos,ws,wt,ms,mt,ws4,wt4]
   refine av (Xaj (hu.ai K2) (by omega)) ?_
   rintro v3 h3 n3 k3 s3
   have K3:=K2.trans k3
   simp(disch:=first|(simp;done)|omega|rfl) [-getElem?_pos,]
   refine av (Xff L s3) ?_
   rintro _ h4 n4 k4 rfl
   have K4:=K3.trans k4
   simp(disch:=first|(simp;done)|omega|rfl) [-getElem?_pos,]
   refine nc (Xfr (M:=N) (i:=s%4) (j:=t%4) L (by omega) (by omega) (hu.ai K4) (hP.ai K4) (by simp) K4.le (by simp) (by simp) (by simp) (by simp) (by simp)) ?_
   rintro _ _ ⟨H,nn,WW⟩ ⟨rfl,r6',rfl,h6,hw,hk⟩
   simp only at hw hk
   simp(disch:=first|(simp;done)|omega|rfl) [-getElem?_pos,h6,hw,Ret]
   exact K4.trans hk
  ·have cf':wO a 5 4=false:=by simpa using cf
   rw[cf']
   simp(disch:=first|(simp;done)|omega|rfl) [-getElem?_pos,hA2,Ret]
   exact K2
 ·simp(disch:=first|(simp;done)|omega|rfl) [-getElem?_pos,c3,a_,NM,Ret]
  exact k1
def sA(c:Nat->Rat)(n:Nat):Rat:=sR (fun j=>zgb (c j)) (n+1)
def Yr9{c:Nat->Rat}{n:Nat}:0<=sA c n:=Dt fun _ _=>Zb2
def grow{d:Nat->Rat}{n:Nat}(h0:d n≠0):∀M:Nat,∃G,0<=G/\∀(y:Nat->Rat) (N:Nat) (B:Rat),(∀j,j<n->zgb (y j)<=B)->(∀t,t<N->zgb (Tn d n y t)<=B)->∀t,t<N+n->t<M+n->zgb (y t)<=G*B
 |0=>⟨1,by decide,fun y N B hi hu t _ ht=>by
  have:=hi t (by omega)
  grind⟩
 |M+1=>by
  obtain⟨G,g0,hG⟩:=grow h0 M
  have ad:=@Zb2 (1/d n)
  have a0:=@Yr9 d n
  have aG:=Rat.mul_nonneg a0 g0
  have g1:=Rat.mul_nonneg (show (0:Rat)<=1+sA d n*G by grind) ad
  refine⟨G+(1+sA d n*G)*zgb (1/d n),by grind,fun y N B hi hu t h1 h2=>?_⟩
  have B0:0<=B:=by
   by_cases e:0<n
   ·exact Rat.le_trans Zb2 (hi 0 e)
   ·exact Rat.le_trans Zb2 (hu 0 (by omega))
  have gB:=Rat.mul_nonneg g0 B0
  have g1B:=Rat.mul_nonneg g1 B0
  by_cases ct:t<M+n
  ·have:=hG y N B hi hu t h1 ct
   grind
  ·obtain rfl:t=M+n:=by omega
   have tn:Tn d n y M=sR (fun j=>d j*y (M+j)) n+d n*y (M+n):=rfl
   have ab:zgb (sR (fun j=>d j*y (M+j)) n)<=sR (fun j=>zgb (d j)) n*(G*B):=Ygl (d:=d) (y:=fun j=>y (M+j)) fun j hj=>hG y N B hi hu (M+j) (by omega) (by omega)
   have sl:sA d n=sR (fun j=>zgb (d j)) n+zgb (d n):=rfl
   have an:=@Zb2 (d n)
   have s1:=iK gB (show sR (fun j=>zgb (d j)) n<=sA d n by grind)
   have uM:=hu M (by omega)
   have ey:y (M+n)=(Tn d n y M+ -1*sR (fun j=>d j*y (M+j)) n)*(1/d n):=by
    have:=Rat.div_mul_cancel (a:=1) h0
    rw[tn]
    generalize 1/d n=i at*
    have e:(sR (fun j=>d j*y (M+j)) n+d n*y (M+n)+ -1*sR (fun j=>d j*y (M+j)) n)*i=y (M+n)*(i*d n):=by grind
    rw[e,this]
    grind
   have t1:=@Zrh (Tn d n y M) (-1*sR (fun j=>d j*y (M+j)) n)
   rw[BJ,show zgb (-1)=1 from rfl]at t1
   have t2:=iK ad (show zgb (Tn d n y M+ -1*sR (fun j=>d j*y (M+j)) n)<=B+sA d n*(G*B) by grind)
   rw[ey,BJ]
   grind
def scF(p:List Rat)(x:Rat)(k:Nat):Rat:=pg p k*pwR x k
structure RM (p:List Rat) (d:Nat) (sq:Rat):Prop where
 l:p.length=d+1
 z:pg p d≠0
 h:∀x:Rat,0<x->(Dd (scF p x) d↔sq<x*x)
def Dy(p:List Rat)(d X:Nat):Prop:=∀k,∃z:Int,pg p k*((64^d:Nat):Rat)=(z:Rat)/\z.natAbs<=X*64^d
def f64(n:Int):Rat:=Rat.divInt n 64
structure RtI (p:List Rat) (i j:Nat) (rs:List Int) (sq:Rat):Prop where
 rm:RM p (i+2*j) sq
 dy:Dy p (i+2*j) (3^i*13^j)
 s0:0<=sq
 s8:sq<=8
 sb:Qb 40 sq
 ev:∀n∈rs.take i,Ytf p (f64 n)=0
structure RtT (p:List Rat) (i j:Nat) (rs:List Int) (sq:Rat):Prop where
 R:RtI p i j rs sq
 i3:i<=3
 j2:j<=2
 l1:1<=i+2*j
 ei:i=rs.length
 b:∀n∈rs,n.natAbs<=128
end Go.Mx
