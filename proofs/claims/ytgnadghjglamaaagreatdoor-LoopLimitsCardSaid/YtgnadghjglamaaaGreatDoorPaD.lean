/-strings-/
import Derived.Test.YtgnadghjglamaaaGreatDoorNbC
set_option linter.all false
namespace Go.Mx
noncomputable section
open Go Go.Proofs
variable {N i:Nat} {h:T O} {rw:Bool} {s:aU}
set_option maxRecDepth 1000000
def A.b227:cF:=sr [ge 4 (.pe (.const (.str [])))]
 (.seq (sr [mv 7 0,ge 8 (.bin .eql (.dm .str) true (tq 7) (.const (.str []))),mv 9 8,mh 10 1 9,gz 11 9 (.bin .eql (.dm .str) true (tq 10) (.const (.str []))),pt 12 9 11]
 (cd 12
 (sr [mv 13 0,mv 4 13]
 (.ret))
 (.skip)))
 (.seq (sr [mv 14 1,ge 15 (.len 0 (tq 14)),ei 16 15 1,mv 17 16,mg 18 1 17,gy 19 17 (.bO (tq 18) (kq 0)),gy 20 17 (.bin .lss (.node []) false (tq 19) (.const (.int .u8 128))),pf 21 17 20]
 (cd 21
 (.seq (.fT [mv 22 0,mv 23 1,ge 24 (.bO (tq 23) (kq 0)),c2 25 255 22 24,mv 26 1,ge 27 (.bO (tq 26) (kq 0)),c2 28 254 25 27,mv 4 28] [0,0,2,7,0,16,63,127])
 (.ret))
 (.skip)))
 (.seq (sr [mv 30 1,c1 31 256 30,mv 29 31,xt 32 29 0,xt 33 29 1,ge 5 (.alloc (oD 0) 259),gn (.store 256 (tq 5) (tq 32)),mv 6 33]
 (sr [mv 34 6]
 (cd 34
 (sr [mv 35 0,c2 36 258 35 5,c2 37 257 36 5,mv 4 37]
 (.ret))
 (.skip))))
 (sr [mv 38 0,mv 39 1,c2 40 260 38 39,mv 41 1,c2 42 259 40 41,mv 4 42]
 (.ret)))))
def A.k227:=@A.kk 227 43 [.tmp 4] A.b227 (by kernel_rfl) rfl
def A.rC:cF:=.seq (sr [mv 6 4,mv 7 0,ge 8 (.len 0 (tq 7)),bi 9 .lss 6 8]
 (cd 9
 (.skip)
 (.exit 0)))
 (.seq (.block 1 (sr [mv 12 0,mv 13 4,ge 14 (.bO (tq 12) (tq 13)),mv 5 14]
 (.seq (sr [mv 15 5,ge 16 (.bin .geq (.node []) false (tq 15) (.const (.int .u8 128)))]
 (cd 16
 (sr [lN 17 256 2,gn (.store 256 (tq 2) (tq 17)),ge 3 (.pe (.const (.bool false)))]
 (.ret))
 (.skip)))
 (.reg [mv 18 5,ge 19 (.il 256 1 (tq 2) (tq 18)),gn (.store 1 (tq 19) (.const (.bool true)))]))))
 (.reg [mv 10 4,bc 11 .add 10 1,mv 4 11]))
def A.b256:cF:=sr [ge 2 (.alloc (oD 0) 259),ge 3 (.pe (.const (.bool false)))]
 (.seq (sr [mc 4 0]
 (.block 0 (.loop A.rC)))
 (sr [lN 20 256 2,gn (.store 256 (tq 2) (tq 20)),ge 3 (.pe (.const (.bool true)))]
 (.ret)))
def A.k256:=@A.kk 256 21 [.cell 2 (some 256),.tmp 3] A.b256 (by kernel_rfl) rfl
def A.QE:=A.q Tryz.f257
def A.nk:=A.ql A.QE 0 []
def A.b257:=(fun x0=>A.qb A.QE [x0]) A.nk
def A.k257:=@A.kk 257 16 [.tmp 4] A.b257 (by kernel_rfl) rfl
def A.QF:=A.q Tryz.f258
def A.np:=A.ql A.QF 0 []
def A.b258:=(fun x0=>A.qb A.QF [x0]) A.np
def A.k258:=@A.kk 258 22 [.tmp 4] A.b258 (by kernel_rfl) rfl
def A.b288:=A.q Tryz.f288
def A.k288:=@A.kk 288 10 [.tmp 4] A.b288 (by kernel_rfl) rfl
def A.b187:=A.q Tryz.f187
def A.k187:=@A.kk 187 19 [.tmp 2] A.b187 (by kernel_rfl) rfl
def Zx0:Fn A.C 256 [(.str [48,49,50,51,52,53,54,55,56,57])] h N (fun v _ _=>v=.aS [.agg (oD 10),.bool true]):=by
 intro w
 rw[aV,A.k256 (by simp)]
 simp[A.b256]
 refine c_ [(3,19)] (fun e r st=>e=.exit 0/\st.n=N+1/\aD N st.w=[]/\ae h N st.h (N+1)/\st.h.get N=some (.cells (oD 10) 259 true)) (fun m r st=>st.n=N+1/\aD N st.w=[]/\ae h N st.h (N+1)/\∃k,m=10-k/\k<=10/\r.get 4=some (.int .i64 k)/\st.h.get N=some (.cells (oD k) 259 true)) 10 ?_ ?_ ?_
 ·exact⟨rfl,rfl,(ae.refl.set (aZ _)).up (by omega),0,by omega,by omega,by simp,by simp⟩
 ·rintro m r ⟨H,n1,W⟩ hr hf ⟨hn,hW,hK,k,rfl,hk,h4,aM⟩
  simp only at hn hW hK aM
  subst hn
  rw[dk]
  by_cases aP:k<10
  ·obtain⟨c,hc,hcu⟩:=Ygi aP
   unfold Yph at hc
   have a1:¬128<=cR c:=by omega
   have a2:cR c<256:=by omega
   have a3:0<=cR c:=by omega
   have a4:(cR c).toNat=48+k:=by omega
   have dE:(k:Int)<10:=by omega
   have hs:=Yg2 aP
   have q1:=Ae k
   simp(disch:=first|(simp;done)|omega|(simp only[Zab,aq,ak];omega)|rfl) [-getElem?_pos,A.rC,hr,hf,h4,dE,hc,a1,a2,a3,a4,hs,aM,hW]
   exact⟨_,by omega,hK.set (aZ N),k+1,rfl,by omega,by simp,rfl⟩
  ·have:k=10:=by omega
   subst this
   simp(disch:=first|(simp;done)|omega|(simp only[Zab,aq,ak];omega)|rfl) [-getElem?_pos,A.rC,hr,hf,h4,aM,hW]
   exact hK
 ·rintro e r ⟨H,n1,W⟩ hr ⟨rfl,hn,hW,hK,aM⟩
  simp only at hn hW hK aM
  subst hn
  have q1:=Ae 10
  simp(disch:=first|(simp;done)|omega|(simp only[Zab,aq,ak];omega)|rfl) [-getElem?_pos,hr,aF,hW,aM,aJ,aE,Ae,Zwl]
  exact hK.set (aZ N)
def Znk{c:UInt8}{w:List Nat}{e:TypeId}(hr:h.get i=some (.cells (oD 10) e rw)):A.C.call (.func 288 [] []) [.ptr i 0,.int .u8 (cR c)] ⟨h,N,w⟩=some (.bool (kh c),⟨h,N,w⟩):=by
 apply Call.eq
 rw[aV,A.k288 (by simp)]
 have hu:=Zzo c
 have e2:(oD 10)[(cR c).toNat]?=some (.bool (kh c)):=by
  rw[Ms (by omega),Ycw]
  congr 2
  rw[decide_eq_decide];omega
 simp(disch:=first|(simp;done)|omega|(simp only[Zab,aq,ak];omega)|rfl) [-getElem?_pos,A.b288,hr,hu,e2]
def Ygk{k:Nat}{c:UInt8}(hl:s.length=k+1)(hc:s[k]?=some c):cN s=(cN (s.take k)&&kh c):=by
 unfold cN
 have:s=s.take k++[c]:=by
  conv=>lhs;rw[<-A6 k s]
  rw[qk hc,zv (by omega)]
 conv=>lhs;rw[this]
 simp
def Ycv{s:aU}{c:UInt8}(hc:s[0]?=some c):cN s=(kh c&&cN (s.drop 1)):=by
 cases s with
 |nil=>simp at hc
 |cons d s=>simp at hc;subst hc;rfl
def Ygj{k:Nat}{c:UInt8}(hc:s[k]?=some c)(hd:kh c=false):cN s=false:=by
 unfold cN
 rw[List.all_eq_false]
 exact⟨c,eZ hc,by simp[hd]⟩
def QG(s:aU)(v:V):Prop:=∃t:aU,v=.str t/\t.length<=s.length/\cN t=cN s/\(cN s=true->t=[])
def Zqj{e:TypeId}(kR:h.get i=some (.cells (oD 10) e rw))(hl:s.length<4611686018427387904):Fn A.C 258 [.str s,.ptr i 0] h N (fun v _ _=>QG s v):=by
 intro w
 rw[aV,A.k258 (by simp)]
 simp[A.b258]
 refine c_ [(0,0),(5,20)] (fun e r st=>e=.exit 0/\st=⟨h,N,[]⟩/\∃t:aU,r.get 0=some (.str t)/\t.length<=s.length/\cN t=cN s/\(cN s=true->t=[])) (fun m r st=>st=⟨h,N,[]⟩/\∃t:aU,m=t.length/\t.length<=s.length/\r.get 0=some (.str t)/\cN t=cN s) s.length ?_ ?_ ?_
 ·exact⟨rfl,s,rfl,by omega,by simp,rfl⟩
 ·rintro m r _ hr hf ⟨rfl,t,rfl,hle,h0,ht⟩
  rw[dk]
  by_cases hz:t.length=0
  ·have:t=[]:=kJ hz
   subst this
   simp(disch:=first|(simp;done)|omega|(simp only[Zab,aq,ak];omega)|rfl) [-getElem?_pos,A.np,hr,hf,h0,ht]
  ·obtain⟨k,hk⟩:∃k,t.length=k+1:=⟨t.length-1,by omega⟩
   obtain⟨c,hc⟩:=fz (l:=t) (k:=k) (by omega)
   have mi:(t.length:Int)=k+1:=by omega
   have Bj:(0:Int)<(k:Int)+1:=by omega
   have ew:(k:Int)+1-1=k:=by omega
   have As:=fun w=>Znk (c:=c) (N:=N) (w:=w) kR
   by_cases hd:kh c=true
   ·simp(disch:=first|(simp;done)|omega|(simp only[Zab,aq,ak];omega)|rfl) [-getElem?_pos,A.np,hr,hf,h0,mi,Bj,ew,hc,As,hd,aC]
    exact⟨k,by omega,t.take k,by simp;omega,by simp;omega,rfl,by rw[<-ht,Ygk hk hc,hd];simp⟩
   ·have hd:kh c=false:=by simpa using hd
    simp(disch:=first|(simp;done)|omega|(simp only[Zab,aq,ak];omega)|rfl) [-getElem?_pos,A.np,hr,hf,h0,mi,Bj,ew,hc,As,hd,aC]
    have hq:=Ygj hc hd
    rw[ht]at hq
    simp[hq,hle]
    rw[ht];exact hq
 ·rintro _ r _ hr ⟨rfl,rfl,t,h0,hle,ht,he⟩
  simp(disch:=first|(simp;done)|omega|(simp only[Zab,aq,ak];omega)|rfl) [-getElem?_pos,hr,h0,aF,QG]
  exact⟨ae.refl,hle,ht,he⟩
def Zsn{e:TypeId}(kR:h.get i=some (.cells (oD 10) e rw))(hl:s.length<4611686018427387904):Fn A.C 257 [.str s,.ptr i 0] h N (fun v _ _=>QG s v):=by
 intro w
 rw[aV,A.k257 (by simp)]
 simp[A.b257]
 refine c_ [(0,0),(5,14)] (fun e r st=>e=.exit 0/\st=⟨h,N,[]⟩/\∃t:aU,r.get 0=some (.str t)/\t.length<=s.length/\cN t=cN s/\(cN s=true->t=[])) (fun m r st=>st=⟨h,N,[]⟩/\∃t:aU,m=t.length/\t.length<=s.length/\r.get 0=some (.str t)/\cN t=cN s) s.length ?_ ?_ ?_
 ·exact⟨rfl,s,rfl,by omega,by simp,rfl⟩
 ·rintro m r _ hr hf ⟨rfl,t,rfl,hle,h0,ht⟩
  rw[dk]
  by_cases hz:t.length=0
  ·have:t=[]:=kJ hz
   subst this
   simp(disch:=first|(simp;done)|omega|(simp only[Zab,aq,ak];omega)|rfl) [-getElem?_pos,A.nk,hr,hf,h0,ht]
  ·cases t with
   |nil=>simp at hz
   |cons c t=>
    have Bj:(0:Int)<(t.length:Int)+1:=by omega
    have As:=fun w=>Znk (c:=c) (N:=N) (w:=w) kR
    have MH:=Ycv (s:=c::t) (c:=c) rfl
    by_cases hd:kh c=true
    ·simp(disch:=first|(simp;done)|omega|(simp only[Zab,aq,ak];omega)|rfl) [-getElem?_pos,A.nk,hr,hf,h0,Bj,As,hd,aC]
     simp only[ak]at hle
     rw[hd]at MH
     exact⟨t.length,by omega,t,rfl,by omega,rfl,by rw[<-ht,MH];rfl⟩
    ·have hd:kh c=false:=by simpa using hd
     simp(disch:=first|(simp;done)|omega|(simp only[Zab,aq,ak];omega)|rfl) [-getElem?_pos,A.nk,hr,hf,h0,Bj,As,hd,aC]
     rw[hd]at MH
     rw[ht]at MH
     simp only[ak]at hle
     simp[MH,hle]
     rw[ht,MH];rfl
 ·rintro _ r _ hr ⟨rfl,rfl,t,h0,hle,ht,he⟩
  simp(disch:=first|(simp;done)|omega|(simp only[Zab,aq,ak];omega)|rfl) [-getElem?_pos,hr,h0,aF,QG]
  exact⟨ae.refl,hle,ht,he⟩
def Zwx(hl:s.length<4611686018427387904):Fn A.C 227 [.str s,(.str [48,49,50,51,52,53,54,55,56,57])] h N (fun v _ _=>QG s v):=by
 intro w
 rw[aV,A.k227 (by simp)]
 by_cases he:s=[]
 ·subst he
  simp(disch:=first|(simp;done)|omega|(simp only[Zab,aq,ak];omega)|rfl) [-getElem?_pos,A.b227,aL,aF]
  exact⟨ae.refl,[],rfl,aZ _,rfl,fun _=>rfl⟩
 ·have e1:(s==[])=false:=by simp[he]
  have e2:s.isEmpty=false:=by simp[he]
  simp(disch:=first|(simp;done)|omega|(simp only[Zab,aq,ak];omega)|rfl) [-getElem?_pos,A.b227,aL,e1,e2]
  refine az Zx0 ?_
  rintro v h1 n1 k1 rfl
  have q1:=Ae 10
  simp(disch:=first|(simp;done)|omega|(simp only[Zab,aq,ak];omega)|rfl) [-getElem?_pos,]
  refine az (Zqj (e:=259) (rw:=true) ?_ hl) ?_
  ·simp
  rintro v h2 n2 k2 ⟨t,rfl,hle,ht,hte⟩
  have EF:h2.get n1=some (.cells (oD 10) 259 true):=by
   rw[k2.get _ (by omega)]
   simp
  simp(disch:=first|(simp;done)|omega|(simp only[Zab,aq,ak];omega)|rfl) [-getElem?_pos,]
  refine az (Zsn (e:=259) (rw:=true) EF (by omega)) ?_
  rintro v h3 n3 k3 ⟨u,rfl,zfg,hu,hue⟩
  have kk:ae h N h3 n3:=(((k1.set k1.le).set k1.le).up (Ar n1)).trans (k2.trans k3)
  simp(disch:=first|(simp;done)|omega|(simp only[Zab,aq,ak];omega)|rfl) [-getElem?_pos,aF]
  exact⟨k1.le,kk,u,rfl,by omega,by rw[hu,ht],fun h=>hue (by rw[ht];exact h)⟩
def Zg9{s:aU}{h:T O}{N:Nat}(hl:s.length<4611686018427387904):Fn A.C 187 [.str s] h N (fun v _ _=>v=.bool (ja s)):=by
 intro w
 rw[aV,A.k187 (by simp)]
 cases s with
 |nil=>simp(disch:=first|(simp;done)|omega|(simp only[Zab,aq,ak];omega)|rfl) [-getElem?_pos,A.b187,aF,ja];exact ae.refl
 |cons c s=>
  simp(disch:=first|(simp;done)|omega|(simp only[Zab,aq,ak];omega)|rfl) [-getElem?_pos,A.b187]
  refine az (Zwx hl) ?_
  rintro v h1 n1 k1 ⟨t,rfl,hle,ht,hte⟩
  have hd:ja (c::s)=(cN (c::s)&&(decide (cR c≠48)||decide (s=[]))):=by
   have:decide (c.toNat≠48)=decide (cR c≠48):=by unfold cR;rw[decide_eq_decide];omega
   simp only[ja,this];rfl
  by_cases ha:cN (c::s)=true
  ·have:=hte ha
   subst this
   by_cases h0:cR c=48
   ·have hc:c=48:=by unfold cR at h0;exact UInt8.toNat_inj.1 (by show c.toNat=48;omega)
    subst hc
    simp(disch:=first|(simp;done)|omega|(simp only[Zab,aq,ak];omega)|rfl) [-getElem?_pos,aL,hd,ha,h0,aF,k1]
    cases s<;>rfl
   ·simp(disch:=first|(simp;done)|omega|(simp only[Zab,aq,ak];omega)|rfl) [-getElem?_pos,aL,hd,ha,h0,aF,k1]
  ·have ha:cN (c::s)=false:=by simpa using ha
   rw[ha]at ht
   have e1:(t==[])=false:=by
    cases t with
    |nil=>cases ht
    |cons=>rfl
   have e2:t.isEmpty=false:=by
    cases t with
    |nil=>cases ht
    |cons=>rfl
   simp(disch:=first|(simp;done)|omega|(simp only[Zab,aq,ak];omega)|rfl) [-getElem?_pos,aL,hd,ha,e1,e2,aF,k1]
def A.QH:=A.q Tryz.f247
def A.rD:=A.ql A.QH 0 []
def A.b247:=(fun x0=>A.qb A.QH [x0]) A.rD
def A.k247:=@A.kk 247 77 [.tmp 2,.tmp 3] A.b247 (by kernel_rfl) rfl
def A.b219:=A.q Tryz.f219
def A.k219:=@A.kk 219 18 [.tmp 2,.tmp 3] A.b219 (by kernel_rfl) rfl
def Yf4{s:aU}{h:T O}{N:Nat}(hd:cN s=true)(h1:1<=s.length)(h2:s.length<=18):Fn A.C 247 [.str s] h N (fun v _ _=>v=.aS [.int .i64 (aK s:Nat),.aX]):=by
 intro w
 obtain⟨c,hc⟩:=fz (l:=s) (k:=0) (by omega)
 have oZ:=M1 hd hc
 have a1:¬cR c=45:=by omega
 have a2:¬cR c=43:=by omega
 have a3:(0:Int)<(s.length:Int):=by omega
 have a5:(s.length:Int)<19:=by omega
 have jw:0<s.length:=by omega
 have bF:s≠[]:=fun h=>by rw[h]at h1;simp at h1
 have gw:s.head?=some c:=by cases s with
  |nil=>simp at hc
  |cons=>simpa using hc
 rw[aV,A.k247 (by simp)]
 by_cases a4:(s.length:Int)<10
 all_goals
  simp(disch:=first|(simp;done)|omega|(simp only[Zab,aq,ak];omega)|rfl) [-getElem?_pos,A.b247,a3,a4,a5,bF,jw,gw,hc,aL,a1,a2]
  refine c_ [(2,3),(6,6),(8,8),(49,63)] (fun e r st=>st.n=N+1/\aD N st.w=[]/\ae h N st.h (N+1)/\e=.exit 0/\r.get 6=some (.int .i64 (aK s:Nat))) (fun m r st=>st.n=N+1/\aD N st.w=[]/\ae h N st.h (N+1)/\st.h.get N=some (.cells (JI s) 5 true)/\∃k,m=s.length-k/\k<=s.length/\r.get 49=some (.int .i64 k)/\r.get 6=some (.int .i64 (aK (s.take k):Nat))) s.length ?_ ?_ ?_
  ·exact⟨rfl,rfl,(ae.refl.set (aZ _)).up (by omega),by simp,0,by omega,by omega,by simp,by simp[aK]⟩
  ·rintro m r ⟨H,n1,W⟩ hr hf ⟨hn,hW,hK,aM,k,rfl,hk,yD,h6⟩
   simp only at hn hW hK aM
   subst hn
   rw[dk]
   by_cases aP:k<s.length
   ·obtain⟨c,hc⟩:=fz aP
    have sA:=M1 hd hc
    have hb:=Zy9 hc
    have hv:=Zm1 hc
    have hb1:=RP hd k hk
    have hb2:=RQ (a:=k) (b:=17) (by omega)
    have b1:¬9<cR c-48:=by omega
    have b2:bn .u8 (cR c-48)=cR c-48:=Bs (by omega) (by omega)
    have b3:((aK (s.take (k+1)):Nat):Int)=(aK (s.take k):Nat)*10+(cR c-48):=by
     rw[hv];unfold cR at*;omega
    have b4:((aK (s.take k):Nat):Int)<100000000000000000:=by
     have:(10:Nat)^17=100000000000000000:=by decide
     omega
    generalize hy:aK (s.take (k+1))=y at*
    generalize aK (s.take k)=x at*
    simp(disch:=first|(simp;done)|omega|(simp only[Zab,aq,ak];omega)|rfl) [-getElem?_pos,A.rD,hr,hf,yD,h6,aP,aM,hb,b1,b2,hW]
    exact⟨_,by omega,hK,k+1,rfl,by omega,by simp,by rw[hy,b3]⟩
   ·have:k=s.length:=by omega
    subst this
    simp(disch:=first|(simp;done)|omega|(simp only[Zab,aq,ak];omega)|rfl) [-getElem?_pos,A.rD,hr,hf,yD,hW]
    rw[BF]at h6
    exact⟨hK,h6⟩
  ·rintro _ r ⟨H,n1,W⟩ hr ⟨hn,hW,hK,rfl,h6⟩
   simp only at hn hW hK
   subst hn
   simp(disch:=first|(simp;done)|omega|(simp only[Zab,aq,ak];omega)|rfl) [-getElem?_pos,hr,aF,hW,hK,h6,gw,hc,aL,a1]
def Ylg{s:aU}{h:T O}{N:Nat}(hd:cN s=true)(h1:1<=s.length)(h2:s.length<=18):Fn A.C 219 [.str s] h N (fun v _ _=>v=.aS [.int .i64 (aK s:Nat),.aX]):=by
 intro w
 rw[aV,A.k219 (by simp)]
 simp(disch:=first|(simp;done)|omega|(simp only[Zab,aq,ak];omega)|rfl) [-getElem?_pos,A.b219]
 refine az (Yf4 hd h1 h2) ?_
 rintro v h1 n1 k1 rfl
 simp(disch:=first|(simp;done)|omega|(simp only[Zab,aq,ak];omega)|rfl) [-getElem?_pos,aL,aF,k1]
variable {M N a k o:Nat} {h:T O} {s:aU}
set_option maxHeartbeats 2000000
def A.QI:=A.q Tryz.f184
def A.j_:=A.ql A.QI 0 []
def A.b184:=(fun x0=>A.qb A.QI [x0]) A.j_
def A.k184:=@A.kk 184 23 [.cell 4 (some 2)] A.b184 (by kernel_rfl) rfl
def A.QJ:=A.q Tryz.f169
def A.nt:=A.ql A.QJ 0 []
def A.b169:=(fun x0=>A.qb A.QJ [x0]) A.nt
def A.k169:=@A.kk 169 41 [.cell 2 (some 2)] A.b169 (by kernel_rfl) rfl
def Ye5(h:o*a^k=M)(ha:1<=a)(ho:1<=o)(hk:1<=k):o*a<=M/\a<=M/\o<=M:=by
 have h1:a^1<=a^k:=pc ha hk
 rw[Nat.pow_one]at h1
 have h2:o*a<=o*a^k:=je o h1
 have h3:1*a<=o*a:=ky a ho
 have h4:o*1<=o*a:=je o ha
 omega
def Ymb(h:o*a^k=M)(ha:1<=a)(ho:1<=o)(hk:1<k):a*a<=M:=by
 have h1:a^2<=a^k:=pc ha hk
 have h2:1*a^k<=o*a^k:=ky _ ho
 have h3:a^2=a*a:=by rw[Nat.pow_two]
 omega
def Ymc(h:o*a^k=M)(hk:k%2=1):(o*a)*(a*a)^(k/2)=M:=by
 rw[<-h,<-Nat.pow_two,<-Nat.pow_mul,uA]
 congr 1
 conv=>rhs;rw[show k=2*(k/2)+1 by omega,fO]
 rw[gk]
def Yjd(h:o*a^k=M)(hk:k%2=0):o*(a*a)^(k/2)=M:=by
 rw[<-h,<-Nat.pow_two,<-Nat.pow_mul,show 2*(k/2)=k by omega]
structure Ui (h:T O) (N q M m:Nat) (r:T V) (st:St):Prop where
 w:aD N st.w=[]
 ah:ae h N st.h st.n
 q1:N+2<=q
 q2:q<st.n
 row:st.h.get (N+1)=some (.cells [.int .i64 0,.aa] 108 true)
 r1:r.get 1=some (.int .i64 m)
 lm:m<4611686018427387904
 ex:∃(n1 n2:Int) (u1 u2:V) (a o:Nat),st.h.get N=some (.cells [.int .i64 n1,u1] 108 true)/\st.h.get q=some (.cells [.int .i64 n2,u2] 108 true)/\In st.h st.n (.agg [.int .i64 n1,u1]) a/\In st.h st.n (.agg [.int .i64 n2,u2]) o/\o*a^m=M/\1<=a/\1<=o/\wl a<10000000000
def Ye8{q:Nat}{r0:T V}(hM:wl M<10000000000)(a2:r0.get 2=some (.ptr N 0))(a5:r0.get 5=some (.ptr q 0)):
  ∀x r st,(∀t,jR [(1,1),(7,21)] t=false->r.get t=r0.get t)->Fx [(1,1),(7,21)] r0 23 ⟨r,23,[]⟩->Ui h N q M x r st->Code A.C none A.j_ ⟨r,23,[]⟩ st (Rd [(1,1),(7,21)] r0 23 (Ui h N q M) x (fun e r st=>e=.exit 0/\Ui h N q M 0 r st)):=by
 rintro m r ⟨H,n0,W⟩ hr hf ⟨hW,hK,sh,lI,aM,r1,lm,n1,n2,u1,u2,a,o,g0,g1,ha,ho,xQ,a1,o1,la⟩
 simp only at hW hK lI aM g0 g1 ha ho
 rw[dk]
 have b1:=Yg3 (k:=m) (by omega)
 have b2:=Yeq (k:=m)
 by_cases h0:m=0
 ·subst h0
  simp(disch:=first|(simp;done)|omega|(simp only[Zab,aq,ak];omega)|rfl) [-getElem?_pos,A.j_,hr,hf,r1]
  exact⟨hW,hK,sh,lI,aM,by simp[r1],by omega,n1,n2,u1,u2,a,o,g0,g1,ha,ho,xQ,a1,o1,la⟩
 ·have c1:(0:Int)<(m:Int):=by omega
  have c2:0<m:=by omega
  obtain⟨t1,t2,t3⟩:=Ye5 xQ a1 o1 c2
  have lo:wl o<10000000000:=lG (J8 (a:=(o:Int)) (b:=(M:Int)) (by omega)) hM
  have loa:wl ((o*a:Nat):Int)<10000000000:=lG (J8 (a:=((o*a:Nat):Int)) (b:=(M:Int)) (by omega)) hM
  obtain⟨_,_,e5,o5⟩:=ha.cells
  simp only[V.agg.injEq,gC,V.int.injEq,true_and,and_true]at e5
  obtain⟨rfl,rfl⟩:=e5
  unfold V.one at o5
  have mq:¬q<N:=by omega
  by_cases hp:m%2=1
  ·have p1:(m:Int)%2=1:=by omega
   simp(disch:=first|(simp;done)|omega|(simp only[Zab,aq,ak];omega)|rfl) [-getElem?_pos,A.j_,hr,hf,r1,a2,a5,c1,c2,b1,b2,hp,p1,aL,g0,g1,aJ,aE]
   refine az (Ap ho ha (by omega) (by omega)) ?_
   rintro v h3 n3 k3 hv
   rw[<-LK]at hv
   obtain⟨n6,u6,rfl,o6⟩:=hv.cells
   unfold V.one at o6
   have oI:=k3.le
   have f0:=(k3.get N (by omega)).trans g0
   have f1:=(k3.get q (by omega)).trans g1
   have f2:=(k3.get (N+1) (by omega)).trans aM
   have d1:¬N=q:=by omega
   have d2:¬N+1=q:=by omega
   have d3:¬q=N:=by omega
   have ha3:=(ha.ah k3).aG (c1:=[.int .i64 n6,u6]) (e1:=108) (w1:=true) f1 ho.nu rfl
   have BS:=hv.aG (c1:=[.int .i64 n6,u6]) (e1:=108) (w1:=true) f1 ho.nu rfl
   have f0':(h3.set q (.cells [.int .i64 n6,u6] 108 true)).get N=some (.cells [.int .i64 n1,u1] 108 true):=by rw[T.aj,aA d1];exact f0
   have Su:(h3.set q (.cells [.int .i64 n6,u6] 108 true)).get q=some (.cells [.int .i64 n6,u6] 108 true):=by simp
   have f2':(h3.set q (.cells [.int .i64 n6,u6] 108 true)).get (N+1)=some (.cells [.int .i64 0,.aa] 108 true):=by rw[T.aj,aA d2];exact f2
   have kH:=(hK.trans k3).set (i:=q) (o:=.cells [.int .i64 n6,u6] 108 true) (by omega)
   by_cases wW:1<m
   ·have p2:(1:Int)<(m:Int):=by omega
    have t4:=Ymb xQ a1 o1 wW
    have laa:wl ((a*a:Nat):Int)<10000000000:=lG (J8 (a:=((a*a:Nat):Int)) (b:=(M:Int)) (by omega)) hM
    generalize hH:h3.set q (.cells [.int .i64 n6,u6] 108 true)=H3 at*
    simp(disch:=first|(simp;done)|omega|(simp only[Zab,aq,ak];omega)|rfl) [-getElem?_pos,r1,hr,a2,a5,f0,f1,d1,d3,o6,ag,bE,wW,p2,hH,f0',Su,aJ,aE]
    refine az (Ap ha3 ha3 (by omega) (by omega)) ?_
    rintro v h4 n4 k4 Ke
    rw[<-LK]at Ke
    obtain⟨n7,u7,rfl,o7⟩:=Ke.cells
    unfold V.one at o7
    have tr:=k4.le
    have e0:=(k4.get N (by omega)).trans f0'
    have e1:=(k4.get q (by omega)).trans Su
    have e2:=(k4.get (N+1) (by omega)).trans f2'
    simp(disch:=first|(simp;done)|omega|(simp only[Zab,aq,ak];omega)|rfl) [-getElem?_pos,r1,hr,hf,a2,e0,o7,ag,bE,b2]
    refine⟨m/2,by omega,by simp[aD,hW,mq],(kH.trans k4).set (aZ _),sh,by show q<n4;omega,by simp[e2],by simp,by omega,n7,n6,u7,u6,a*a,o*a,by simp,by simp[d3,e1],Ke.aG e0 ha.nu rfl,(BS.ah k4).aG e0 ha.nu rfl,Ymc xQ hp,tH a1 a1,tH o1 a1,laa⟩
   ·have p2:¬(1:Int)<(m:Int):=by omega
    have m0:m/2=0:=by omega
    have m1':m=1:=by omega
    simp(disch:=first|(simp;done)|omega|(simp only[Zab,aq,ak];omega)|rfl) [-getElem?_pos,r1,hr,hf,a2,a5,f0,f1,d1,d3,o6,ag,bE,wW,p2,b2]
    refine⟨m/2,by omega,by simp[aD,hW,mq],kH,sh,by show q<n3;omega,f2',by simp,by omega,n1,n6,u1,u6,a,o*a,f0',Su,ha3,BS,by rw[m0,<-xQ,m1'];simp,a1,tH o1 a1,la⟩
  ·have p1:¬(m:Int)%2=1:=by omega
   have p0:m%2=0:=by omega
   have p2:(1:Int)<(m:Int):=by omega
   have wW:1<m:=by omega
   have t4:=Ymb xQ a1 o1 wW
   have laa:wl ((a*a:Nat):Int)<10000000000:=lG (J8 (a:=((a*a:Nat):Int)) (b:=(M:Int)) (by omega)) hM
   simp(disch:=first|(simp;done)|omega|(simp only[Zab,aq,ak];omega)|rfl) [-getElem?_pos,A.j_,hr,hf,r1,a2,a5,c1,c2,b1,b2,hp,p1,p2,wW,aL,g0,g1,aJ,aE]
   refine az (Ap ha ha (by omega) (by omega)) ?_
   rintro v h3 n3 k3 hv
   rw[<-LK]at hv
   obtain⟨n6,u6,rfl,o6⟩:=hv.cells
   unfold V.one at o6
   have oI:=k3.le
   have f0:=(k3.get N (by omega)).trans g0
   have f1:=(k3.get q (by omega)).trans g1
   have f2:=(k3.get (N+1) (by omega)).trans aM
   have d3:¬q=N:=by omega
   simp(disch:=first|(simp;done)|omega|(simp only[Zab,aq,ak];omega)|rfl) [-getElem?_pos,r1,hr,hf,a2,f0,o6,ag,bE,b2]
   refine⟨m/2,by omega,by simp[aD,hW],(hK.trans k3).set (aZ _),sh,by show q<n3;omega,by simp[f2],by simp,by omega,n6,n2,u6,u2,a*a,o,by simp,by simp[d3,f1],hv.aG f0 ha.nu rfl,(ho.ah k3).aG f0 ha.nu rfl,Yjd xQ p0,tH a1 a1,o1,laa⟩
def Ymd{x:V}(hx:In h N x a)(ha:1<=a)(hk:k<4611686018427387904)(la:wl a<10000000000)(hM:wl ((a^k:Nat):Int)<10000000000):Fn A.C 184 [x,.int .i64 k] h N (fun v h' n'=>In h' n' v ((a^k:Nat):Int)):=by
 intro w
 rw[aV,A.k184 (by simp)]
 obtain⟨n1,u1,rfl,o1⟩:=hx.cells
 have kk:=aI (aI (ae.refl (h:=h) (n:=N)) (.cells [.int .i64 n1,u1] 108 true)) (.cells [.int .i64 0,.aa] 108 true)
 have mI:=hx.ah kk
 unfold V.one at o1
 simp(disch:=first|(simp;done)|omega|(simp only[Zab,aq,ak];omega)|rfl) [-getElem?_pos,A.b184,aJ,aE,ag,o1]
 refine az JX ?_
 rintro _ h1 m1 k1 rfl
 have ft:=k1.le
 have g0:=k1.get N (by omega)
 have g1:=k1.get (N+1) (by omega)
 simp at g0 g1
 have zn:=mI.ah k1
 have d1:¬N=m1:=by omega
 have d2:¬N+1=m1:=by omega
 have mq:¬m1<N:=by omega
 have kE:=(aI (ae.refl (h:=h1) (n:=m1)) (.cells [.int .i64 0,.aa] 108 true)).set (i:=m1) (o:=.cells [.int .i64 1,.aa] 108 true) (aZ _)
 simp(disch:=first|(simp;done)|omega|(simp only[Zab,aq,ak];omega)|rfl) [-getElem?_pos,aJ,aE,ag,bE]
 refine c_ [(1,1),(7,21)] _ (Ui h N m1 (a^k)) k ?_ (Ye8 hM (by simp) (by simp)) ?_
 ·refine⟨by simp[aD,mq],((kk.trans k1).trans kE),by omega,by show m1<m1+1;omega,by simp[d2,g1],by simp,hk,n1,1,u1,.aa,a,1,by simp[d1,g0],by simp,zn.ah kE,In.small (by omega) (by omega),by simp,ha,by omega,la⟩
 rintro e r ⟨h5,m5,W5⟩ hr ⟨rfl,hW,hK,sh,lI,aM,r1,lm,n5,n6,u5,u6,a',o,g5,g6,ha5,jy,xQ,a1,Sm,EA⟩
 simp only at hW hK lI aM g5 g6 ha5 jy
 obtain⟨_,_,e5,o5⟩:=jy.cells
 simp only[V.agg.injEq,gC,V.int.injEq,true_and,and_true]at e5
 obtain⟨rfl,rfl⟩:=e5
 unfold V.one at o5
 have he:(o:Int)=((a^k:Nat):Int):=by rw[<-xQ];simp
 rw[he]at jy
 have mq:¬N+1<N:=by omega
 simp(disch:=first|(simp;done)|omega|(simp only[Zab,aq,ak];omega)|rfl) [-getElem?_pos,hr,g6,aM,aJ,aE,ag,bE,o5,aF,hW,mq]
 exact⟨hK.set (by omega),jy.aG aM (by simp) rfl⟩
def Ya1(x:aU):∀(y:aU),aK (x++y)=aK x*10^y.length+aK y:=by
 intro y
 generalize hn:y.length=n
 induction n generalizing y with
 |zero=>
  have:y=[]:=kJ hn
  subst this;simp[aK]
 |succ n ih=>
  obtain⟨u,d,rfl⟩:∃u d,y=u++[d]:=⟨y.dropLast,y.getLast (by rintro rfl;simp at hn),(Yvl _).symm⟩
  simp at hn
  rw[<-sQ,PA,PA,ih u hn,fO]
  grind
def Iv{n:Nat}(h:n<10^k):wl n<=k:=by
 unfold wl
 apply Zfv
 have:(10:Nat)^k<=B^k:=Dq (by decide) k
 simp;omega
def Zo4(h:cN s=true)(k:Nat):cN (s.take k)=true:=by
 unfold cN at*
 rw[sN]at*
 exact fun x hx=>h x (B0 hx)
def Zzd(h:cN s=true)(k:Nat):cN (s.drop k)=true:=by
 unfold cN at*
 rw[sN]at*
 exact fun x hx=>h x (List.mem_of_mem_drop hx)
structure Uj (h:T O) (N:Nat) (s:aU) (m:Nat) (r:T V) (st:St):Prop where
 w:aD N st.w=[]
 ah:ae h N st.h st.n
 le:N+2<=st.n
 row:st.h.get N=some (.cells [.int .i64 0,.aa] 108 true)
 ex:∃(cur:aU) (p:Nat) (n1:Int) (u1:V),r.get 0=some (.str cur)/\cur.length=m/\m<=s.length/\cN cur=true/\st.h.get (N+1)=some (.cells [.int .i64 n1,u1] 108 true)/\In st.h st.n (.agg [.int .i64 n1,u1]) p/\aK s=p*10^m+aK cur
def Yah{r0:T V}(hd:cN s=true)(hl:s.length<=100000)(a4:r0.get 4=some (.ptr (N+1) 0)):
  ∀x r st,(∀t,jR [(0,0),(5,7),(13,36)] t=false->r.get t=r0.get t)->Fx [(0,0),(5,7),(13,36)] r0 41 ⟨r,41,[]⟩->Uj h N s x r st->Code A.C none A.nt ⟨r,41,[]⟩ st (Rd [(0,0),(5,7),(13,36)] r0 41 (Uj h N s) x (fun e r st=>e=.exit 0/\Uj h N s 0 r st)):=by
 rintro m r ⟨H,n0,W⟩ hr hf ⟨hW,hK,hle,aM,cur,p,n1,u1,kR,dW,hms,oZ,g1,hp,hv⟩
 simp only at hW hK hle aM g1 hp
 rw[dk]
 by_cases h0:m=0
 ·subst h0
  have:cur=[]:=kJ dW
  subst this
  simp(disch:=first|(simp;done)|omega|(simp only[Zab,aq,ak];omega)|rfl) [-getElem?_pos,A.nt,hr,hf,kR]
  exact⟨hW,hK,hle,aM,[],p,n1,u1,by simp[kR],rfl,by omega,rfl,g1,hp,hv⟩
 ·obtain⟨n,hn⟩:∃n,n=min 18 m:=⟨_,rfl⟩
  have c1:0<cur.length:=by omega
  have c2:(0:Int)<(cur.length:Int):=by omega
  have c3:(if (cur.length:Int)<18 then (cur.length:Int) else 18)=(n:Int):=by split<;>omega
  have c4:(n:Int)<=(cur.length:Int):=by omega
  have hpv:p<=aK s:=by
   rw[hv]
   have:p*1<=p*10^m:=je p (vU (by decide))
   omega
  have cZ:=Bt hd
  have lp:wl (p:Int)<=100000:=sF (Iv (lG hpv cZ)) hl
  have hat:=fun (h:T O) (N:Nat)=>Ylg (s:=cur.take n) (h:=h) (N:=N) (Zo4 oZ n) (by rw[lW];omega) (by rw[lW];omega)
  have l10:wl ((10:Nat):Int)<10000000000:=by decide+kernel
  have lpw:wl ((10^n:Nat):Int)<=19:=Iv (Nat.pow_lt_pow_right (by decide) (by omega))
  have EH:=Bt (Zo4 oZ n)
  have htl:(cur.take n).length=n:=by rw[lW];omega
  rw[htl]at EH
  have Lj:(10:Nat)^n<=10^18:=pc (by decide) (by omega)
  have e18:(10:Nat)^18=1000000000000000000:=by decide
  have lnv:wl ((aK (cur.take n):Nat):Int)<=18:=sF (Iv EH) (by omega)
  simp(disch:=first|(simp;done)|omega|(simp only[Zab,aq,ak];omega)|rfl) [-getElem?_pos,A.nt,hr,hf,kR,c1,c2,yr,B8,xD,c3,c4,aC]
  refine az (hat _ _) ?_
  rintro _ h1 m1 k1 rfl
  have ft:=k1.le
  have f1:=(k1.get (N+1) (by omega)).trans g1
  simp(disch:=first|(simp;done)|omega|(simp only[Zab,aq,ak];omega)|rfl) [-getElem?_pos,a4,hr,f1,aJ,aE]
  refine az JX ?_
  rintro _ h2 m2 k2 rfl
  have gJ:=k2.le
  simp(disch:=first|(simp;done)|omega|(simp only[Zab,aq,ak];omega)|rfl) [-getElem?_pos,]
  refine az (Ymd (In.small (z:=(10:Nat)) (by omega) (by omega)) (by omega) (by omega) l10 (by omega)) ?_
  rintro vp h3 m3 k3 hvp
  have oI:=k3.le
  simp(disch:=first|(simp;done)|omega|(simp only[Zab,aq,ak];omega)|rfl) [-getElem?_pos,]
  refine az (Ap (((hp.ah k1).ah k2).ah k3) hvp (by omega) (by omega)) ?_
  rintro vm h4 m4 k4 hvm
  have tr:=k4.le
  have lm:=C2 (p:Int) ((10^n:Nat):Int)
  simp(disch:=first|(simp;done)|omega|(simp only[Zab,aq,ak];omega)|rfl) [-getElem?_pos,]
  refine az JX ?_
  rintro _ h5 m5 k5 rfl
  have Ku:=k5.le
  simp(disch:=first|(simp;done)|omega|(simp only[Zab,aq,ak];omega)|rfl) [-getElem?_pos,]
  refine az (Qj (hvm.ah k5) (In.small (z:=((aK (cur.take n):Nat):Int)) (by omega) (by omega)) (by omega) (by omega)) ?_
  rintro va h6 m6 k6 hva
  have zfh:=k6.le
  have k26:=(((k2.trans k3).trans k4).trans k5).trans k6
  have e1:=(k26.get (N+1) (by omega)).trans f1
  have e2:=(k26.get N (by omega)).trans ((k1.get N (by omega)).trans aM)
  obtain⟨n6,u6,rfl,o6⟩:=hva.cells
  unfold V.one at o6
  have z1:N+1<m1:=by omega
  have z2:N+1<m6:=by omega
  have z3:¬N+1<N:=by omega
  have z4:N+1<m5:=by omega
  simp(disch:=first|(simp;done)|omega|(simp only[Zab,aq,ak];omega)|rfl) [-getElem?_pos,hr,hf,a4,kR,e1,o6,z1,z2,z4,ag,bE,aC,c4,bU.bZ]
  have Pw:(p:Int)*((10^n:Nat):Int)+((aK (cur.take n):Nat):Int)=((p*10^n+aK (cur.take n):Nat):Int):=by simp
  rw[Pw]at hva
  refine⟨m-n,by omega,by simp[aD,hW,z3],((hK.trans k1).trans k26).set (by omega),by show N+2<=m6;omega,by simp[e2],cur.drop n,p*10^n+aK (cur.take n),n6,u6,by simp,by rw[A4];omega,by omega,Zzd oZ n,by simp,hva.aG e1 hp.nu rfl,?_⟩
  have h1:=Ya1 (cur.take n) (cur.drop n)
  rw[A6,A4,dW]at h1
  rw[hv,h1,jg,uA,<-iF,show n+(m-n)=m by omega]
  omega
def Yai{s:aU}{h:T O}{N:Nat}(hd:cN (bu s)=true)(hl:(bu s).length<=100000):Fn A.C 169 [.str s] h N (fun v h' n'=>In h' n' v (if cP s=true then -(aK (bu s):Int) else (aK (bu s):Int))):=by
 intro w
 rw[aV,A.k169 (by simp)]
 simp(disch:=first|(simp;done)|omega|(simp only[Zab,aq,ak];omega)|rfl) [-getElem?_pos,A.b169,Zrn,Zjg,aJ,aE,ag]
 refine c_ [(0,0),(5,7),(13,36)] _ (Uj h N (bu s)) (bu s).length ?_ (Yah hd hl (by simp)) ?_
 ·have kk:=(aI (aI (ae.refl (h:=h) (n:=N)) (.cells [.int .i64 0,.aa] 108 true)) (.cells [.int .i64 0,.aa] 108 true)).set (i:=N+1) (o:=.cells [.int .i64 0,.aa] 108 true) (by omega)
  exact⟨by simp[aD],kk,aZ _,by simp,bu s,0,0,.aa,by simp,rfl,aZ _,hd,by simp,In.small (by omega) (by omega),by simp⟩
 rintro e r ⟨h5,m5,W5⟩ hr ⟨rfl,hW,hK,hle,aM,cur,p,n1,u1,kR,dW,hms,oZ,g1,hp,hv⟩
 simp only at hW hK hle aM g1 hp
 have:cur=[]:=kJ dW
 subst this
 have hv:aK (bu s)=p:=by rw[hv];simp[aK]
 have lp:wl (p:Int)<=100000:=by rw[<-hv];exact sF (Iv (Bt hd)) hl
 obtain⟨_,_,e5,o5⟩:=hp.cells
 simp only[V.agg.injEq,gC,V.int.injEq,true_and,and_true]at e5
 obtain⟨rfl,rfl⟩:=e5
 unfold V.one at o5
 have mq:¬N<N:=by omega
 cases hn:cP s with
 |true=>
  simp(disch:=first|(simp;done)|omega|(simp only[Zab,aq,ak];omega)|rfl) [-getElem?_pos,hr,hn,g1,aJ,aE]
  refine az (My hp (by omega)) ?_
  rintro v h6 m6 k6 hv6
  obtain⟨n6,u6,rfl,o6⟩:=hv6.cells
  unfold V.one at o6
  have e0:=(k6.get N (by omega)).trans aM
  have vT:=k6.le
  simp(disch:=first|(simp;done)|omega|(simp only[Zab,aq,ak];omega)|rfl) [-getElem?_pos,hr,e0,o6,aJ,aE,ag,bE,aF,hW]
  exact⟨(hK.trans k6).set (aZ _),by rw[hv];exact hv6.aG e0 (by simp) rfl⟩
 |false=>
  simp(disch:=first|(simp;done)|omega|(simp only[Zab,aq,ak];omega)|rfl) [-getElem?_pos,hr,hn,g1,aM,o5,aJ,aE,ag,bE,aF,hW]
  exact⟨hK.set (aZ _),by rw[hv];exact hp.aG aM (by simp) rfl⟩
variable {N:Nat} {h:T O} {w:List Nat}
def A.w68:=A.q Tryz.f68
def A.rF:=A.ql A.w68 0 []
def A.b68:=(fun x0=>A.qb A.w68 [x0]) A.rF
def A.k68:=@A.kk 68 15 [.tmp 2] A.b68 (by kernel_rfl) rfl
def A.QK:=A.q Tryz.f188
def A.nv:=A.ql A.QK 0 []
def A.b188:=(fun x0=>A.qb A.QK [x0]) A.nv
def A.k188:=@A.kk 188 15 [.tmp 2] A.b188 (by kernel_rfl) rfl
def Zv5{v:V}{l:List Int}(hs:Sl h N v (dI l))(hl:l.length<1000):A.C.call (.func 68 [] []) [v] ⟨h,N,w⟩=some (.int .i64 (cY l),⟨h,N,w⟩):=by
 apply Call.eq
 have hlen:=hs.len
 rw[g_]at hlen
 rw[aV,A.k68 (by simp)]
 simp(disch:=first|(simp;done)|omega|(simp only[Zab,aq,ak];omega)|rfl) [-getElem?_pos,A.b68,hlen]
 refine c_ [(2,2),(4,4),(7,14)] (fun e r st=>st=⟨h,N,[]⟩/\((e=.exit 0/\cY l=0)\/(e=.ret/\r.get 2=some (.int .i64 (cY l))))) (fun m r st=>st=⟨h,N,[]⟩/\∃k,m=l.length-k/\k<=l.length/\r.get 7=some (.int .i64 k)/\cY l=cY (l.drop k)) l.length ?_ ?_ ?_
 ·exact⟨rfl,0,by omega,by omega,by simp,by simp⟩
 ·rintro m r _ hr hf ⟨rfl,k,rfl,hk,h7,hz⟩
  rw[dk]
  by_cases aP:k<l.length
  ·obtain⟨c,hc⟩:=fz aP
   obtain⟨i,o,cc,e,rw,q1,q2,q3,q4⟩:=hs.at (gQ hc)
   rw[qk hc,cY]at hz
   have ew:(k:Int)<(l.length:Int):=by omega
   by_cases h0:c=0
   ·rw[aQ h0]at hz
    simp(disch:=first|(simp;done)|omega|(simp only[Zab,aq,ak];omega)|rfl) [-getElem?_pos,A.rF,hr,hf,h7,ew,aP,hlen,q1,q3,q4,aL,h0]
    exact⟨_,by omega,k+1,rfl,by omega,by simp,hz⟩
   ·rw[aA h0]at hz
    simp(disch:=first|(simp;done)|omega|(simp only[Zab,aq,ak];omega)|rfl) [-getElem?_pos,A.rF,hr,hf,h7,ew,aP,hlen,q1,q3,q4,aL,h0,hz]
  ·have:l.drop k=[]:=zv (by omega)
   rw[this,cY]at hz
   have:k=l.length:=by omega
   subst this
   simp(disch:=first|(simp;done)|omega|(simp only[Zab,aq,ak];omega)|rfl) [-getElem?_pos,A.rF,hr,hf,h7,hlen,hz]
 ·rintro _ r _ hr ⟨rfl,⟨rfl,hz⟩|⟨rfl,h2⟩⟩
  ·simp(disch:=first|(simp;done)|omega|(simp only[Zab,aq,ak];omega)|rfl) [-getElem?_pos,hr,hz]
  ·simp(disch:=first|(simp;done)|omega|(simp only[Zab,aq,ak];omega)|rfl) [-getElem?_pos,hr,h2]
def Ya6{v:V}{l:List Int}(hs:Sl h N v (dI l))(hl:l.length<1000):A.C.call (.func 188 [] []) [v] ⟨h,N,w⟩=some (.int .i64 (cY l),⟨h,N,w⟩):=by
 apply Call.eq
 have hlen:=hs.len
 rw[g_]at hlen
 rw[aV,A.k188 (by simp)]
 simp(disch:=first|(simp;done)|omega|(simp only[Zab,aq,ak];omega)|rfl) [-getElem?_pos,A.b188,hlen]
 refine c_ [(2,2),(4,4),(7,14)] (fun e r st=>st=⟨h,N,[]⟩/\((e=.exit 0/\cY l=0)\/(e=.ret/\r.get 2=some (.int .i64 (cY l))))) (fun m r st=>st=⟨h,N,[]⟩/\∃k,m=l.length-k/\k<=l.length/\r.get 7=some (.int .i64 k)/\cY l=cY (l.drop k)) l.length ?_ ?_ ?_
 ·exact⟨rfl,0,by omega,by omega,by simp,by simp⟩
 ·rintro m r _ hr hf ⟨rfl,k,rfl,hk,h7,hz⟩
  rw[dk]
  by_cases aP:k<l.length
  ·obtain⟨c,hc⟩:=fz aP
   obtain⟨i,o,cc,e,rw,q1,q2,q3,q4⟩:=hs.at (gQ hc)
   rw[qk hc,cY]at hz
   have ew:(k:Int)<(l.length:Int):=by omega
   by_cases h0:c=0
   ·rw[aQ h0]at hz
    simp(disch:=first|(simp;done)|omega|(simp only[Zab,aq,ak];omega)|rfl) [-getElem?_pos,A.nv,hr,hf,h7,ew,aP,hlen,q1,q3,q4,aL,h0]
    exact⟨_,by omega,k+1,rfl,by omega,by simp,hz⟩
   ·rw[aA h0]at hz
    simp(disch:=first|(simp;done)|omega|(simp only[Zab,aq,ak];omega)|rfl) [-getElem?_pos,A.nv,hr,hf,h7,ew,aP,hlen,q1,q3,q4,aL,h0,hz]
  ·have:l.drop k=[]:=zv (by omega)
   rw[this,cY]at hz
   have:k=l.length:=by omega
   subst this
   simp(disch:=first|(simp;done)|omega|(simp only[Zab,aq,ak];omega)|rfl) [-getElem?_pos,A.nv,hr,hf,h7,hlen,hz]
 ·rintro _ r _ hr ⟨rfl,⟨rfl,hz⟩|⟨rfl,h2⟩⟩
  ·simp(disch:=first|(simp;done)|omega|(simp only[Zab,aq,ak];omega)|rfl) [-getElem?_pos,hr,hz]
  ·simp(disch:=first|(simp;done)|omega|(simp only[Zab,aq,ak];omega)|rfl) [-getElem?_pos,hr,h2]
def Kd{i:Nat}{a0 a1:Int}(hi:i<N):A.C.call (.func 188 [] []) [.slice i 0 2 (some 2) 1] ⟨h.set i (.cells [.int .i64 a0,.int .i64 a1] 31 true),N,w⟩=some (.int .i64 (cY [a0,a1]),⟨h.set i (.cells [.int .i64 a0,.int .i64 a1] 31 true),N,w⟩):=
 Ya6 (l:=[a0,a1]) (Sl.row (e:=31) (rw:=true) (cp:=some 2) hi (by simp[dI]) rfl (by simp)) (by simp)
def Lk{i:Nat}{a0 a1:Int}(hi:i<N):A.C.call (.func 68 [] []) [.slice i 0 2 (some 2) 1] ⟨h.set i (.cells [.int .i64 a0,.int .i64 a1] 31 true),N,w⟩=some (.int .i64 (cY [a0,a1]),⟨h.set i (.cells [.int .i64 a0,.int .i64 a1] 31 true),N,w⟩):=
 Zv5 (l:=[a0,a1]) (Sl.row (e:=31) (rw:=true) (cp:=some 2) hi (by simp[dI]) rfl (by simp)) (by simp)
end
end Go.Mx
