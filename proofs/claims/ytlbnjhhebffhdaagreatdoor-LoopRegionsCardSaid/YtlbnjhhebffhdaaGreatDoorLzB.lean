/-lensletlaw06-/
import Derived.Test.YtlbnjhhebffhdaaGreatDoorLwB
set_option linter.all false
set_option maxHeartbeats 8000000
namespace Go.Mx
open Go Go.Proofs
set_option maxRecDepth 1000000
def Ykq{H:T O}{M n B C P dn:Nat}{W:List Nat}{r:T V}{c:Bool}{qg ql qp a b o1 o2:Rat}(L:SL qg ql qp a b dn)(a1:a<=o1)(b1:o1<=b)(a2:a<=o2)(b2:o2<=b)(q1':Qb 40 o1)(q2':Qb 40 o2)(hc:c=true->∀x,a<=x->x<=b->Ax x ql qp dn=true)(hP:j_ H n)(hB:H.get B=some (.cells [.str (Zao qg),.str (Zao ql),.str (Zao qp),.int .i64 dn] 50 true))(Lj:B<n)(hC:H.get C=some (.cells [.str (Zao qg),.str (Zao ql),.str (Zao qp),.int .i64 dn] 48 true))(Dp:C<n)(hS:H.get P=some (.cells [.str (Zao a),.str (Zao b)] 32 true))(SS:P<n)(hW:aL M W=[])(hMn:M<=n)(r3:r.get 3=some (.ptr C 0))(r4:r.get 4=some (.ptr P 0))(r7:r.get 7=some (.ptr B 0))(r9:r.get 9=some (.str (Zao o1)))(oh:r.get 10=some (.str (Zao o2)))(r11:r.get 11=some (.bool c)):
  Code A.C none A.yQ ⟨r,247,[]⟩ ⟨H,n,W⟩ (fun e fr st=>Lg M e fr st H n):=by
 rw[cn]
 have hd:=L.d
 have bl:Qb 40 ql:=L.bl.mono (by decide)
 have bp:Qb 40 qp:=L.bp.mono (by decide)
 have q1:Qb 40 (1:Rat):=(Qb.int (z:=1) (k:=40) (by decide) (by decide))
 have hx:∀x∈[a,o1,o2,b],Qb 40 x/\0<=x/\a<=x/\x<=b:=fun x hx=>by
  have h0:=L.a0
  have jb:=L.ab
  simp only[kV,List.not_mem_nil,or_false]at hx
  rcases hx with rfl|rfl|rfl|rfl
  ·exact⟨L.ba.mono (by decide),h0,Rat.le_refl,jb⟩
  ·exact⟨q1',by grind,a1,b1⟩
  ·exact⟨q2',by grind,a2,b2⟩
  ·exact⟨L.bb.mono (by decide),by grind,jb,Rat.le_refl⟩
 simp(disch:=first|(simp;done)|omega|rfl) [-getElem?_pos,A.yQ,r4,r9,oh,hS,SS,aj,b_.chk,aI,aK]
 have kA:ah H n (H.set n (.cells [.str (Zao a),.str (Zao o1),.str (Zao o2),.str (Zao b)] 30 true)) (n+1):=ah.refl.new _
 have s0:Sl (H.set n (.cells [.str (Zao a),.str (Zao o1),.str (Zao o2),.str (Zao b)] 30 true)) (n+1) (.slice n 0 4 (some 4) 1) (tx [a,o1,o2,b]):=Sl.row (e:=30) (rw:=true) (cp:=some 4) (by omega) (by simp[tx,strs]) rfl (by simp)
 generalize H.set n (.cells [.str (Zao a),.str (Zao o1),.str (Zao o2),.str (Zao b)] 30 true)=HA at*
 have hB':=(kA.get B Lj).trans hB
 have hC':=(kA.get C Dp).trans hC
 refine Zal [(6,6),(16,21),(126,178)] (fun e r st=>e=.exit 0/\aL M st.w=[]/\ah HA (n+1) st.h st.n) (fun j r st=>aL M st.w=[]/\ah HA (n+1) st.h st.n/\∃t:Nat,t+j=4/\r.get 126=some (.int .i64 t)) 4 ?_ ?_ ?_
 ·exact⟨by simpa using hW,ah.refl,0,by omega,by simp⟩
 ·rintro j r' ⟨H2,n2,W2⟩ hr hf ⟨dX,hK2,t,ht,m8⟩
  simp only at dX hK2
  rw[cn]
  have oH:=hK2.le
  by_cases h4:t<4
  ·have h4':(t:Int)<4:=by omega
   have ex:[a,o1,o2,b][t]?=some (pg [a,o1,o2,b] t):=iy h4
   obtain⟨qx,x0,xa,xb⟩:=hx _ (eI ex)
   generalize pg [a,o1,o2,b] t=x at*
   obtain⟨i,o,cc,e,yL,w1,w2,w3,w4⟩:=(s0.ai hK2).at (Ykf ex)
   simp only[wQ,au,bE]at w1
   obtain⟨rfl,rfl⟩:=w1
   rw[oJ]at w4
   have SU:=(hK2.get B (by omega)).trans hB'
   have zd4:B<n2:=by omega
   have zfC:=vE qx
   simp(disch:=first|(simp;done)|omega|rfl) [-getElem?_pos,A.yO,hr,hf,m8,h4',r7,w2,w3,w4,SU,zd4,aI,aK]
   refine av (Ybp (g:=Zao qg) (l:=Zao ql) (p:=Zao qp) (D:=(dn:Int)) (x:=Zao x)) ?_
   rintro _ h7 N7 k7 rfl
   simp(disch:=first|(simp;done)|omega|rfl) [-getElem?_pos,]
   refine av (Zp0 (hP.ai ((kA.trans hK2).trans k7)) qx bl bp x0 L.l0 L.l1 L.p0 (by omega)) ?_
   rintro _ h8 N8 k8 ⟨y,rfl,sy⟩
   simp(disch:=first|(simp;done)|omega|rfl) [-getElem?_pos,a_]
   refine av (Ycx sy qx bl bp (by omega)) ?_
   rintro _ h9 N9 k9 rfl
   simp(disch:=first|(simp;done)|omega|rfl) [-getElem?_pos,a_]
   refine av (Zwn (sy.ai k9) qx bl bp hd) ?_
   rintro _ hh9 NN9 kk9 rfl
   have K9:=(((hK2.trans k7).trans k8).trans k9).trans kk9
   have le9:=K9.le
   have Lk:=(K9.get C (by omega)).trans hC'
   have wR:C<NN9:=by omega
   cases dM:Ax x ql qp dn with
   |true=>
    cases c with
    |true=>
     simp(disch:=first|(simp;done)|omega|rfl) [-getElem?_pos,hr,hf,r3,r11,a_,Lk,wR,aI,aK]
     refine av (NF bl qx (by decide) (by decide) (by omega)) ?_
     rintro _ jR NG k11 rfl
     have qs:=bl.sub qx
     have tsb:=SN qs
     have ab:=fun st=>Zuo (q:=ql-x) (st:=st) (by omega)
     have m_:=(k11.get C wR).trans Lk
     have zjq:C<NG:=by have:=k11.le;omega
     have yS:=K9.trans k11
     by_cases d0:dn=0
     ·have vG:(dn:Int)=0:=by omega
      by_cases p0:qp=0
      ·have pz:Zao qp=[48]:=by rw[p0];exact xI
       simp(disch:=first|(simp;done)|omega|rfl) [-getElem?_pos,ab,hr,hf,r3,m_,zjq,d0,vG,pz,a_,aI,aK]
       rw[<-Li]
       refine av (KX (yH qs) q1 (by decide) (by decide) (by rw[Li];decide)) ?_
       rintro _ yU N12 k12 rfl
       have sd:=@Zt6 x ql
       rw[d0,p0]at dM
       rw[dM]at sd
       by_cases ha:zgb (ql-x)<1
       ·have sa:=KV.2 ha
        simp(disch:=first|(simp;done)|omega|rfl) [-getElem?_pos,hr,hf,m8,sa,a_]
        exact⟨j-1,by omega,dX,yS.trans k12,t+1,by omega,by simp⟩
       ·have sa:=mt KV.1 ha
        exact absurd (sd.1 rfl) ha
      ·have pz:¬Zao qp=[48]:=fun h=>p0 (Zh8 (by rw[h,xI]))
       have NH:(Zao qp==[48])=false:=by simpa using pz
       simp(disch:=first|(simp;done)|omega|rfl) [-getElem?_pos,ab,hr,hf,r3,m_,zjq,m8,d0,vG,pz,NH,a_,aI,aK]
       exact⟨j-1,by omega,dX,yS,t+1,by omega,by simp⟩
     ·have vG:¬(dn:Int)=0:=by omega
      simp(disch:=first|(simp;done)|omega|rfl) [-getElem?_pos,ab,hr,hf,r3,m_,zjq,m8,d0,vG,a_,aI,aK]
      exact⟨j-1,by omega,dX,yS,t+1,by omega,by simp⟩
    |false=>
     simp(disch:=first|(simp;done)|omega|rfl) [-getElem?_pos,hr,hf,r3,r11,a_,Lk,wR,aI,aK]
     refine av (NF bl qx (by decide) (by decide) (by omega)) ?_
     rintro _ jR NG k11 rfl
     have qs:=bl.sub qx
     have tsb:=SN qs
     have ab:=fun st=>Zuo (q:=ql-x) (st:=st) (by omega)
     have m_:=(k11.get C wR).trans Lk
     have zjq:C<NG:=by have:=k11.le;omega
     have yS:=K9.trans k11
     by_cases d0:dn=0
     ·have vG:(dn:Int)=0:=by omega
      by_cases p0:qp=0
      ·have pz:Zao qp=[48]:=by rw[p0];exact xI
       simp(disch:=first|(simp;done)|omega|rfl) [-getElem?_pos,ab,hr,hf,r3,m_,zjq,d0,vG,pz,a_,aI,aK]
       rw[<-Li]
       refine av (KX (yH qs) q1 (by decide) (by decide) (by rw[Li];decide)) ?_
       rintro _ yU N12 k12 rfl
       have sd:=@Zt6 x ql
       rw[d0,p0]at dM
       rw[dM]at sd
       by_cases ha:zgb (ql-x)<1
       ·have sa:=KV.2 ha
        simp(disch:=first|(simp;done)|omega|rfl) [-getElem?_pos,hr,hf,m8,sa,a_]
        exact⟨j-1,by omega,dX,yS.trans k12,t+1,by omega,by simp⟩
       ·have sa:=mt KV.1 ha
        exact absurd (sd.1 rfl) ha
      ·have pz:¬Zao qp=[48]:=fun h=>p0 (Zh8 (by rw[h,xI]))
       have NH:(Zao qp==[48])=false:=by simpa using pz
       simp(disch:=first|(simp;done)|omega|rfl) [-getElem?_pos,ab,hr,hf,r3,m_,zjq,m8,d0,vG,pz,NH,a_,aI,aK]
       exact⟨j-1,by omega,dX,yS,t+1,by omega,by simp⟩
     ·have vG:¬(dn:Int)=0:=by omega
      simp(disch:=first|(simp;done)|omega|rfl) [-getElem?_pos,ab,hr,hf,r3,m_,zjq,m8,d0,vG,a_,aI,aK]
      exact⟨j-1,by omega,dX,yS,t+1,by omega,by simp⟩
   |false=>
    cases c with
    |true=>exact absurd (hc rfl x xa xb) (by rw[dM];decide)
    |false=>
     simp(disch:=first|(simp;done)|omega|rfl) [-getElem?_pos,hr,hf,r3,r11,a_,Lk,wR,aI,aK]
     refine av (NF bl qx (by decide) (by decide) (by omega)) ?_
     rintro _ jR NG k11 rfl
     have qs:=bl.sub qx
     have tsb:=SN qs
     have ab:=fun st=>Zuo (q:=ql-x) (st:=st) (by omega)
     have m_:=(k11.get C wR).trans Lk
     have zjq:C<NG:=by have:=k11.le;omega
     have yS:=K9.trans k11
     by_cases d0:dn=0
     ·have vG:(dn:Int)=0:=by omega
      by_cases p0:qp=0
      ·have pz:Zao qp=[48]:=by rw[p0];exact xI
       simp(disch:=first|(simp;done)|omega|rfl) [-getElem?_pos,ab,hr,hf,r3,m_,zjq,d0,vG,pz,a_,aI,aK]
       rw[<-Li]
       refine av (KX (yH qs) q1 (by decide) (by decide) (by rw[Li];decide)) ?_
       rintro _ yU N12 k12 rfl
       have sd:=@Zt6 x ql
       rw[d0,p0]at dM
       rw[dM]at sd
       by_cases ha:zgb (ql-x)<1
       ·have sa:=KV.2 ha
        exact absurd (sd.2 ha) (by decide)
       ·have sa:=mt KV.1 ha
        simp(disch:=first|(simp;done)|omega|rfl) [-getElem?_pos,hr,hf,m8,sa,a_]
        exact⟨j-1,by omega,dX,yS.trans k12,t+1,by omega,by simp⟩
      ·have pz:¬Zao qp=[48]:=fun h=>p0 (Zh8 (by rw[h,xI]))
       have NH:(Zao qp==[48])=false:=by simpa using pz
       simp(disch:=first|(simp;done)|omega|rfl) [-getElem?_pos,ab,hr,hf,r3,m_,zjq,m8,d0,vG,pz,NH,a_,aI,aK]
       exact⟨j-1,by omega,dX,yS,t+1,by omega,by simp⟩
     ·have vG:¬(dn:Int)=0:=by omega
      simp(disch:=first|(simp;done)|omega|rfl) [-getElem?_pos,ab,hr,hf,r3,m_,zjq,m8,d0,vG,a_,aI,aK]
      exact⟨j-1,by omega,dX,yS,t+1,by omega,by simp⟩
  ·have h4':¬(t:Int)<4:=by omega
   simp(disch:=first|(simp;done)|omega|rfl) [-getElem?_pos,A.yO,hr,hf,m8,h4']
   exact⟨dX,hK2⟩
 ·rintro _ r' ⟨H2,n2,W2⟩ hr ⟨rfl,dX,hK2⟩
  simp only at dX hK2
  have oH:=hK2.le
  have K2:=kA.trans hK2
  simp(disch:=first|(simp;done)|omega|rfl) [-getElem?_pos,hr]
  refine nc (Yp8 (M:=M) (B:=B) (C:=C) L (hP.ai K2) ((K2.get B Lj).trans hB) (by omega) ((K2.get C Dp).trans hC) (by omega) dX (by omega) (by simp[hr,r3]) (by simp[hr,r7])) ?_
  intro e fr st hq
  simp(disch:=first|(simp;done)|omega|rfl) [-getElem?_pos,]
  exact hq.trans K2
def Yat{g l p:bj}{D:Int}{n dd:Nat}{h:T O}{N:Nat}(hg:g.length<9223372036854775808)(hl:l.length<9223372036854775808)(hp:p.length<9223372036854775808)(hc:¬(g.length<=40/\l.length<=40/\p.length<=40)):Fn A.C 24 [.agg [.str g,.str l,.str p,.int .i64 D],.int .i64 (dd:Nat),.int .i64 (n:Nat)] h N (fun u _ _=>u=.bool false):=by
 intro w
 have kB:ah h N (h.set N (.cells [.str g,.str l,.str p,.int .i64 D] 50 true)) (N+1):=ah.refl.new _
 have b0:(h.set N (.cells [.str g,.str l,.str p,.int .i64 D] 50 true)).get N=some (.cells [.str g,.str l,.str p,.int .i64 D] 50 true):=by simp
 rw[aZ,A.k24 (by simp)]
 simp(disch:=first|(simp;done)|omega|rfl) [-getElem?_pos,A.b24,aI,aK]
 generalize h.set N (.cells [.str g,.str l,.str p,.int .i64 D] 50 true)=HB at*
 refine av (Zwu hg hl hp) ?_
 rintro _ h1 n1 k1 rfl
 rw[decide_eq_false hc]
 simp(disch:=first|(simp;done)|omega|rfl) [-getElem?_pos,Ret]
 exact kB.trans k1
variable {a b:Rat}
def BP(a b:Rat)(t:Nat):Rat:=a+(b-a)*((t:Rat)/((255:Nat):Rat))
def NL{t:Nat}(ht:t<=255):Qb 8 ((t:Rat)/((255:Nat):Rat)):=by
 have h:=Ye8 (a:=(t:Int)) (m:=255) (by decide)
 have e:(2:Nat)^8=256:=by decide
 have h2:=h.2.1
 have h3:=h.2.2
 have h4:=th 255 (Nat.gcd (t:Int).natAbs 255)
 rw[<-SM]
 unfold Qb
 rw[e]
 exact⟨by simp only[eA]at h2;omega,by omega⟩
def Yks{t:Nat}(qa:Qb 10 a)(qb:Qb 10 b)(ht:t<=255):Qb 40 (BP a b t):=
 (qa.add ((qb.sub qa).mul (NL ht))).mono (by decide)
def Yt1:((255:Nat):Rat)=255:=rfl
def w01{t:Nat}(ht:t<=255):(0:Rat)<=(t:Rat)/((255:Nat):Rat)/\(t:Rat)/((255:Nat):Rat)<=1:=by
 have h1:((0:Nat):Rat)<=(t:Rat):=Rat.natCast_le_natCast.2 (by omega)
 have h2:(t:Rat)<=((255:Nat):Rat):=Rat.natCast_le_natCast.2 ht
 have h0:((0:Nat):Rat)=0:=rfl
 rw[h0]at h1
 rw[Yt1]at h2 ⊢
 constructor<;>grind
def Ypu{s t:Nat}(h:s<=t):(s:Rat)/((255:Nat):Rat)<=(t:Rat)/((255:Nat):Rat):=by
 have h2:(s:Rat)<=(t:Rat):=Rat.natCast_le_natCast.2 h
 rw[Yt1]
 grind
def Yh0{s t:Nat}(jb:a<=b)(h:s<=t):BP a b s<=BP a b t:=by
 have:=iK (d:=b-a) (by grind) (Ypu h)
 unfold BP
 grind
def Ykt{t:Nat}(jb:a<=b)(ht:t<=255):a<=BP a b t/\BP a b t<=b:=by
 obtain⟨h1,h2⟩:=w01 ht
 have m1:=iK (d:=b-a) (by grind) h1
 have m2:=iK (d:=b-a) (by grind) h2
 unfold BP
 constructor<;>grind
def Yoq{K:Nat}(qa:Qb K a)(qb:Qb K b)(hK:K<=1800)(a0:0<=a)(ab:a<=b):nY (Zao a) (Zao b)=0:=by
 have ca:gV [Zao a,Zao b]=0:=Ye4 fun y hy=>by
  simp only[Yw1,tV,kV,List.not_mem_nil,or_false]at hy
  rcases hy with rfl|rfl
  ·rw[ND qa hK];rfl
  ·rw[ND qb hK];rfl
 have cs:lS (Zao a) (Zao b)=0:=by rw[lS,aR ca,og,og,aA (Rat.not_lt.2 ab)]
 rw[nY,aR cs,og,aA (Rat.not_lt.2 a0)]
def Zya{h:T O}{N dn:Nat}{qg ql qp:Rat}(bg:Qb 40 qg)(bl:Qb 40 ql)(bp:Qb 40 qp)(qa:Qb 40 a)(qb:Qb 40 b)(g0:0<=qg)(l0:0<=ql)(l1:ql<=1)(p0:0<=qp)(a0:0<=a)(ab:a<=b)(hd:dn<=2):Fn A.C 31 [.agg [.str (Zao qg),.str (Zao ql),.str (Zao qp),.int .i64 dn],.agg [.str (Zao a),.str (Zao b)]] h N (fun v _ _=>v=.aX [.bool (Zo0 (dn+3) (jg ql qp dn a b)),.int .i64 0]):=by
 have ck:=Zv1 (dn:=dn) bg bl bp (by decide) g0 l0 l1 p0 (by omega)
 have cg:=Yoq qa qb (by decide) a0 ab
 have hp:5^(dn+2)<=5^4:=Ywo (by decide) (by omega)
 have h5:(5:Nat)^4=625:=by decide
 refine Fn.imp (Yhz (k:=40) (vE bg) (vE bl) (vE bp) (vE qa) (vE qb) (by decide) (by decide) (fun _=>⟨ql,qp,a,b,dn,rfl,rfl,rfl,rfl,rfl,og _,og _,og _,og _,bl,bp,qa,qb,by omega,by omega⟩)) fun v h' n' hv=>?_
 rw[hv,ck,cg,og,og,og,og,Int.toNat_natCast]
 rfl
def Yp7{H:T O}{M n B C P dn:Nat}{W:List Nat}{r:T V}{qg ql qp a b o1 o2:Rat}(L:SL qg ql qp a b dn)(a1:a<=o1)(o12:o1<=o2)(b2:o2<=b)(q1:Qb 40 o1)(q2:Qb 40 o2)(hP:j_ H n)(hB:H.get B=some (.cells [.str (Zao qg),.str (Zao ql),.str (Zao qp),.int .i64 dn] 50 true))(Lj:B<n)(hC:H.get C=some (.cells [.str (Zao qg),.str (Zao ql),.str (Zao qp),.int .i64 dn] 48 true))(Dp:C<n)(hS:H.get P=some (.cells [.str (Zao a),.str (Zao b)] 32 true))(SS:P<n)(hW:aL M W=[])(hMn:M<=n)(r3:r.get 3=some (.ptr C 0))(r4:r.get 4=some (.ptr P 0))(r7:r.get 7=some (.ptr B 0))(r9:r.get 9=some (.str (Zao o1)))(oh:r.get 10=some (.str (Zao o2))):
  Code A.C none A.yR ⟨r,247,[]⟩ ⟨H,n,W⟩ (fun e fr st=>Lg M e fr st H n):=by
 rw[cn]
 have hd:=L.d
 have bl:Qb 40 ql:=L.bl.mono (by decide)
 have bp:Qb 40 qp:=L.bp.mono (by decide)
 have bg:Qb 40 qg:=L.bg.mono (by decide)
 have qa:Qb 40 a:=L.ba.mono (by decide)
 have qb:Qb 40 b:=L.bb.mono (by decide)
 have a0:=L.a0
 simp(disch:=first|(simp;done)|omega|rfl) [-getElem?_pos,A.yR,r3,r4,hC,Dp,hS,SS,aI,aK]
 refine av (Zya bg bl bp qa qb L.g0 L.l0 L.l1 L.p0 a0 L.ab hd) ?_
 rintro _ h1 n1 k1 rfl
 have xF:=k1.le
 have hC1:=(k1.get C Dp).trans hC
 have zd5:C<n1:=by omega
 simp(disch:=first|(simp;done)|omega|rfl) [-getElem?_pos,r3,r9,oh,hC1,zd5,aj,aI,aK]
 refine av (Zya bg bl bp q1 q2 L.g0 L.l0 L.l1 L.p0 (by grind) o12 hd) ?_
 rintro _ h2 n2 k2 rfl
 have K2:=k1.trans k2
 have oH:=K2.le
 have hP2:=hP.ai K2
 have SU:=(K2.get B Lj).trans hB
 have hC2:=(K2.get C Dp).trans hC
 have hS2:=(K2.get P SS).trans hS
 cases hc:Zo0 (dn+3) (jg ql qp dn a b)with
 |true=>
  have yX:=Yf7 a1 o12 b2 hc
  rw[yX]
  simp(disch:=first|(simp;done)|omega|rfl) [-getElem?_pos,a_]
  refine nc (Ykq (M:=M) (B:=B) (C:=C) (P:=P) (c:=true) L a1 (by grind) (by grind) b2 q1 q2 (fun _ x xa xb=>Yf6 xa xb hc) hP2 SU (by omega) hC2 (by omega) hS2 (by omega) (by simpa using hW) (by omega) (by simp[r3]) (by simp[r4]) (by simp[r7]) (by simp[r9]) (by simp[oh]) (by simp)) ?_
  intro e fr st hq
  simp(disch:=first|(simp;done)|omega|rfl) [-getElem?_pos,]
  exact hq.trans K2
 |false=>
  simp(disch:=first|(simp;done)|omega|rfl) [-getElem?_pos,a_]
  refine nc (Ykq (M:=M) (B:=B) (C:=C) (P:=P) (c:=false) L a1 (by grind) (by grind) b2 q1 q2 (fun h=>by cases h) hP2 SU (by omega) hC2 (by omega) hS2 (by omega) (by simpa using hW) (by omega) (by simp[r3]) (by simp[r4]) (by simp[r7]) (by simp[r9]) (by simp[oh]) (by simp)) ?_
  intro e fr st hq
  simp(disch:=first|(simp;done)|omega|rfl) [-getElem?_pos,]
  exact hq.trans K2
def Iq{s:bj}(h:pU s 3=true):aV s=0/\Qb 10 (aY s):=by
 simp only[pU,Nk,jc,decide_eq_true_eq]at h
 obtain⟨_,h1,h2,h3⟩:=h
 rw[yK (by decide)]at h2 h3
 have e:(10:Nat)^3<2^10:=by decide
 exact⟨h1,by omega,by omega⟩
def Yp5{g l p lo hi:bj}{D:Int}(c0:gT g l p D=0)(cf:wO [g,l,p] 3 3=true)(cd:D<=2)(cg:nY lo hi=0)(cs:BF lo hi 3=true):∃(qg ql qp a b:Rat) (dn:Nat),g=Zao qg/\l=Zao ql/\p=Zao qp/\lo=Zao a/\hi=Zao b/\D=(dn:Int)/\SL qg ql qp a b dn:=by
 obtain⟨cg',cl',cp',dn,rfl,dl,x0,x1,x2,x3⟩:=Yt0 c0
 simp only[wO,List.all_cons,List.all_nil,Bool.and_true,jc]at cf
 obtain⟨_,f1,f2,f3⟩:=cf
 simp only[BF,jc,decide_eq_true_eq]at cs
 obtain⟨s1,s2,s3⟩:=cs
 have e0:gV [lo,hi]=0:=by
  by_cases z:gV [lo,hi]=0
  ·exact z
  ·rw[lS,aA z]at s3;exact s3
 have y1:¬aY hi<aY lo:=fun hc=>by rw[lS,aR e0,aR hc]at s3;omega
 have y2:¬aY lo<0:=fun hc=>by rw[nY,aR s3,aR hc]at cg;omega
 exact⟨aY g,aY l,aY p,aY lo,aY hi,dn,(kr cg').1.symm,(kr cl').1.symm,(kr cp').1.symm,(kr (Iq s1).1).1.symm,(kr (Iq s2).1).1.symm,rfl,⟨(Iq f1).2,(Iq f2).2,(Iq f3).2,(Iq s1).2,(Iq s2).2,by omega,Rat.not_lt.1 x0,Rat.not_lt.1 x1,Rat.not_lt.1 x2,Rat.not_lt.1 x3,Rat.not_lt.1 y2,Rat.not_lt.1 y1⟩⟩
variable {s:Nat}
def mn8{t:Nat}:yY [.int .u8 s,.int .u8 t]=some (.int .u8 (min s t:Nat)):=by
 have h:yY [.int .u8 s,.int .u8 t]=some (.int .u8 (if (t:Int)<s then t else s)):=rfl
 rw[h]
 congr 2
 split<;>omega
def mx8{t:Nat}:xP [.int .u8 s,.int .u8 t]=some (.int .u8 (max s t:Nat)):=by
 have h:xP [.int .u8 s,.int .u8 t]=some (.int .u8 (if (s:Int)<t then t else s)):=rfl
 rw[h]
 congr 2
 split<;>omega
def Zy5{h:T O}{N t:Nat}{g l p lo hi:bj}{D:Int}(hP:j_ h N)(hg:g.length<9223372036854775808)(hl:l.length<9223372036854775808)(hp:p.length<9223372036854775808)(ha:lo.length<9223372036854775808)(hb:hi.length<9223372036854775808)(hs:s<=255)(ht:t<=255):Fn A.C 4 [.agg [.str g,.str l,.str p,.int .i64 D],.agg [.str lo,.str hi],.agg [.int .u8 s,.int .u8 t]] h N (fun x _ _=>x=.bool true):=by
 intro w
 rw[aZ,A.k4 (by simp)]
 have kB:ah h N (((((h.set N (.cells [.str g,.str l,.str p,.int .i64 D] 48 true)).set (N+1) (.cells [.str lo,.str hi] 32 true)).set (N+1+1) (.cells [.int .u8 s,.int .u8 t] 49 true)).set (N+1+1+1) (.cells [.str [],.str [],.str [],.int .i64 0] 50 true)).set (N+1+1+1) (.cells [.str g,.str l,.str p,.int .i64 D] 50 true)) (N+1+1+1+1):=((((ah.refl.new _).new _).new _).new _).set (by omega)
 have hA:=fun w=>Nf (w:=w) (hP.ai kB)
 have b0:(((((h.set N (.cells [.str g,.str l,.str p,.int .i64 D] 48 true)).set (N+1) (.cells [.str lo,.str hi] 32 true)).set (N+1+1) (.cells [.int .u8 s,.int .u8 t] 49 true)).set (N+1+1+1) (.cells [.str [],.str [],.str [],.int .i64 0] 50 true)).set (N+1+1+1) (.cells [.str g,.str l,.str p,.int .i64 D] 50 true)).get N=some (.cells [.str g,.str l,.str p,.int .i64 D] 48 true):=by simp
 have b1:(((((h.set N (.cells [.str g,.str l,.str p,.int .i64 D] 48 true)).set (N+1) (.cells [.str lo,.str hi] 32 true)).set (N+1+1) (.cells [.int .u8 s,.int .u8 t] 49 true)).set (N+1+1+1) (.cells [.str [],.str [],.str [],.int .i64 0] 50 true)).set (N+1+1+1) (.cells [.str g,.str l,.str p,.int .i64 D] 50 true)).get (N+1)=some (.cells [.str lo,.str hi] 32 true):=by simp
 have b2:(((((h.set N (.cells [.str g,.str l,.str p,.int .i64 D] 48 true)).set (N+1) (.cells [.str lo,.str hi] 32 true)).set (N+1+1) (.cells [.int .u8 s,.int .u8 t] 49 true)).set (N+1+1+1) (.cells [.str [],.str [],.str [],.int .i64 0] 50 true)).set (N+1+1+1) (.cells [.str g,.str l,.str p,.int .i64 D] 50 true)).get (N+1+1)=some (.cells [.int .u8 s,.int .u8 t] 49 true):=by simp
 have b3:(((((h.set N (.cells [.str g,.str l,.str p,.int .i64 D] 48 true)).set (N+1) (.cells [.str lo,.str hi] 32 true)).set (N+1+1) (.cells [.int .u8 s,.int .u8 t] 49 true)).set (N+1+1+1) (.cells [.str [],.str [],.str [],.int .i64 0] 50 true)).set (N+1+1+1) (.cells [.str g,.str l,.str p,.int .i64 D] 50 true)).get (N+1+1+1)=some (.cells [.str g,.str l,.str p,.int .i64 D] 50 true):=by simp
 have f0i:N<N+1+1+1+1:=by omega
 have Ln:N+1<N+1+1+1+1:=by omega
 have f2i:N+1+1<N+1+1+1+1:=by omega
 have f3i:N+1+1+1<N+1+1+1+1:=by omega
 simp(disch:=first|(simp;done)|omega|rfl) [-getElem?_pos,A.b4,aI,aK,aj,bM]
 generalize (((((h.set N (.cells [.str g,.str l,.str p,.int .i64 D] 48 true)).set (N+1) (.cells [.str lo,.str hi] 32 true)).set (N+1+1) (.cells [.int .u8 s,.int .u8 t] 49 true)).set (N+1+1+1) (.cells [.str [],.str [],.str [],.int .i64 0] 50 true)).set (N+1+1+1) (.cells [.str g,.str l,.str p,.int .i64 D] 50 true))=hB at*
 by_cases cS:g.length<=40/\l.length<=40/\p.length<=40
 ·have fl:=Yas (h:=hB) (N:=N+1+1+1+1) (D:=D) (dd:=3) (n:=2) cS.1 cS.2.1 cS.2.2 (by decide) (by decide)
  simp(disch:=first|(simp;done)|omega|rfl) [-getElem?_pos,hA,b3,aI,aK]
  refine av fl ?_
  rintro _ h1 n1 k1 rfl
  have xF:=k1.le
  have NM:=fun w=>Nf (w:=w) (hP.ai (kB.trans k1))
  by_cases c0:gT g l p D=0/\wO [g,l,p] 3 3=true/\D<=2
  ·rw[decide_eq_true c0.1,c0.2.1,decide_eq_true (show D<=((2:Nat):Int) from c0.2.2),Bool.true_and,Bool.true_and]
   have g0:=(k1.get N f0i).trans b0
   have g1:=(k1.get (N+1) Ln).trans b1
   have e0:N<n1:=by omega
   have e1:N+1<n1:=by omega
   by_cases ca:lo.length<=40
   ·have SY:¬(40:Int)<(lo.length:Int):=by omega
    by_cases cb:hi.length<=40
    ·have cb':¬(40:Int)<(hi.length:Int):=by omega
     simp(disch:=first|(simp;done)|omega|rfl) [-getElem?_pos,SY,cb',g0,g1,e0,e1,aI,aK]
     refine av (Ycp (lo:=lo) (hi:=hi) (by omega) (by omega)) ?_
     rintro _ h2 n2 k2 rfl
     have oH:=k2.le
     have K2:=k1.trans k2
     have hA2:=fun w=>Nf (w:=w) (hP.ai (kB.trans K2))
     have g12:=(K2.get (N+1) Ln).trans b1
     have e12:N+1<n2:=by omega
     by_cases cg:nY lo hi=0
     ·simp(disch:=first|(simp;done)|omega|rfl) [-getElem?_pos,cg,a_,g12,e12,aI,aK]
      refine av (Yar (lo:=lo) (hi:=hi) (d:=3) (by omega) (by omega) (by decide)) ?_
      rintro _ h3 n3 k3 rfl
      have KU:=k3.le
      have K3:=K2.trans k3
      have hA3:=fun w=>Nf (w:=w) (hP.ai (kB.trans K3))
      by_cases cs:BF lo hi 3=true
      ·rw[cs]
       have g13:=(K3.get (N+1) Ln).trans b1
       have Ns:N+1<n3:=by omega
       obtain⟨qg,ql,qp,a,b,dn,rfl,rfl,rfl,rfl,rfl,rfl,L⟩:=Yp5 c0.1 c0.2.1 c0.2.2 cg cs
       simp(disch:=first|(simp;done)|omega|rfl) [-getElem?_pos,g13,Ns,aI,aK]
       refine av (NF L.bb L.ba (by decide) (by decide) (by omega)) ?_
       rintro _ h4 n4 k4 rfl
       have le4:=k4.le
       have K4:=K3.trans k4
       have g14:=(K4.get (N+1) Ln).trans b1
       have g24:=(K4.get (N+1+1) f2i).trans b2
       have e14:N+1<n4:=by omega
       have e24:N+1+1<n4:=by omega
       have qw:=L.bb.sub L.ba
       have SZ:min s t<=255:=by omega
       have S0:max s t<=255:=by omega
       have of1:∀st:St,A.C.call (.func 30 [] []) [.int .i64 (min s t:Nat),.int .i64 255] st=some (.str (Zao (((min s t:Nat):Rat)/((255:Nat):Rat))),st):=fun st=>by
        rw[<-SM]
        exact SR (a:=((min s t:Nat):Int)) (m:=255) (by decide) (by omega) (by omega) (by decide)
       have of2:∀st:St,A.C.call (.func 30 [] []) [.int .i64 (max s t:Nat),.int .i64 255] st=some (.str (Zao (((max s t:Nat):Rat)/((255:Nat):Rat))),st):=fun st=>by
        rw[<-SM]
        exact SR (a:=((max s t:Nat):Int)) (m:=255) (by decide) (by omega) (by omega) (by decide)
       have wr1:bA .i64 ((min s t:Nat):Int)=((min s t:Nat):Int):=cH (by omega) (by omega)
       have wr2:bA .i64 ((max s t:Nat):Int)=((max s t:Nat):Int):=cH (by omega) (by omega)
       simp(disch:=first|(simp;done)|omega|rfl) [-getElem?_pos,g14,e14,g24,e24,wU,mn8,wr1,of1,aI,aK]
       refine av (SP qw (NL SZ) (by decide) (by decide)) ?_
       rintro _ h5 n5 k5 rfl
       simp(disch:=first|(simp;done)|omega|rfl) [-getElem?_pos,]
       refine av (Zwc L.ba (qw.mul (NL SZ)) (by decide) (by decide)) ?_
       rintro _ h6 n6 k6 rfl
       have K6:=(K4.trans k5).trans k6
       have le6:=K6.le
       have g16:=(K6.get (N+1) Ln).trans b1
       have g26:=(K6.get (N+1+1) f2i).trans b2
       have e16:N+1<n6:=by omega
       have e26:N+1+1<n6:=by omega
       rw[show a+(b-a)*(((min s t:Nat):Rat)/255)=BP a b (min s t) from rfl]
       simp(disch:=first|(simp;done)|omega|rfl) [-getElem?_pos,g16,e16,g26,e26,o9,mx8,wr2,of2,aI,aK]
       refine av (SP qw (NL S0) (by decide) (by decide)) ?_
       rintro _ h7 n7 k7 rfl
       simp(disch:=first|(simp;done)|omega|rfl) [-getElem?_pos,]
       refine av (Zwc L.ba (qw.mul (NL S0)) (by decide) (by decide)) ?_
       rintro _ h8 n8 k8 rfl
       have K8:=(K6.trans k7).trans k8
       have le8:=K8.le
       rw[show a+(b-a)*(((max s t:Nat):Rat)/255)=BP a b (max s t) from rfl]
       simp(disch:=first|(simp;done)|omega|rfl) [-getElem?_pos,]
       refine nc (Yp7 (M:=N) (B:=N+1+1+1) (C:=N) (P:=N+1) L (Ykt L.ab SZ).1 (Yh0 L.ab (by omega)) (Ykt L.ab S0).2 (Yks L.ba L.bb SZ) (Yks L.ba L.bb S0) (hP.ai (kB.trans K8)) ((K8.get _ f3i).trans b3) (by omega) ((K8.get _ f0i).trans b0) (by omega) ((K8.get _ Ln).trans b1) (by omega) (by simp) (by omega) (by simp) (by simp) (by simp) (by simp) (by simp)) ?_
       rintro _ _ ⟨H,nn,WW⟩ ⟨rfl,r6',rfl,h6',hw,hk⟩
       simp only at hw hk
       simp(disch:=first|(simp;done)|omega|rfl) [-getElem?_pos,h6',hw,Ret]
       exact kB.trans (K8.trans hk)
      ·have AH:BF lo hi 3=false:=by simpa using cs
       rw[AH]
       simp(disch:=first|(simp;done)|omega|rfl) [-getElem?_pos,hA3,Ret]
       exact kB.trans K3
     ·simp(disch:=first|(simp;done)|omega|rfl) [-getElem?_pos,cg,hA2,a_,Ret]
      exact kB.trans K2
    ·have cb':(40:Int)<(hi.length:Int):=by omega
     simp(disch:=first|(simp;done)|omega|rfl) [-getElem?_pos,SY,cb',NM,g0,g1,e0,e1,aI,aK,Ret]
     exact kB.trans k1
   ·have SY:(40:Int)<(lo.length:Int):=by omega
    simp(disch:=first|(simp;done)|omega|rfl) [-getElem?_pos,SY,NM,g0,g1,e0,e1,aI,aK,Ret]
    exact kB.trans k1
  ·have cf:(decide (gT g l p D=0)&&(wO [g,l,p] 3 3&&decide (D<=((2:Nat):Int))))=false:=by
    cases x:(decide (gT g l p D=0)&&(wO [g,l,p] 3 3&&decide (D<=((2:Nat):Int))))with
    |false=>rfl
    |true=>
     simp only[jc,decide_eq_true_eq]at x
     exact absurd ⟨x.1,x.2.1,x.2.2⟩ c0
   rw[cf]
   simp(disch:=first|(simp;done)|omega|rfl) [-getElem?_pos,NM,Ret]
   exact kB.trans k1
 ·have fl:=Yat (h:=hB) (N:=N+1+1+1+1) (D:=D) (dd:=3) (n:=2) hg hl hp cS
  simp(disch:=first|(simp;done)|omega|rfl) [-getElem?_pos,hA,b3,aI,aK]
  refine av fl ?_
  rintro _ h1 n1 k1 rfl
  have NM:=fun w=>Nf (w:=w) (hP.ai (kB.trans k1))
  simp(disch:=first|(simp;done)|omega|rfl) [-getElem?_pos,NM,Ret]
  exact kB.trans k1
def Lo{f g:Nat->Rat}:∀{n:Nat},(∀k,k<n->f k<=g k)->sR f n<=sR g n
 |0,_=>Rat.le_refl
 |n+1,h=>by
  have h1:=Lo (n:=n) fun k hk=>h k (by omega)
  have h2:=h n (by omega)
  show sR f n+f n<=sR g n+g n
  grind
def Dt{f:Nat->Rat}{n:Nat}(h:∀k,k<n->0<=f k):0<=sR f n:=by
 induction n with
 |zero=>exact Rat.le_refl
 |succ n ih=>
  have h1:=ih fun k hk=>h k (by omega)
  have h2:=h n (by omega)
  show 0<=sR f n+f n
  grind
def RY(z:Int):Int:=if z<1\/3<z then 3 else 0
def nC(n:Nat):List V:=[.int .i64 (n:Nat),.ziA,.int .i64 1,.ziA]
def nxQ(p r:List Rat)(k:Nat):Rat:=if k<p.length-1 then pg r (p.length-2)*(-pg p k/pg p (p.length-1))+(if k=0 then 0 else pg r (k-1)) else 0
def nxR(p r:List Rat):List Rat:=(List.range 12).map (nxQ p r)
def abN(l:List Rat):Nat->Rat
 |0=>0
 |k+1=>abN l k+zgb (pg l k)
def unR(i:Nat):List Rat:=(List.range 12).map fun k=>if k=i then 1 else 0
def Ytx(p:List Rat)(i:Nat):Nat->List Rat
 |0=>unR i
 |n+1=>nxR p (Ytx p i n)
def Lp{c:Rat}:∀{n:Nat},sR (fun _=>c) n=(n:Rat)*c
 |0=>by
  show (0:Rat)=((0:Nat):Rat)*c
  rw[show ((0:Nat):Rat)=0 from rfl,Rat.zero_mul]
 |n+1=>by
  have ih:=Lp (c:=c) (n:=n)
  show sR (fun _=>c) n+c=_
  rw[ih,Rat.natCast_add,show ((1:Nat):Rat)=1 from rfl]
  grind
structure StH (a:List bj) (n:Int):Prop where
 la:a.length<=15
 fa:∀s∈a,s.length<=40
 f:ks a=0->wO a 6 4=true
 n:n<=8\/32<n
variable {n:Nat}
def Ycj{f g:Nat->Rat}:∀{n:Nat},sR (fun k=>f k+g k) n=sR f n+sR g n
 |0=>by show (0:Rat)=0+0;grind
 |n+1=>by
  have:=Ycj (f:=f) (g:=g) (n:=n)
  unfold sR
  grind
def yZ{f:Nat->Rat}{r:Rat}:∀{n:Nat},sR (fun k=>r*f k) n=r*sR f n
 |0=>by show (0:Rat)=r*0;grind
 |n+1=>by
  have:=yZ (f:=f) (r:=r) (n:=n)
  unfold sR
  grind
def aF(c:Nat->Rat)(n:Nat)(y:Nat->Rat)(m:Nat):Rat:=sR (fun j=>c (n-m+j)*y j) (m+1)
def bF(c:Nat->Rat)(y:Nat->Rat)(m:Nat):Rat:=sR (fun j=>c (m-j)*y j) (m+1)
def VF(c:Nat->Rat)(n:Nat)(y:Nat->Rat):Rat:=sR (fun m=>aF c n y m*aF c n y m-bF c y m*bF c y m) n
def Du(y:Nat->Rat)(j:Nat):Rat:=y (j+1)
def Yo7{c y:Nat->Rat}{m:Nat}(hm:m+1<=n):aF c n y (m+1)=c (n-m-1)*y 0+aF c n (Du y) m:=by
 unfold aF
 rw[<-HW (n:=m+1)]
 have e:sR (fun k=>c (n-(m+1)+(k+1))*y (k+1)) (m+1)=sR (fun j=>c (n-m+j)*Du y j) (m+1):=il fun k hk=>by
  rw[show n-(m+1)+(k+1)=n-m+k by omega]
  rfl
 rw[e,mY,show n-(m+1)=n-m-1 by omega]
 grind
def Yo0{c y:Nat->Rat}{m:Nat}:bF c y (m+1)=c (m+1)*y 0+bF c (Du y) m:=by
 unfold bF
 rw[<-HW (n:=m+1)]
 have e:sR (fun k=>c (m+1-(k+1))*y (k+1)) (m+1)=sR (fun j=>c (m-j)*Du y j) (m+1):=il fun k hk=>by
  rw[show m+1-(k+1)=m-k by omega]
  rfl
 rw[e,Nat.sub_zero]
 grind
def tri{F:Nat->Nat->Rat}:∀{n:Nat},sR (fun m=>sR (fun j=>F m j) (m+1)) n=sR (fun j=>sR (fun i=>F (j+i) j) (n-j)) n
 |0=>rfl
 |n+1=>by
  have ih:=tri (F:=F) (n:=n)
  have e1:sR (fun j=>sR (fun i=>F (j+i) j) (n+1-j)) n=sR (fun j=>sR (fun i=>F (j+i) j) (n-j)+F n j) n:=il fun j hj=>by
   rw[show n+1-j=n-j+1 by omega]
   show sR _ (n-j)+F (j+(n-j)) j=_
   rw[show j+(n-j)=n by omega]
  show sR (fun m=>sR (fun j=>F m j) (m+1)) n+(sR (fun j=>F n j) n+F n n)=sR (fun j=>sR (fun i=>F (j+i) j) (n+1-j)) n+sR (fun i=>F (n+i) n) (n+1-n)
  rw[ih,e1,Ycj,show n+1-n=1 by omega]
  show _=_+(0+F (n+0) n)
  rw[mY]
  grind
def Yvm{c y:Nat->Rat}:sR (fun m=>c (n-m)*aF c n y m) (n+1)=sR (fun m=>c m*bF c y m) (n+1):=by
 have e1:sR (fun m=>c (n-m)*aF c n y m) (n+1)=sR (fun m=>sR (fun j=>c (n-m)*(c (n-m+j)*y j)) (m+1)) (n+1):=il fun m _=>by
  unfold aF
  rw[yZ]
 have e2:sR (fun m=>c m*bF c y m) (n+1)=sR (fun m=>sR (fun j=>c m*(c (m-j)*y j)) (m+1)) (n+1):=il fun m _=>by
  unfold bF
  rw[yZ]
 rw[e1,e2,tri (F:=fun m j=>c (n-m)*(c (n-m+j)*y j)),tri (F:=fun m j=>c m*(c (m-j)*y j))]
 refine il fun j hj=>?_
 rw[<-R9]
 refine il fun i hi=>?_
 show c (n-(j+(n+1-j-1-i)))*(c (n-(j+(n+1-j-1-i))+j)*y j)=c (j+i)*(c (j+i-j)*y j)
 rw[show n-(j+(n+1-j-1-i))=i by omega,show j+i-j=i by omega,show i+j=j+i by omega]
 grind
def Ypb{c y:Nat->Rat}:VF c n (Du y)=VF c n y+aF c n y n*aF c n y n-bF c y n*bF c y n:=by
 have sh:=fun (f:Nat->Rat)=>HW (f:=f) (n:=n)
 have e1:VF c n (Du y)=sR (fun m=>(aF c n y (m+1)*aF c n y (m+1)-bF c y (m+1)*bF c y (m+1))-(2*y 0)*(c (n-(m+1))*aF c n y (m+1)-c (m+1)*bF c y (m+1))+(y 0*y 0)*(c (n-(m+1))*c (n-(m+1))-c (m+1)*c (m+1))) n:=by
  unfold VF
  refine il fun m hm=>?_
  have h1:=Yo7 (c:=c) (y:=y) (n:=n) (m:=m) (by omega)
  have h2:=Yo0 (c:=c) (y:=y) (m:=m)
  rw[show n-(m+1)=n-m-1 by omega]
  generalize aF c n (Du y) m=A at*
  generalize bF c (Du y) m=B at*
  rw[h1,h2]
  grind
 rw[e1,Ycj,yZ,Ay]
 have s1:=sh fun m=>aF c n y m*aF c n y m-bF c y m*bF c y m
 have s2:=sh fun m=>c (n-m)*aF c n y m-c m*bF c y m
 have s3:=sh fun m=>c (n-m)*c (n-m)-c m*c m
 have t1:sR (fun m=>aF c n y m*aF c n y m-bF c y m*bF c y m) (n+1)=VF c n y+(aF c n y n*aF c n y n-bF c y n*bF c y n):=rfl
 have t2:sR (fun m=>c (n-m)*aF c n y m-c m*bF c y m) (n+1)=0:=by
  have e:sR (fun m=>c (n-m)*aF c n y m-c m*bF c y m) (n+1)=sR (fun m=>c (n-m)*aF c n y m-1*(c m*bF c y m)) (n+1):=il fun m _=>by grind
  rw[e,Ay,Yvm]
  grind
 have t3:sR (fun m=>c (n-m)*c (n-m)-c m*c m) (n+1)=0:=by
  have e:sR (fun m=>c (n-m)*c (n-m)-c m*c m) (n+1)=sR (fun m=>c (n-m)*c (n-m)-1*(c m*c m)) (n+1):=il fun m _=>by grind
  have r:=R9 (f:=fun m=>c m*c m) (n:=n+1)
  have e3:sR (fun m=>c (n+1-1-m)*c (n+1-1-m)) (n+1)=sR (fun m=>c (n-m)*c (n-m)) (n+1):=il fun m _=>by rw[Nat.add_sub_cancel]
  rw[e,Ay,<-e3,r]
  grind
 have a0:aF c n y 0=c n*y 0:=by
  show (0:Rat)+c (n-0+0)*y 0=_
  rw[Nat.sub_zero,mY]
  grind
 have b0:bF c y 0=c 0*y 0:=by
  show (0:Rat)+c (0-0)*y 0=_
  grind
 rw[Nat.sub_zero]at s2 s3
 rw[t1,a0,b0]at s1
 rw[t2,a0,b0]at s2
 rw[t3]at s3
 grind
end Go.Mx
