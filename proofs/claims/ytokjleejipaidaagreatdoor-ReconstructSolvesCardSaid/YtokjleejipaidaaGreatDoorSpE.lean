/-num-/
import Derived.Test.YtokjleejipaidaaGreatDoorLnA
set_option linter.all false
namespace Go.Mx
noncomputable section
open Go Go.Proofs
variable {N k:Nat} {h:T O} {u:V}
set_option maxHeartbeats 1000000
set_option maxRecDepth 1000000
def A.PL:=A.q Tryz.f117
def A.sV:=A.ql A.PL 0 []
def A.b117:=(fun x0=>A.qb A.PL [x0]) A.sV
def A.k117:=@A.kk 117 32 [.tmp 6] A.b117 (by kernel_rfl) rfl
def A.PM:=A.q Tryz.f119
def A.sW:=A.ql A.PM 0 []
def A.b119:=(fun x0=>A.qb A.PM [x0]) A.sW
def A.k119:=@A.kk 119 32 [.tmp 6] A.b119 (by kernel_rfl) rfl
def A.b120:=A.q Tryz.f120
def A.k120:=@A.kk 120 9 [.tmp 4] A.b120 (by kernel_rfl) rfl
def A.w38:=A.q Tryz.f38
def A.wV:=A.ql A.w38 0 []
def A.b38:=(fun x0=>A.qb A.w38 [x0]) A.wV
def A.k38:=@A.kk 38 29 [.tmp 2,.tmp 3] A.b38 (by kernel_rfl) rfl
def A.b45:=A.q Tryz.f45
def A.k45:=@A.kk 45 8 [.tmp 4] A.b45 (by kernel_rfl) rfl
def A.b118:=A.q Tryz.f118
def A.k118:=@A.kk 118 8 [.tmp 4] A.b118 (by kernel_rfl) rfl
def Ydu{p q:Rat}:p.num*(q.den:Int)-q.num*(p.den:Int)=0↔p=q:=by
 constructor
 ·intro h
  have h1:p.num*(q.den:Int)=q.num*(p.den:Int):=by omega
  have a:((p.den:Nat):Int)≠0:=by have:=p.den_nz;omega
  have b:((q.den:Nat):Int)≠0:=by have:=q.den_nz;omega
  rw[<-Aw p,<-Aw q]
  exact(Rat.divInt_eq_divInt_iff a b).2 h1
 ·intro h
  subst h
  omega
def Yu0{z:Int}:dL z=0↔z=0:=by
 unfold dL
 constructor
 ·intro h
  split at h
  ·omega
  ·split at h<;>omega
 ·intro h
  subst h
  rfl
def Ykd{c d:List V}{p q:Rat}(hc:fu h N c p)(hd:fu h N d q)(hp:Qb k p)(hq:Qb k q)(hk:k<=400000000):Fn A.C 120 [.agg c,.agg d] h N (fun x _ _=>x=.bool (decide (p=q))):=by
 intro w
 obtain⟨c1,c2⟩:=hc.len
 obtain⟨d1,d2⟩:=hd.len
 have w1:=hp.CE
 have w2:=hq.CE
 have ke:∀c:List V,(V.agg c).cells=c:=fun _=>rfl
 have s0:=Jr c1
 have s1:=Jr d1
 have kB:ab h N ((h.set N (.cells c 108 true)).set (N+1) (.cells d 108 true)) (N+1+1):=(ab.refl.new _).new _
 have n1:¬N=N+1:=by omega
 rw[aM,A.k120 (by simp)]
 simp[-V.cells, -V.one,A.b120,ke,c1,c2,d1,d2,s0,s1,n1]
 refine ay (Yqf (hc.ad kB).fc (hd.ad kB).fc (by omega) (by omega) (by omega) (by omega)) ?_
 rintro _ H2 n2 k2 rfl
 simp[aJ,az]
 refine⟨kB.trans k2,?_⟩
 rw[Yu0]
 exact Ydu
def Yts{v:V}{a b:List Rat}(hu:kf h N u a)(hv:kf h N v b)(ha:∀q∈a,Qb k q)(hb:∀q∈b,Qb k q)(hk:k<=400000000)(hl:a.length<100000)(gj:b.length<100000):Fn A.C 119 [u,v,.func 120 [] []] h N (fun x _ _=>x=.bool (decide (a=b))):=by
 intro w
 have l1:=hu.len
 have l2:=hv.len
 rw[aM,A.k119 (by simp)]
 by_cases e:a.length=b.length
 ·have e':(a.length:Int)=(b.length:Int):=by omega
  simp[A.b119,l1,l2,e,aJ]
  refine bA [(6,9),(17,31)] (fun x r st=>ar N st.w=[]/\ab h N st.h st.n/\((x=.exit 0/\a=b)\/(x=.ret/\a≠b/\r.get 6=some (.bool false)))) (fun m r st=>ar N st.w=[]/\ab h N st.h st.n/\∃t,t+m=b.length/\r.get 17=some (.int .i64 t)/\(a=b↔a.drop t=b.drop t)) b.length ?_ ?_ ?_
  ·exact⟨by simp,ab.refl,0,by omega,by simp,by simp⟩
  ·rintro m r ⟨H,n,W⟩ hr hf ⟨hW,hK,t,ht,yi,hz⟩
   simp only at hW hK
   rw[bb]
   cases m with
   |zero=>
    obtain rfl:t=b.length:=by omega
    have ec:a=b:=hz.2 (by rw[qh (by omega),qh (by omega)])
    simp[A.sW,hr,hf,yi,hW,hK]
    exact ec
   |succ m=>
    have au:t<b.length:=by omega
    have aS:(t:Int)<(b.length:Int):=by omega
    have yh:t<a.length:=by omega
    obtain⟨p,hp⟩:=a_ yh
    obtain⟨q,hq⟩:=a_ au
    obtain⟨i1,o1,x1,e1,w1,c,p1,p2,p3,p4,p5⟩:=(hu.ad hK).at hp
    obtain⟨i2,o2,x2,e2,w2,d,q1,q2,q3,q4,q5⟩:=(hv.ad hK).at hq
    obtain⟨c1,c2⟩:=p5.len
    obtain⟨d1,d2⟩:=q5.len
    have ke:∀c:List V,(V.agg c).cells=c:=fun _=>rfl
    have s0:=Jr c1
    have s1:=Jr d1
    have f0:=Qq c1
    have f1:=Qq d1
    have m1:¬i1=n:=by omega
    have m2:¬i2=n:=by omega
    have m3:¬n=n+1:=by omega
    have m4:i2<n+1:=by omega
    have m5:i1<n+1:=by omega
    rw[f_ hp,f_ hq,gU]at hz
    simp[-V.cells, -V.one,A.sW,hr,hf,yi,au,aS,yh,l1,l2,e,p1,p2,p3,p4,q1,q2,q3,q4,Ju p4,Ju q4,bD,ke,c1,c2,d1,d2,s0,s1,f0,f1,m1,m2,m3,m4,m5]
    have kB:ab H n ((((H.set n (.cells [.int .i64 0,.aa,.int .i64 0,.aa] 108 true)).set n (.cells c 108 true)).set (n+1) (.cells [.int .i64 0,.aa,.int .i64 0,.aa] 108 true)).set (n+1) (.cells d 108 true)) (n+1+1):=(((ab.refl.new _).set (aO _)).new _).set (by omega)
    generalize (((H.set n (.cells [.int .i64 0,.aa,.int .i64 0,.aa] 108 true)).set n (.cells c 108 true)).set (n+1) (.cells [.int .i64 0,.aa,.int .i64 0,.aa] 108 true)).set (n+1) (.cells d 108 true)=G at*
    refine ay (Ykd (p5.ad kB) (q5.ad kB) (ha p (bM hp)) (hb q (bM hq)) hk) ?_
    rintro _ H3 n3 k3 rfl
    have le:=hK.le
    have u1:¬n<N:=by omega
    have u2:¬n+1<N:=by omega
    by_cases pj:p=q
    ·simp(disch:=first|(simp;done)|omega|rfl) [hr,hf,yi,pj,hW,u1,u2]
     exact⟨m,by omega,(hK.trans kB).trans k3,t+1,by omega,by simp,by simpa[pj]using hz⟩
    ·simp[hr,hf,yi,pj,hW,u1,u2]
     exact⟨(hK.trans kB).trans k3,fun hc=>pj (hz.1 hc).1⟩
  ·rintro x r ⟨H,n,W⟩ hr ⟨hW,hK,⟨rfl,hz⟩|⟨rfl,hz,h6⟩⟩
   ·simp only at hW hK
    simp[hr,hz,az,hW,hK]
   ·simp only at hW hK
    simp[hr,h6,az,hW,hK,hz]
 ·have e':¬(a.length:Int)=(b.length:Int):=by omega
  have ec:a≠b:=fun hc=>e (by rw[hc])
  simp[A.b119,l1,l2,e,e',aJ,az]
  exact⟨ab.refl,ec⟩
def Yn2{v:V}{a b:List (List Rat)}(hu:fK h N u a)(hv:fK h N v b)(ha:bZ a k)(hb:bZ b k)(hk:k<=400000000)(hl:a.length<100000)(gj:b.length<100000)(hx:∀r∈a,r.length<100000)(hy:∀r∈b,r.length<100000):Fn A.C 45 [u,v] h N (fun x _ _=>x=.bool (decide (a=b))):=by
 intro w
 have l1:=hu.len
 have l2:=hv.len
 rw[aM,A.k45 (by simp)]
 simp[A.b45]
 have key:Fn A.C 117 [u,v,.func 118 [] []] h N (fun x _ _=>x=.bool (decide (a=b))):=by
  intro w
  rw[aM,A.k117 (by simp)]
  by_cases e:a.length=b.length
  ·have e':(a.length:Int)=(b.length:Int):=by omega
   simp[A.b117,l1,l2,e,aJ]
   refine bA [(6,9),(17,31)] (fun x r st=>ar N st.w=[]/\ab h N st.h st.n/\((x=.exit 0/\a=b)\/(x=.ret/\a≠b/\r.get 6=some (.bool false)))) (fun m r st=>ar N st.w=[]/\ab h N st.h st.n/\∃t,t+m=b.length/\r.get 17=some (.int .i64 t)/\(a=b↔a.drop t=b.drop t)) b.length ?_ ?_ ?_
   ·exact⟨by simp,ab.refl,0,by omega,by simp,by simp⟩
   ·rintro m r ⟨H,n,W⟩ hr hf ⟨hW,hK,t,ht,yi,hz⟩
    simp only at hW hK
    rw[bb]
    cases m with
    |zero=>
     obtain rfl:t=b.length:=by omega
     have ec:a=b:=hz.2 (by rw[qh (by omega),qh (by omega)])
     simp[A.sV,hr,hf,yi,hW,hK]
     exact ec
    |succ m=>
     have au:t<b.length:=by omega
     have aS:(t:Int)<(b.length:Int):=by omega
     have yh:t<a.length:=by omega
     obtain⟨p,hp⟩:=a_ yh
     obtain⟨q,hq⟩:=a_ au
     obtain⟨i1,o1,x1,e1,w1,c,p1,p2,p3,p4,p5⟩:=CL (hu.ad hK) hp
     obtain⟨i2,o2,x2,e2,w2,d,q1,q2,q3,q4,q5⟩:=CL (hv.ad hK) hq
     rw[f_ hp,f_ hq,gU]at hz
     have BC:=bM hp
     have hqm:=bM hq
     simp[A.sV,hr,hf,yi,au,aS,yh,l1,l2,e,p1,p2,p3,p4,q1,q2,q3,q4]
     have call:Fn A.C 118 [c,d] H n (fun x _ _=>x=.bool (decide (p=q))):=by
      intro w
      rw[aM,A.k118 (by simp)]
      simp[A.b118]
      refine ay (Yts p5.1 q5.1 (ha p BC) (hb q hqm) hk (hx p BC) (hy q hqm)) ?_
      rintro _ H3 n3 k3 rfl
      simp[az]
      exact k3
     refine ay call ?_
     rintro _ H3 n3 k3 rfl
     by_cases pj:p=q
     ·simp(disch:=first|(simp;done)|omega|rfl) [hr,hf,yi,pj,hW]
      exact⟨m,by omega,hK.trans k3,t+1,by omega,by simp,by simpa[pj]using hz⟩
     ·simp[hr,hf,yi,pj,hW]
      exact⟨hK.trans k3,fun hc=>pj (hz.1 hc).1⟩
   ·rintro x r ⟨H,n,W⟩ hr ⟨hW,hK,⟨rfl,hz⟩|⟨rfl,hz,h6⟩⟩
    ·simp only at hW hK
     simp[hr,hz,az,hW,hK]
    ·simp only at hW hK
     simp[hr,h6,az,hW,hK,hz]
  ·have e':¬(a.length:Int)=(b.length:Int):=by omega
   have ec:a≠b:=fun hc=>e (by rw[hc])
   simp[A.b117,l1,l2,e,e',aJ,az]
   exact⟨ab.refl,ec⟩
 refine ay key ?_
 rintro _ H3 n3 k3 rfl
 simp[az]
 exact k3
def Yiu{m:List (List Rat)}(hu:fK h N u m)(hP:lE h N)(hl:m.length<10000)(hr:∀r∈m,r.length<1000000000)(hq:bZ m k)(hk:k<=400000000):Fn A.C 38 [u] h N (fun x h' n'=>(mi m=true/\x=.aV [.aa,.int .i64 4])\/(mi m=false/\∃v,x=.aV [v,.int .i64 0]/\fA h' n' v m)):=by
 intro w
 have l1:=hu.len
 rw[aM,A.k38 (by simp)]
 simp[A.b38,l1]
 refine bA [(2,4),(6,8),(11,27)] (fun e r st=>ar N st.w=[]/\ab h N st.h st.n/\((e=.exit 0/\mi m=false/\∃v,r.get 4=some v/\gV N st.h st.n v m)\/(e=.ret/\mi m=true/\r.get 2=some .aa/\r.get 3=some (.int .i64 4)))) (fun i r st=>ar N st.w=[]/\ab h N st.h st.n/\∃t v,t+i=m.length/\r.get 11=some (.int .i64 t)/\mi m=mi (m.drop t)/\r.get 4=some v/\gV N st.h st.n v (m.take t)) m.length ?_ ?_ ?_
 ·exact⟨by simp,ab.refl,0,_,by omega,by simp,by simp,by simp,gV.nil⟩
 ·rintro i r ⟨H,n,W⟩ d_ hf ⟨hW,hK,t,v,ht,ks,hz,h4,hO⟩
  simp only at hW hK hO
  rw[bb]
  have le:=hK.le
  cases i with
  |zero=>
   obtain rfl:t=m.length:=by omega
   rw[mK]at hz
   rw[fb (aO _)]at hO
   have vk:mi m=false:=by rw[hz];rfl
   simp[A.wV,d_,hf,ks,h4,vk,hW,hK]
   exact hO
  |succ i=>
   have au:t<m.length:=by omega
   have aS:(t:Int)<(m.length:Int):=by omega
   obtain⟨row,al⟩:=a_ au
   have hm:=bM al
   obtain⟨i1,o1,x1,e1,w1,c,p1,p2,p3,p4,p5⟩:=CL (hu.ad hK) al
   rw[f_ al]at hz
   simp[A.wV,d_,hf,ks,h4,au,aS,l1,p1,p2,p3,p4]
   refine ay (Yhx p5.1 (hP.ad hK) (hr row hm) (hq row hm) hk) ?_
   rintro _ H3 n3 k3 (⟨hb,rfl⟩|⟨hb,x,rfl,tx⟩)
   ·have vk:mi m=true:=by rw[hz];simp[mi,hb]
    simp[d_,hf,aJ,hW,vk]
    exact hK.trans k3
   ·have vk:mi m=mi (m.drop (t+1)):=by rw[hz];simp[mi,hb]
    have ox:V.one x=true/\V.cells x=[x]:=⟨Sl.qW tx.1,Sl.fM tx.1⟩
    have BA:=k3.le
    have kD:ab H3 n3 (H3.set n3 (.cells [x] 23 true)) (n3+1):=ab.refl.new _
    have oz:ae [V.aa] 0 [x]=[x]:=rfl
    obtain⟨v',h',w',j1,j2,j3,j4⟩:=gV.push (N0:=N) (x:=.slice n3 0 1 (some 1) 1) (w:=W) ((hO.ad k3).ad kD) (tP.ad tx kD) (by omega) (by simp[ef,St.row,aC]) (by rw[gO];omega)
    have kF:ab h N h' (n3+1+1):=((hK.trans k3).trans kD).then j3
    simp(disch:=first|(simp;done)|omega|rfl) [-V.cells, -V.one,d_,hf,ks,h4,aJ,hW,vk,ox.1,ox.2,oz,vE,j1]
    exact⟨i,by omega,by rw[j2];exact hW,kF,t+1,by omega,by simp,rfl,by rw[uQ,al];exact j4⟩
 ·rintro e r ⟨H,n,W⟩ d_ ⟨hW,hK,⟨rfl,hz,v,h4,hO⟩|⟨rfl,hz,h2,h3⟩⟩
  ·simp only at hW hK hO
   simp[d_,h4,az,hW,hK,hz]
   exact hO.tI
  ·simp only at hW hK
   simp[d_,h2,h3,az,hW,hK,hz]
variable {a b:Nat}
set_option maxHeartbeats 2000000
def Zqq{k:Nat}(h:pr k a=true)(ec:a<=b):pr k b=true:=by
 unfold pr at*
 have:=of_decide_eq_true h
 exact decide_eq_true (by omega)
def Zn1{l:List aQ}(h:fe a l=true)(ec:a<=b):fe b l=true:=by
 unfold fe at*
 rw[iz]at*
 exact⟨Zqq h.1 ec,h.2⟩
def Zvn{m:List (List aQ)}{c d:Nat}(h:mQ a b m=true)(hac:a<=c)(F3:b<=d):mQ c d m=true:=by
 unfold mQ at*
 rw[iz]at*
 exact⟨Zqq h.1 hac,me.2 fun x hx=>Zn1 (me.1 h.2 x hx) F3⟩
structure Yx4 (b:List (List aQ)) (n:Nat):Prop where
 pos:0<b.length
 le:b.length<=4
 row:∀r∈b,r.length=n/\tO r
def Ysg{G X H:List (List Rat)}{n c Z:Nat}{B:Nat->Nat}(hG:bp G n)(hX:bp X c)(hl:G.length<=X.length)(BM:∀k,bZ (aK (cj G X) k).1 (B (aK (cj G X) k).2.1))(hZ:∀i,i<=n->B i<=Z)(hn:G.length<=n)(hs:vK G X n c=some H):bZ H Z/\H.length<=n/\bp H c:=by
 have hW:=uU hG hX hl
 unfold vK at hs
 split at hs
 ·cases hs
 ·obtain rfl:=mJ hs
  have hd:=(lF hW (n:=n+c)).2
  rw[tv]at hd
  refine⟨fun r ko q hq=>?_,by rw[gY,xz hW];omega,fun r ko=>?_⟩
  ·obtain⟨z,hz,rfl⟩:=eC.1 ko
   exact(BM (n+c) z (yJ hz) q (JP hq)).mono (hZ _ (by omega))
  ·obtain⟨z,hz,rfl⟩:=eC.1 ko
   rw[xF,CJ hW z hz]
   omega
def Zwj{D M H:List (List Rat)}{w:List Rat}{Z:Nat}{B:Nat->Nat}(hw:w.length=D.length)(BM:∀k,bZ (aK (cj (pE D M w) (pD D M w)) k).1 (B (aK (cj (pE D M w) (pD D M w)) k).2.1))(hZ:∀i,i<=M.length->B i<=Z)(hs:xH D M w=some H):bZ H Z/\H.length<=M.length/\bp H D.length:=
 Ysg yM (by rw[<-hw];exact ED) (by rw[xI,vL];exact aO _) BM hZ (by rw[xI];exact aO _) hs
set_option maxHeartbeats 1000000
def A.w52:=A.q Tryz.f52
def A.wW:=A.ql A.w52 0 []
def A.b52:=(fun x0=>A.qb A.w52 [x0]) A.wW
def A.k52:=@A.kk 52 26 [.tmp 4] A.b52 (by kernel_rfl) rfl
def Yh0{A C:List (List Rat)}{t:Nat}{r:List Rat}(h:A[t]?=some r):gk (A.take (t+1)) C=gk (A.take t) C++[C.map fun c=>lK c r]:=by
 unfold gk
 rw[uQ,h]
 simp
def Zzz{h:T O}{N c j k:Nat}{u v:V}{A' B:List (List Rat)}(hu:fA h N u A')(hv:fA h N v B)(hA:∀r∈A',B.length<=r.length)(hB:bp B c)(jj:0<B.length)(hAl:A'.length<1000)(Pq:B.length<1000)(hc:c<1000)(qA:bZ A' k)(qB:bZ B j)(hj:1<=j)(hk:1<=k)(hl:B.length*(j+k+1)+j+k+1<=400000000):Fn A.C 52 [u,v] h N (fun x h' n'=>∃b,N<=b/\gV b h' n' x (gk A' (dq B c))):=by
 intro w
 have lu:=hu.len
 rw[aM,A.k52 (by simp)]
 simp(disch:=first|(simp;done)|omega|rfl) [-getElem?_pos,A.b52]
 refine ay (PN hv hB Pq hc jj) ?_
 rintro y H1 n1 k1 hy
 have tL:=k1.le
 have hy:=hy.tI
 simp(disch:=first|(simp;done)|omega|rfl) [-getElem?_pos,]
 refine bA [(5,5),(7,7),(10,24)] (fun e r st=>e=.exit 0/\ar n1 st.w=[]/\ab H1 n1 st.h st.n/\∃x,r.get 5=some x/\gV n1 st.h st.n x (gk A' (dq B c))) (fun i r st=>ar n1 st.w=[]/\ab H1 n1 st.h st.n/\∃t x,t+i=A'.length/\r.get 7=some (.int .i64 t)/\r.get 5=some x/\gV n1 st.h st.n x (gk (A'.take t) (dq B c))) A'.length ?_ ?_ ?_
 ·exact⟨by simp[uK],ab.refl,0,.aa,by omega,by simp,by simp,gV.nil⟩
 ·rintro i r ⟨H,m,W⟩ hr hf ⟨hW,hK,t,x,ht,h7,h5,hO⟩
  simp only at hW hK hO
  rw[bb]
  have le:=hK.le
  cases i with
  |zero=>
   obtain rfl:t=A'.length:=by omega
   rw[fb (aO _)]at hO
   simp(disch:=first|(simp;done)|omega|rfl) [-getElem?_pos,A.wW,hr,hf,h7,h5,lu,hW,hK]
   exact hO
  |succ i=>
   have au:t<A'.length:=by omega
   have aS:(t:Int)<(A'.length:Int):=by omega
   obtain⟨row,al⟩:=a_ au
   have oS:=bM al
   obtain⟨i',o,cc,e,rw,ru,q1,q2,q3,q4,q5⟩:=(hu.ad (k1.trans hK)).at al
   simp(disch:=first|(simp;done)|omega|rfl) [-getElem?_pos,A.wW,hr,hf,h7,h5,lu,au,aS,q1,q2,q3,q4]
   refine ay (Ydv (n:=B.length) (hy.ad hK) q5 (zy qB hj) (hA row oS) (qA row oS) hj hk hl (by rw[lO];omega)) ?_
   rintro z H2 n2 k2 hz
   have fr:=Gn hz
   have jA:=k2.le
   obtain⟨f1,f2⟩:V.one z=true/\V.cells z=[z]:=⟨Sl.qW fr.1,Sl.fM fr.1⟩
   have oz:ae [V.aa] 0 [z]=[z]:=rfl
   have kD:ab H2 n2 (H2.set n2 (.cells [z] 23 true)) (n2+1):=ab.refl.new _
   obtain⟨v',h',w',j1,j2,j3,j4⟩:=gV.push (N0:=n1) (x:=.slice n2 0 1 (some 1) 1) (w:=W) ((hO.ad k2).ad kD) (fr.ad kD) (by omega) (by simp[ef,St.row,aC]) (by rw[Ew,gO];omega)
   simp(disch:=first|(simp;done)|omega|rfl) [-getElem?_pos, -V.cells, -V.one,hr,hf,h7,h5,oz,f1,f2,vE,j1,j2,hW]
   exact⟨i,by omega,((hK.trans k2).trans kD).then j3,t+1,by omega,by simp,by rw[Yh0 al];exact j4⟩
 ·rintro _ r ⟨H,m,W⟩ hr ⟨rfl,hW,hK,x,h5,hO⟩
  simp only at hW hK hO
  simp(disch:=first|(simp;done)|omega|rfl) [-getElem?_pos,hr,h5,az]
  exact⟨Qk hW tL,k1.trans hK,n1,tL,hO⟩
def Td{h:T O}{N c j k:Nat}{u v:V}{A' B:List (List Rat)}(hu:fA h N u A')(hv:fA h N v B)(hA:∀r∈A',B.length<=r.length)(hB:bp B c)(jj:0<B.length)(hAl:A'.length<1000)(Pq:B.length<1000)(hc:c<1000)(qA:bZ A' k)(qB:bZ B j)(hj:1<=j)(hk:1<=k)(hl:B.length*(j+k+1)+j+k+1<=400000000):Fn A.C 52 [u,v] h N (fun x h' n'=>fA h' n' x (gk A' (dq B c))):=fun w=>(Zzz hu hv hA hB jj hAl Pq hc qA qB hj hk hl w).mono fun x st ⟨a,b,_,_,t⟩=>⟨a,b,t.tI⟩
set_option maxHeartbeats 1000000
def qi.tI{N0:Nat}{h:T O}{N R d:Nat}{m:List (List Rat)}{v:V}{us:List V}(s:qi N0 h N R m)(g:h.get R=some (.cells us 23 true))(hv:Sl h N v (us.take d))(hd:d<=m.length):fA h N v (m.take d):=by
 obtain⟨vs,g1,g2,g3⟩:=s.ex
 rw[g]at g1
 simp only[an,O.cells.injEq,and_true]at g1
 subst g1
 refine⟨us.take d,hv,by simp[g2],fun j l hl=>?_⟩
 by_cases hj:j<d
 ·rw[iI,ax hj]at hl ⊢
  obtain⟨u,a1,a2⟩:=g3 j l hl
  exact⟨u,a1,a2.1⟩
 ·rw[iI,ak hj]at hl
  cases hl
def Zqe{h:T O}{N:Nat}{u:V}{m:List (List Rat)}{c:Nat}{B:Nat->Nat}(hu:fA h N u m)(hc:bp m c)(mj:m.length<1000)(gg:0<m.length)(cO:c<1000)(yD:∀n,1<=B n)(hK:∀k,bZ (aK m k).1 (B (aK m k).2.1))(hB:∀n,n<m.length->n<c->3*B n<=400000000):Fn A.C 49 [u] h N (fun x h' n'=>fA h' n' x (bY m c)):=by
 intro w
 obtain⟨us,h1,h2,h3⟩:=hu
 have fO:=h1
 rcases h1 with⟨hn,_⟩|⟨i,o,cp,c',e,mP,rfl,q2,q3,q4,q5,q6⟩
 ·rw[hn]at h2
  simp at h2
  omega
 have aW:¬i=N:=by omega
 have jV:us≠[]:=fun hc=>by rw[hc]at h2;simp at h2;omega
 have Eu:(h.set N (.cells [] 23 true)).get i=some (.cells c' e mP):=by rw[T.ag,ak aW];exact q3
 have ha:∀w,gX ⟨h.set N (.cells [] 23 true),N+1,w⟩ 1 24 23 (.slice N 0 0 (some 0) 1) (.slice i o us.length cp 1)=some (.slice (N+1) 0 us.length none 1,⟨(h.set N (.cells [] 23 true)).set (N+1) (.cells us 23 true),N+1+1,w⟩):=fun w=>by
  have hg:(h.set N (.cells [] 23 true)).get N=some (.cells [] 23 true):=by simp
  simp only[gX,Ylv (cp:=cp) Eu q4 q5,uS,St.row,hg,aC,St.alloc]
  simp[jV]
  omega
 have kB:ab h N ((h.set N (.cells [] 23 true)).set (N+1) (.cells us 23 true)) (N+1+1):=(ab.refl.new _).new _
 have sR:qi N ((h.set N (.cells [] 23 true)).set (N+1) (.cells us 23 true)) (N+1+1) (N+1) m:=⟨by omega,by omega,us,by rw[T.ag,ax rfl],h2,fun j l hl=>by
  obtain⟨x,a1,a2⟩:=h3 j l hl
  exact⟨x,a1,(Tx.old a2).ad kB⟩⟩
 rw[aM,A.k49 (by simp)]
 simp[A.b49,aJ,vE,ha]
 generalize (h.set N (.cells [] 23 true)).set (N+1) (.cells us 23 true)=G at*
 refine lG (Zz2 (h:=h) sR hc mj gg cO yD hK hB kB (by simp) (by simp[h2]) (by simp) (by simp)) ?_
 rintro _ _ ⟨H4,n4,W4⟩ ⟨rfl,hw,k4,s4,r4,f4,rfl,x4⟩
 simp only at hw k4 s4
 have pU:=f4.dN
 obtain⟨vs,g1,g2,_⟩:=id s4.ex
 have hl4:(aK m c).1.length=m.length:=BB
 have iw:=(@lF m c hc c).2
 have hs:Sl H4 n4 (.slice (N+1) 0 us.length none 1) vs:=Sl.row s4.lt g1 (by omega) fun k hk=>by cases hk
 obtain⟨v',e1,e2⟩:=Es (w:=W4) hs (lo:=0) (hi:=(aK m c).2.1) (by omega) (by omega) none (some (.int .i64 (aK m c).2.1)) (.inr ⟨rfl,rfl⟩) (.inl rfl)
 rw[zq]at e2
 simp[BH,pU,x4,e1,az,hw]
 exact⟨k4,s4.tI g1 e2 (by omega)⟩
variable {N:Nat} {h:T O} {l:List Rat}
def A.PO:=A.q Tryz.f184
def A.nU:=A.ql A.PO 0 []
def A.b184:=(fun x0=>A.qb A.PO [x0]) A.nU
def A.k184:=@A.kk 184 18 [.tmp 2] A.b184 (by kernel_rfl) rfl
def A.w50:=A.q Tryz.f50
def A.wX:=A.ql A.w50 0 []
def A.b50:=(fun x0=>A.qb A.w50 [x0]) A.wX
def A.k50:=@A.kk 50 14 [.tmp 2] A.b50 (by kernel_rfl) rfl
def Yiw{w:List Nat}{v:V}(hs:Tx h N v l)(hl:l.length<100000):A.C.call (.func 184 [] []) [v] ⟨h,N,w⟩=some (.int .i64 (zu l 0 l.length),⟨h,N,w⟩):=by
 apply Call.eq
 have lg:=Tx.len hs
 rw[aM,A.k184 (by simp)]
 simp[A.b184,lg]
 refine bA [(3,16)] (fun e r st=>st=⟨h,N,[]⟩/\e=.exit 0/\r.get 3=some (.int .i64 (zu l 0 l.length))) (fun m r st=>st=⟨h,N,[]⟩/\∃k,k+m=l.length/\r.get 3=some (.int .i64 k)/\zu l 0 l.length=zu l k m) l.length ?_ ?_ ?_
 ·exact⟨rfl,0,by omega,by simp,rfl⟩
 ·rintro m r _ hr hf ⟨rfl,k,hk,h3,hz⟩
  rw[bb]
  cases m with
  |zero=>
   obtain rfl:k=l.length:=by omega
   have wD:zu l l.length 0=l.length:=rfl
   rw[wD]at hz
   simp[A.nU,hr,hf,h3,lg]
   exact hz.symm
  |succ m=>
   have au:k<l.length:=by omega
   have bG:(k:Int)<(l.length:Int):=by omega
   obtain⟨q,hc⟩:=a_ au
   obtain⟨i,o,cc,e,rw,q1,q2,q3,q4⟩:=hs.at (xw hc)
   have GA:=fun st=>Zt8 (q:=q) (st:=st)
   have eg:zu l k (m+1)=if q≠0 then k else zu l (k+1) m:=by
    show (if l[k]?.getD 0≠0 then k else zu l (k+1) m)=_
    rw[hc]
    rfl
   rw[eg]at hz
   by_cases c4:q=0
   ·rw[ak (by simpa using c4)]at hz
    simp only[decide_eq_true c4]at GA
    simp(disch:=first|(simp;done)|omega|rfl) [A.nU,hr,hf,h3,bG,au,lg,q1,q2,q3,q4,GA]
    exact⟨m,by omega,k+1,by omega,by simp,hz⟩
   ·rw[ax c4]at hz
    simp only[decide_eq_false c4]at GA
    simp[A.nU,hr,hf,h3,bG,au,lg,q1,q2,q3,q4,GA,hz]
 ·rintro e r _ hr ⟨rfl,rfl,h3⟩
  simp[hr,h3]
def PQ{l:List V}:(l.map fun y=>[y]).flatten=l:=by
 induction l with
 |nil=>rfl
 |cons a t ih=>simp[ih]
structure KX (h:T O) (N R:Nat) (l:List Rat):Prop where
 lt:R<N
 get:h.get R=some (.cells (tx l) 41 true)
def KX.put{R j:Nat}{q:Rat}(s:KX h N R l)(hj:j<l.length):ae (tx l) j [.str (aP q)]=tx (l.set j q)/\KX (h.set R (.cells (tx (l.set j q)) 41 true)) N R (l.set j q):=by
 refine⟨?_,s.lt,by rw[T.ag,ax rfl]⟩
 rw[Cy (by rw[mq];exact hj)]
 simp[tx,strs,List.map_set]
def KX.Cv{R:Nat}(s:KX h N R l):tP h N (.slice R 0 l.length none 1) l:=⟨Sl.row s.lt s.get (mq l) (fun k hk=>by cases hk),fun i hi=>by
 simp[cQ]at hi
 subst hi
 exact⟨_,_,s.get⟩⟩
def Zs9{n:Nat}(h0:0<n)(hn:n<1000):Fn A.C 50 [.int .i64 n] h N (fun x h' n'=>∃R,x=.slice R 0 n none 1/\N<=R/\KX h' n' R ((List.range n).map fun _=>0)):=by
 intro w
 rw[aM,A.k50 (by simp)]
 simp[A.b50]
 refine bA [(3,12)] (fun e r st=>e=.exit 0/\ar N st.w=[]/\ab h N st.h st.n/\∃v,r.get 3=some v/\Own 1 41 N st.h st.n v ((tx ((List.range n).map fun _=>0)).map fun y=>[y])) (fun m r st=>ar N st.w=[]/\ab h N st.h st.n/\∃t v,t+m=n/\r.get 4=some (.int .i64 t)/\r.get 3=some v/\Own 1 41 N st.h st.n v ((tx ((List.range t).map fun _=>0)).map fun y=>[y])) n ?_ ?_ ?_
 ·exact⟨by simp,ab.refl,0,_,by omega,by simp,by simp,Own.nil⟩
 ·rintro m r ⟨H,n1,W⟩ hr hf ⟨hW,hK,t,v,ht,h4,h3,hO⟩
  simp only at hW hK hO
  rw[bb]
  have le:=hK.le
  cases m with
  |zero=>
   obtain rfl:t=n:=by omega
   simp[A.wX,hr,hf,h3,h4,hW,hK]
   exact hO
  |succ m=>
   have au:t<n:=by omega
   have aS:(t:Int)<(n:Int):=by omega
   have oz:ae [V.str []] 0 [.str [48]]=[.str [48]]:=rfl
   have kD:ab H n1 (H.set n1 (.cells [.str [48]] 41 true)) (n1+1):=ab.refl.new _
   obtain⟨v',h',w',j1,j2,j3,_,j5⟩:=tJ (x:=[.str [48]]) (u:=.slice n1 0 1 (some 1) 1) (bytes:=16) (w:=W) (hO.ad kD) (by omega) (by decide) rfl (by simp[ef,St.row,aC]) (by simp[tx,strs];omega)
   have kF:ab h N h' (n1+1+1):=(hK.trans kD).then j3
   simp(disch:=first|(simp;done)|omega|rfl) [A.wX,hr,hf,h3,h4,au,aS,oz,vE,j1,j2,hW,kF]
   refine⟨m,by omega,t+1,by omega,by simp,?_⟩
   have e:(tx ((List.range (t+1)).map fun _=>(0:Rat))).map (fun y=>[y])=(tx ((List.range t).map fun _=>(0:Rat))).map (fun y=>[y])++[[.str [48]]]:=by
    rw[List.range_succ,List.map_append]
    simp[tx,strs]
    rfl
   rw[e]
   exact j5
 ·rintro _ r ⟨H,n1,W⟩ hr ⟨rfl,hW,hK,v,h3,hO⟩
  simp only at hW hK hO
  obtain⟨hl,⟨hz,_⟩|⟨R,rfl,h1,h2,h3'⟩⟩:=hO
  ·have:=congrArg List.length hz
   simp[tx,strs]at this
   omega
  ·simp[hr,h3,az,hW,hK]
   refine⟨R,⟨rfl,by rw[mq];simp⟩,h1,h2,?_⟩
   rw[h3',PQ]
def PR{N i:Nat}:∀{w:List Nat},i∈w->i<N->i∈ar N w
 |[],h,_=>by cases h
 |j::w,h,hi=>by
  simp only[ar]
  rcases ku.1 h with rfl|h
  ·rw[ax hi]
   unfold vZ
   split
   ·simp_all
   ·exact pR
  ·split
   ·unfold vZ
    split
    ·exact PR h hi
    ·exact pG _ (PR h hi)
   ·exact PR h hi
def Yjc{N B:Nat}{w w':List Nat}(h:ar N w'=ar N w)(hw:ar B w=[])(hB:B<=N):ar B w'=[]:=uK fun i hi=>by
 by_cases e:i<N
 ·have:=PR hi e
  rw[h]at this
  exact zi hw i (zz this).1
 ·omega
variable {N n:Nat} {h:T O} {u:V}
set_option maxHeartbeats 4000000
def A.I7:=A.q Tryz.f131
def A.nV:=A.ql A.I7 1 []
def A.nW:=A.ql A.I7 0 []
def A.b131:=(fun x0 x1=>A.qb A.I7 [x0,x1]) A.nW A.nV
def A.k131:=@A.kk 131 61 [.tmp 2,.tmp 3] A.b131 (by kernel_rfl) rfl
def Ycj{t:Nat}(h:t<n):((List.range n).map fun _=>(0:Rat)).set t (((1:Int):Rat))=zX n t:=by
 unfold zX
 apply List.ext_getElem (by simp)
 intro i h1 h2
 simp only[zn,gY,List.length_range]at h1
 by_cases e:i=t
 ·subst e
  simp
 ·rw[List.getElem_set_ne (Ne.symm e)]
  simp[e]
def Yri{H:T O}{l:List V}{w:List Nat}(hs:Sl H n u l)(h0:0<l.length)(hl:l.length<100000):gX ⟨H.set n (.cells [] 41 true),n+1,w⟩ 1 16 41 (.slice n 0 0 (some 0) 1) u=some (.slice (n+1) 0 l.length none 1,⟨(H.set n (.cells [] 41 true)).set (n+1) (.cells l 41 true),n+1+1,w⟩):=by
 have kN:ab H n (H.set n (.cells [] 41 true)) (n+1):=ab.refl.new _
 have my:=Jy (w:=w) ((Sn.one.2 hs).ad kN)
 rw[gY,PQ]at my
 have hg:(H.set n (.cells [] 41 true)).get n=some (.cells [] 41 true):=by simp
 have aW:l.length≠0:=by omega
 simp only[gX,my,uS,St.row,hg,aC,St.alloc]
 simp[aW]
 omega
def Yi3{N0:Nat}{v:V}{a b:List Rat}{w:List Nat}(s:Own 1 41 N0 h N v ((tx a).map fun y=>[y]))(ha:0<a.length)(hu:Tx h N u b)(h0:0<b.length)(hN:N0<=N)(hl:a.length+b.length<100000):
  ∃v' h' w',gX ⟨h,N,w⟩ 1 16 41 v u=some (v',⟨h',N+1,w'⟩)/\ar N0 w'=ar N0 w/\ab h N0 h' (N+1)/\tP h' (N+1) v' (a++b):=by
 have la:((tx a).map fun y=>[y]).length=a.length:=by rw[gY,mq]
 have lb:((tx b).map fun y=>[y]).length=b.length:=by rw[gY,mq]
 obtain⟨v',h',w',f1,f2,f3,_,_,f5⟩:=V8 (Y:=fun _=>True) (xs:=(tx b).map fun y=>[y]) (u:=u) (bytes:=16) (w:=w) s (fun hc=>by rw[hc]at la;simp at la;omega) (fun _ _ _ _=>trivial) hN (by decide) (fun x hx=>by obtain⟨y,_,rfl⟩:=eC.1 hx;rfl) (by rw[lb];exact h0) (by
  have:=Jy (w:=w) (Sn.one.2 hu)
  exact this) (by rw[la,lb];omega)
 refine⟨v',h',w',f1,f2,f3,Gn (N0:=N0) ?_⟩
 rw[<-List.map_append]at f5
 have:tx (a++b)=tx a++tx b:=by simp[tx,strs]
 rw[this]
 exact f5
def Yj5{H0:T O}{G:List (List Rat)}{W0:List Nat}{r0:T V}(hu:fA H0 N u G)(hG:bp G n)(hl:G.length=n)(h0:0<n)(hn:n<100)(zj:ar N W0=[])(a0:r0.get 0=some u)(a4:r0.get 4=some (.int .i64 n))(a5:r0.get 5=some .aa)(a6:r0.get 6=some (.int .i64 0)):
  Code A.C none (.loop A.nW) ⟨r0,61,[]⟩ ⟨H0,N,W0⟩ (fun e fr st=>e=.exit 0/\ar N st.w=[]/\ab H0 N st.h st.n/\∃r v,Fx [(5,7),(12,32)] r0 61 ⟨r,61,[]⟩/\fr=⟨r,61,[]⟩/\r.get 5=some v/\gV N st.h st.n v (cj G (fE n))):=by
 rw[bb]
 have lW:∀t,t<=n->((cj G (fE n)).take t).length=t:=fun t ht=>by rw[gO,tv];omega
 refine bA [(5,7),(12,32)] (fun e r st=>e=.exit 0/\ar N st.w=[]/\ab H0 N st.h st.n/\∃v,r.get 5=some v/\gV N st.h st.n v (cj G (fE n))) (fun i r st=>ar N st.w=[]/\ab H0 N st.h st.n/\∃t v,t+i=n/\r.get 6=some (.int .i64 t)/\r.get 5=some v/\gV N st.h st.n v ((cj G (fE n)).take t)) n ?_ ?_ ?_
 ·exact⟨zj,ab.refl,0,.aa,by omega,a6,a5,gV.nil⟩
 ·rintro i r ⟨H,m,W⟩ hr hf ⟨hW,hK,t,v,ht,h6,h5,hO⟩
  simp only at hW hK hO
  rw[bb]
  have lm:=hK.le
  cases i with
  |zero=>
   obtain rfl:t=n:=by omega
   rw[fb (by rw[tv];omega)]at hO
   simp[A.nW,hr,hf,a4,h6,h5,hW,hK]
   exact hO
  |succ i=>
   have au:t<n:=by omega
   have aS:(t:Int)<(n:Int):=by omega
   obtain⟨ga,GM⟩:=a_ (l:=G) (k:=t) (by omega)
   have QK:=hG ga (bM GM)
   simp[A.nW,hr,hf,a0,a4,h6,h5,au,aS]
   refine ay (Zs9 h0 (by omega)) ?_
   rintro _ H2 n2 k2 ⟨R,rfl,hR,s2⟩
   have jA:=k2.le
   have lR:=s2.lt
   have gR:=s2.get
   have t1:aP ((1:Int):Rat)=[49]:=Qm
   obtain⟨y1,y2⟩:=s2.put (j:=t) (q:=((1:Int):Rat)) (by simp;exact au)
   rw[t1,Ycj au]at y1
   rw[Ycj au]at y2
   have DW:t+1<=(tx ((List.range n).map fun _=>(0:Rat))).length:=by rw[mq];simp;omega
   generalize tx ((List.range n).map fun _=>(0:Rat))=X at*
   have kG:ab H m (H2.set R (.cells (tx (zX n t)) 41 true)) n2:=k2.set hR
   obtain⟨i1,o1,c1,e1,w1,x,q1,q2,q3,q4,q5⟩:=(hu.ad (hK.trans kG)).at GM
   have lu:=hu.len
   rw[hl]at lu
   have lq:i1<n2:=by omega
   have d0:¬i1=n2:=by omega
   have lx:(tx ga).length=n:=by rw[mq,QK]
   have lu2:(zX n t).length=n:=Yck
   generalize hG1:H2.set R (.cells (tx (zX n t)) 41 true)=G1 at*
   have ha1:=Yri (w:=R::W) q5 (by rw[lx];exact h0) (by rw[lx];omega)
   rw[lx]at ha1
   have kE:ab G1 n2 ((G1.set n2 (.cells [] 41 true)).set (n2+1) (.cells (tx ga) 41 true)) (n2+1+1):=(ab.refl.new _).new _
   have oE:Own 1 41 (n2+1) ((G1.set n2 (.cells [] 41 true)).set (n2+1) (.cells (tx ga) 41 true)) (n2+1+1) (.slice (n2+1) 0 n none 1) ((tx ga).map fun y=>[y]):=⟨fun y hy=>by obtain⟨z,_,rfl⟩:=eC.1 hy;rfl,.inr ⟨n2+1,by rw[gY,lx],by omega,by omega,by rw[T.ag,ax rfl,PQ]⟩⟩
   have y3:=y2.Cv.1.ad kE
   generalize hE:(G1.set n2 (.cells [] 41 true)).set (n2+1) (.cells (tx ga) 41 true)=E at*
   rw[lu2]at y3
   obtain⟨z,h3,w3,j1,j2,j3,j4⟩:=Yi3 (w:=R::W) oE (by rw[QK];exact h0) y3 (by rw[lu2];exact h0) (by omega) (by rw[QK,lu2];omega)
   have k3:ab H m h3 (n2+1+1+1):=⟨by have:=kG.le;omega,fun i hi=>(j3.get i (by have:=kG.le;omega)).trans ((kG.trans kE).get i hi)⟩
   obtain⟨f1,f2⟩:V.one z=true/\V.cells z=[z]:=⟨Sl.qW j4.1,Sl.fM j4.1⟩
   have oz:ae [V.aa] 0 [z]=[z]:=rfl
   have kD:ab h3 (n2+1+1+1) (h3.set (n2+1+1+1) (.cells [z] 23 true)) (n2+1+1+1+1):=ab.refl.new _
   obtain⟨v',h',w',p1,p2,p3,p4⟩:=gV.push (N0:=N) (x:=.slice (n2+1+1+1) 0 1 (some 1) 1) (w:=w3) ((hO.ad k3).ad kD) (j4.ad kD) (by omega) (by simp[ef,St.row,aC]) (by rw[lW t (by omega)];omega)
   have hw3:ar N w3=[]:=uK fun i hi=>by
    by_cases e:i<n2+1
    ·have:=PR hi e
     rw[j2]at this
     rcases ku.1 (zz this).1 with rfl|h
     ·omega
     ·exact zi hW i h
    ·omega
   simp[hr,hf,a0,a4,h6,h5,au,aS,bD,gR,lR,DW,y1,lu,q1,q3,q4,d0,hG1]
   simp(disch:=first|(simp;done)|omega|rfl) [-V.cells, -V.one,hr,hf,h6,h5,hE,vE,ha1,j1,p1,f1,f2,oz]
   refine⟨i,by omega,by rw[p2];exact hw3,((hK.trans k3).trans kD).then p3,t+1,by omega,by simp,?_⟩
   rw[uQ,Wp (by omega),GM,Ytg au]
   exact p4
 ·rintro _ r ⟨H,m,W⟩ hr ⟨rfl,hW,hK,v,h5,hO⟩
  simp only at hW hK hO
  simp[]
  exact⟨hW,hK,r,⟨hr,rfl,rfl⟩,rfl,v,h5,hO⟩
def Sl.low{M:Nat}{v:V}{l:List V}(s:Sl h N v l)(hm:∀i∈cQ v,i<M):Sl h M v l:=by
 rcases s with s|⟨i,o,cp,c,e,rw,rfl,_,q⟩
 ·exact .inl s
 ·exact .inr ⟨i,o,cp,c,e,rw,rfl,hm i (by simp[cQ]),q⟩
def Yoc{B:Nat->Nat}{G:List (List Rat)}(hu:fA h N u G)(hG:bp G n)(hl:G.length=n)(h0:0<n)(hn:n<100)(yD:∀i,1<=B i)(Wq:∀k,bZ (aK (cj G (fE n)) k).1 (B (aK (cj G (fE n)) k).2.1))(hB:∀i,i<n->3*B i<=400000000):Fn A.C 131 [u] h N (fun x h' n'=>(uT G n=none/\x=.aV [.aa,.bool false])\/∃H y,uT G n=some H/\x=.aV [y,.bool true]/\fA h' n' y H):=by
 intro w
 have lu:=hu.len
 have hW:=uU hG (Jz (n:=n)) (by rw[JA,hl];exact aO _)
 have I:=ry hW (n:=n+n)
 have hle:=(lF hW (n:=n+n)).2
 rw[tv,hl]at hle
 have xu:=xz (n:=n+n) hW
 rw[aM,A.k131 (by simp)]
 simp[A.b131,lu,hl]
 refine lG (Yj5 hu hG hl h0 hn (by simp[uK]) (by simp) (by simp) (by simp) (by simp)) ?_
 rintro _ _ ⟨H1,n1,W1⟩ ⟨rfl,Fq,k1,r,v,f1,rfl,h5,hO⟩
 simp only at Fq k1 hO
 have jn:=f1.dN
 have tL:=k1.le
 simp[jn,h5]
 refine ay (Zqe (c:=n+n) hO.tI hW (by rw[tv];omega) (by rw[tv];omega) (by omega) yD Wq fun i hi _=>hB i (by rw[tv]at hi;omega)) ?_
 rintro x2 H2 n2 k2 pZ
 have jA:=k2.le
 have lx:=pZ.len
 rw[xu]at lx
 by_cases c1:(aK (cj G (fE n)) (n+n)).2.1<n
 ·have c1':((aK (cj G (fE n)) (n+n)).2.1:Int)<(n:Int):=by omega
  have hs:uT G n=none:=by unfold uT;rw[ak (fun h=>by omega)]
  simp[jn,lx,c1,c1',az,Fq,cn.cr]
  exact⟨k1.trans k2,hs⟩
 ·have hd:(aK (cj G (fE n)) (n+n)).2.1=n:=by omega
  rw[hd]at lx xu
  have hm:((bY (cj G (fE n)) (n+n)).map (List.drop n)).length=n:=by rw[gY,xu]
  simp[jn,lx,hd,show ¬n<n from Nat.lt_irrefl n,show ¬(n:Int)<(n:Int) by omega]
  refine bA [(2,3),(8,9),(39,59)] (fun e r st=>ar N st.w=[]/\ab H2 n2 st.h st.n/\((e=.exit 2/\(∀i,i<n->(aK (cj G (fE n)) (n+n)).2.2[i]?.getD 0=i)/\∃v,r.get 8=some v/\xr n2 st.h st.n v ((bY (cj G (fE n)) (n+n)).map (List.drop n)))\/(e=.ret/\(∃i,i<n/\(aK (cj G (fE n)) (n+n)).2.2[i]?.getD 0≠i)/\r.get 2=some .aa/\r.get 3=some (.bool false)))) (fun i r st=>ar N st.w=[]/\ab H2 n2 st.h st.n/\∃t v,t+i=n/\r.get 9=some (.int .i64 t)/\r.get 8=some v/\xr n2 st.h st.n v (((bY (cj G (fE n)) (n+n)).map (List.drop n)).take t)/\∀i,i<t->(aK (cj G (fE n)) (n+n)).2.2[i]?.getD 0=i) n ?_ ?_ ?_
  ·exact⟨by simpa using Fq,ab.refl,0,.aa,by omega,by simp,by simp,xr.nil,fun i hi=>absurd hi (Nat.not_lt_zero i)⟩
  ·rintro i r' ⟨H,m,W⟩ ko A3 ⟨si,hK,t,v2,ht,h9,h8,hR,hp⟩
   simp only at si hK hR
   rw[bb]
   have lm:=hK.le
   cases i with
   |zero=>
    obtain rfl:t=n:=by omega
    rw[fb (by rw[hm];exact aO _)]at hR
    simp[A.nV,ko,A3,h9,h8,jn,si,hK]
    exact⟨hp,hR⟩
   |succ i=>
    have au:t<n:=by omega
    have aS:(t:Int)<(n:Int):=by omega
    obtain⟨row,al⟩:=a_ (l:=bY (cj G (fE n)) (n+n)) (k:=t) (by omega)
    obtain⟨p,Xp,hpc,hpf,_⟩:=Yof hW al
    have Ea:=CJ hW row (bM al)
    obtain⟨i0,o0,c0,e0,w0,x0,z1,z2,z3,z4,z5⟩:=pZ.at al
    obtain⟨i1,o1,cc,e1,w1,x,q1,q2,q3,q4,q5⟩:=(pZ.ad hK).at al
    have vt:=fun w=>Yiw (w:=w) q5 (by omega)
    rw[hpf]at vt
    have pV:(aK (cj G (fE n)) (n+n)).2.2[t]?.getD 0=p:=by rw[Xp];rfl
    by_cases cp:p=t
    ·subst cp
     have hxx:x0=x:=by
      rw[q1]at z1
      simp only[an,bs]at z1
      obtain⟨rfl,rfl⟩:=z1
      have:=(hK.get i1 z2).trans z3
      rw[q3]at this
      simp only[an,O.cells.injEq]at this
      obtain⟨rfl,_⟩:=this
      rw[q4]at z4
      exact(mJ z4).symm
     subst hxx
     obtain⟨s',e1',Te⟩:=Es (w:=W) q5 (lo:=n) (hi:=n+n) (by omega) (by rw[mq,Ea];exact aO _) (some (.int .i64 n)) none (.inl rfl) (.inr ⟨rfl,by rw[mq,Ea]⟩)
     have etx:((tx row).take (n+n)).drop n=tx (row.drop n):=by
      rw[fb (by rw[mq,Ea];exact aO _)]
      simp[tx,strs,List.map_drop]
     rw[etx]at Te
     have lo2:Sl H n2 s' (tx (row.drop n)):=Te.low fun j hj=>by
      rcases z5 with⟨hc,_⟩|⟨i',o',cp',c',e',mP,rfl,iP,_⟩
      ·have:=congrArg List.length hc
       rw[mq,Ea]at this
       simp at this
       omega
      ·rw[Zp9 e1' j hj]
       exact iP
     obtain⟨Oy,SH⟩:V.one s'=true/\V.cells s'=[s']:=⟨Sl.qW Te,Sl.fM Te⟩
     have oz:ae [V.aa] 0 [s']=[s']:=rfl
     have kD:ab H m (H.set m (.cells [s'] 23 true)) (m+1):=ab.refl.new _
     have kD2:ab H n2 (H.set m (.cells [s'] 23 true)) n2:=⟨aO _,fun j hj=>by rw[T.ag,ak (by omega)]⟩
     have Jx:(((bY (cj G (fE n)) (n+n)).map (List.drop n)).take p).length<100000:=by rw[gO,hm];omega
     obtain⟨v',h',w',p1,p2,p3,p4⟩:=xr.push (N0:=n2) (x:=.slice m 0 1 (some 1) 1) (w:=W) (hR.ad kD (by omega)) (lo2.ad kD2) (by omega) (by simp[ef,St.row,aC]) Jx
     simp(disch:=first|(simp;done)|omega|rfl) [-V.cells, -V.one,A.nV,ko,A3,h9,h8,jn,au,aS,lx,q1,q2,q3,q4,vt,aJ,BH,e1',Oy,SH,oz,vE,p1]
     refine⟨i,by omega,Yjc p2 si (by omega),(hK.trans kD).then p3,p+1,by omega,by simp,?_,fun j hj=>?_⟩
     ·rw[uQ,fm,al]
      exact p4
     ·by_cases e:j=p
      ·subst e;exact pV
      ·exact hp j (by omega)
    ·have cp':¬(p:Int)=(t:Int):=by omega
     simp[A.nV,ko,A3,h9,h8,jn,au,aS,lx,q1,q2,q3,q4,vt,aJ,cp,cp',si,hK]
     exact⟨t,au,by rw[pV];exact cp⟩
  ·rintro _ r' ⟨H,m,W⟩ ko ⟨si,hK,⟨rfl,hp,v2,h8,hR⟩|⟨rfl,⟨i,hi,Qx⟩,h2,h3⟩⟩
   ·simp only at si hK hR
    have hs:uT G n=some ((bY (cj G (fE n)) (n+n)).map (List.drop n)):=by unfold uT;rw[ax ⟨hd,hp⟩]
    simp[ko,jn,h8,az,cn.cr]
    exact⟨si,(k1.trans k2).trans hK,_,hs,hR.tI hK.le⟩
   ·simp only at si hK
    have hs:uT G n=none:=by unfold uT;rw[ak (fun h=>Qx (h.2 i hi))]
    simp[ko,jn,h2,h3,az,cn.cr]
    exact⟨si,(k1.trans k2).trans hK,hs⟩
end
end Go.Mx
