/-reconstruct-/
import Derived.Test.YtfeehbdhikiikaaGreatDoorLsX
set_option linter.all false
set_option maxHeartbeats 16000000
namespace Go.Mx
variable{w0 wp wq:Bool}{m:List (List aH)}{args:List V}{xs:List Value}{l os ss ws:List aH}{μ:Mu}{B0 G d k n0 nB:Nat}{Cf Tf Zf f:Nat->Rat}{P:Program}{δ:Rat}{S:St}{r0:T V}{sv u v vd wv xv:V}{y:Value}{W:World}{s:aH}{mf:nD}
noncomputable section
open Go Go.Proofs
variable {D:List (List Rat)} {N n:Nat} {h:T O} {w:List Rat}
set_option maxRecDepth 1000000
def A.b59:=A.q Tryz.f59
def A.k59:=@A.kk 59 6 [.tmp 2] A.b59 (by kernel_rfl) rfl
def A.b60:=A.q Tryz.f60
def A.k60:=@A.kk 60 5 [.tmp 1] A.b60 (by kernel_rfl) rfl
def Ytl{q p:Nat}{eq ep:TypeId}(q8:h.get q=some (.cells [u] eq wq))(xm:q<N)(jG:h.get p=some (.cells [v] ep wp))(AI:p<N)(hs:fE h N u m)(jR:m.length<100000)(dq:∀x∈m,x.length<100000/\∀s∈x,s.length<=100000)(ht:Sl h N v (strs l))(jX:l.length<100000)(wh:∀s∈l,s.length<=100000):fW A.C (.func 59 [] [.ptr q 0,.ptr p 0]) [] h N (fun z _ _=>z=.int .i64 (yH m l)):=by intro w;rw[aP,A.k59 (by simp)];simp(disch:=first|(simp;done)|omega|rfl) [-getElem?_pos,A.b59,q8,jG];refine au (Yiy hs ht jR dq jX wh) ?_;rintro _ H2 n2 k2 rfl;simp(disch:=first|(simp;done)|omega|rfl) [-getElem?_pos,ay];exact k2
def Ytk{q:Nat}{e:TypeId}(q8:h.get q=some (.cells [.str s] e w0))(xm:q<N)(hl:s.length<=100000):fW A.C (.func 60 [] [.ptr q 0]) [] h N (fun z _ _=>z=.int .i64 (jm 1 s)):=by
 intro w;have sg:Fn A.C 61 [.int .i64 1] h N (fun z h' n'=>z=.func 139 [] [.ptr N 0]/\h'.get N=some (.cells [.int .i64 1] 3 true)/\N<n'):=by intro w;rw[aP,A.k61 (by simp)];simp(disch:=first|(simp;done)|omega|rfl) [-getElem?_pos,A.b61,ay];exact ab.refl.new _
 rw[aP,A.k60 (by simp)];simp(disch:=first|(simp;done)|omega|rfl) [-getElem?_pos,A.b60];refine au sg ?_;rintro _ H1 n1 k1 ⟨rfl,g1,lt⟩;have g2:=(k1.get q xm).trans q8;have yJ:=k1.le;have lq:q<n1:=by omega
 simp(disch:=first|(simp;done)|omega|rfl) [-getElem?_pos,g2,lq];refine Bo (Zmq g1 lt hl) ?_;rintro _ H2 n2 k2 rfl;simp(disch:=first|(simp;done)|omega|rfl) [-getElem?_pos,ay,lq];exact k1.trans k2
def Tb(m:List (List aH))(l:List aH)(s:aH):Int:=cM [yH m l,jm 1 s]
def Lt(m:List (List aH))(l:List aH)(s:aH):List (List Rat):=NJ (cF m) (bj l) (bg m) (e_ s)
def Yt8(h:jm 1 s=0):aR s=0:=by
 unfold jm at h;split at h
 ·assumption
 rename_i h0;exact absurd (by omega:aR s=0) h0
def Yxm{n s:Nat}(hn:n<=6)(hs:s<=6):s*(100+(100+100)+1)+1+100+1<=1908:=by omega
def Yxl{n s i:Nat}(hn:n<=6)(hs:s<=6)(hi:i<=6):qK ((n+s)*1908+1) i<=183232:=by
 have h1:(n+s)*1908+1<=22897:=by omega
 exact Ytv h1 hi (by decide)
def Yz8{q:Rat}(qD:bR D 100)(qw:∀x∈w,Qb 100 x)(hq:Qb 100 q)(hs:D.length<=6):bR (sV D w n q) 1908:=fun r hr x hx=>
 ((Xac (Yo8 (n:=n) qD qw (by decide) (by decide)) hq (by omega)) r hr x hx).mono (by have:=@Yxm 6 D.length (by decide) hs;omega)
def Yxo(qD:bR D 100)(qw:∀x∈w,Qb 100 x):bR (lh D w n) 200:=Yo9 qD qw (by decide) (by decide)
def Yxn{q:Rat}(qD:bR D 100)(qw:∀x∈w,Qb 100 x)(hq:Qb 100 q)(hs:D.length<=6)(hw:w.length=D.length)(k:Nat):bR (aK (dN (sV D w n q) (lh D w n)) k).1 (qK ((n+D.length)*1908+1) (aK (dN (sV D w n q) (lh D w n)) k).2.1):=
 have hc:aW (dN (sV D w n q) (lh D w n)) (n+D.length):=z_ Lh (by rw[<-hw];exact NK) (by rw[F0,CW];exact aN _)
 SQ (Nv (Yeu (Yz8 qD qw hq hs) (fun r hr x hx=>(Yxo qD qw r hr x hx).mono (by decide))) hc) hc (by omega) k
def Yif{q:Rat}{H:List (List Rat)}(qD:bR D 100)(qw:∀x∈w,Qb 100 x)(hq:Qb 100 q)(hn:n<=6)(hs:D.length<=6)(hw:w.length=D.length)(h:ry (sV D w n q) (lh D w n) n D.length=some H):bR H 183232/\H.length<=n/\aW H D.length:=
 Yn5 (B:=qK ((n+D.length)*1908+1)) Lh (by rw[<-hw];exact NK) (by rw[F0,CW];exact aN _) (Yxn qD qw hq hs hw) (fun i hi=>Yxl hn hs (by omega)) (by rw[F0];exact aN _) h
def fj.none:fj h N .aa []:=⟨[],.inl ⟨rfl,.inl rfl⟩,rfl,fun j l hl=>by simp at hl⟩
def A.w14:=A.q Tryz.f14
def A.wS:=A.ql A.w14 0 []
def A.b14:=(fun x0=>A.qb A.w14 [x0]) A.wS
def A.k14:=@A.kk 14 63 [.tmp 6,.tmp 7] A.b14 (by kernel_rfl) rfl
def Yu4(hm:fE h N u m)(hl:Sl h N v (strs l))(hP:iT h N)(sm:pH 6 6 m=true)(sl:ef 6 l=true)(ss:s.length<=24):Fn A.C 14 [u,v,.str s] h N (fun x h' n'=>∃z c,x=.aU [z,.int .i64 c]/\Ls (Tb m l s) (Lt m l s) z c h' n'):=by
 intro W;obtain⟨m1,m2⟩:=Tc sm;obtain⟨l1,l2⟩:=F5 sl;have o2:=hl.form.one;have o3:=hl.form.cells;obtain⟨o4,o5⟩:=hm.one;rw[aP,A.k14 (by simp)];unfold V.one at o2 o4;unfold V.cells at o3 o5;simp(disch:=first|(simp;done)|omega|rfl) [-getElem?_pos,A.b14,o2,o3,o4,o5,ae];generalize hH:(((h.set N (.cells [u] 22 true)).set (N+1) (.cells [v] 23 true)).set (N+1+1) (.cells [.str s] 26 true)).set (N+1+1+1) (.cells [.func 59 [] [.ptr N 0,.ptr (N+1) 0],.func 60 [] [.ptr (N+1+1) 0]] 93 true)=H;have kB:ab h N H (N+1+1+1+1):=by rw[<-hH];exact(((ab.refl.new _).new _).new _).new _
 have g0:H.get N=some (.cells [u] 22 true):=by rw[<-hH];simp
 have g1:H.get (N+1)=some (.cells [v] 23 true):=by rw[<-hH];simp
 have g2:H.get (N+1+1)=some (.cells [.str s] 26 true):=by rw[<-hH];simp
 have g3:H.get (N+1+1+1)=some (.cells [.func 59 [] [.ptr N 0,.ptr (N+1) 0],.func 60 [] [.ptr (N+1+1) 0]] 93 true):=by rw[<-hH];simp
 clear hH;have hs:Sl H (N+1+1+1+1) (.slice (N+1+1+1) 0 2 (some 2) 1) [.func 59 [] [.ptr N 0,.ptr (N+1) 0],.func 60 [] [.ptr (N+1+1) 0]]:=Sl.row (by omega) g3 rfl (fun k hk=>by simp at hk;omega);have key:=NQ (l:=[yH m l,jm 1 s]) hs rfl (by simp) (YU (P:=fun f e _=>∀h' n',ab H (N+1+1+1+1) h' n'->fW A.C f [] h' n' (fun u _ _=>u=.int .i64 e)) (fun h' n' hk=>Ytl ((hk.get N (by omega)).trans g0) (by have:=hk.le;omega) ((hk.get (N+1) (by omega)).trans g1) (by have:=hk.le;omega) ((hm.ad kB).ad hk) m1 m2 ((hl.ad kB).ad hk) l1 l2) (fun hz h' n' hk=>Ytk ((hk.get (N+1+1) (by omega)).trans g2) (by have:=hk.le;omega) (by omega)));change Fn A.C 58 _ H _ (fun u _ _=>u=.int .i64 (Tb m l s))at key;refine au key ?_;rintro _ H2 n2 k2 rfl;have lf:=k2.le;by_cases hE:Tb m l s=0
 ·obtain⟨hM,zl,hL⟩:=Td (wU hE (yH m l) (by simp)) sm sl;have C0:=Yt8 (wU hE (jm 1 s) (by simp));have qs:=Ypf C0 ss;have c0:=(k2.get N (by omega)).trans g0;have kC:=kB.trans k2;have d1:N<n2:=by omega
  have n6:=hM.n6;have n1:=hM.n1;have mle:=hM.le;have m0:=hM.pos;have NX:aW (cF m) (bg m):=hM.qb.1;have qM:bR (cF m) 100:=fun r hr=>(hM.rat r hr).2;have lM:(cF m).length=m.length:=NY;have lL:(bj l).length=(cF m).length:=by simp[bj,cF,zl]
  simp(disch:=first|(simp;done)|omega|rfl) [-getElem?_pos,hE,bz,c0,d1];refine au (NS (k0:=100) ((hm.ad kC).rat fun r hr=>(hM.row r hr).2) (by omega) (fun r hr=>by obtain⟨a1,a2⟩:=hM.rat r hr;exact⟨by omega,a2⟩) (by decide)) ?_;rintro x3 H3 n3 k3 F6;have yG:=k3.le;have c1:=(k3.get (N+1) (by omega)).trans ((k2.get (N+1) (by omega)).trans g1);have d2:N+1<n3:=by omega
  simp(disch:=first|(simp;done)|omega|rfl) [-getElem?_pos,c1,d2];refine au (F4 (l:=bj l) (k0:=100) (kh.sl ((hl.ad kC).ad k3) hL) (by omega) hL.qb (by decide)) ?_;rintro x4 H4 n4 k4 D7;simp(disch:=first|(simp;done)|omega|rfl) [-getElem?_pos];refine au (Zoh (c:=bg m) (j0:=100) (k0:=100) (F6.ad k4) D7 (by omega) (by omega) NX n1 (by omega) lL qM hL.qb (by decide) (by decide) (by decide)) ?_;rintro x5 H5 n5 k5 Lu;have rR:aW (lh (cF m) (bj l) (bg m)) (cF m).length:=by rw[<-lL];exact NK
  simp(disch:=first|(simp;done)|omega|rfl) [-getElem?_pos];refine au (Yk3 (n:=(cF m).length) (c:=bg m) (j:=100) (k:=200) Lu ((F6.ad k4).ad k5) rR NX (aN _) (by omega) (by show (lh _ _ _).length<_;rw[CW];omega) (by omega) (by omega) (Yxo qM hL.qb) qM (by decide) (by decide) (by omega)) ?_;rintro x6 H6 NT k6 ⟨b,hb,Iw⟩;have Bj:=k4.le;have Ix:=k5.le;have Y3:=k6.le;have G0l:(fb (lh (cF m) (bj l) (bg m)) (dm (cF m) (bg m))).length=bg m:=by rw[DZ,CW]
  have G0r:aW (fb (lh (cF m) (bj l) (bg m)) (dm (cF m) (bg m))) (bg m):=by have:=@Li (lh (cF m) (bj l) (bg m)) (dm (cF m) (bg m));rwa [kR]at this
  have G0q:=Yo8 (n:=bg m) qM hL.qb (by decide) (by decide);have NZ:=@Yxm (bg m) (cF m).length n6 (by omega);change C1 b H6 NT x6 (fb (lh (cF m) (bj l) (bg m)) (dm (cF m) (bg m)))at Iw;generalize hG0:fb (lh (cF m) (bj l) (bg m)) (dm (cF m) (bg m))=G0 at*;have eG:sV (cF m) (bj l) (bg m) (e_ s)=rn G0 (e_ s) (bg m):=by rw[<-hG0];rfl
  have c2:H5.get (N+1+1)=some (.cells [.str s] 26 true):=(k5.get (N+1+1) (by omega)).trans ((k4.get (N+1+1) (by omega)).trans ((k3.get (N+1+1) (by omega)).trans ((k2.get (N+1+1) (by omega)).trans g2)));have lx6:=Iw.AA.len;rw[G0l]at lx6;simp(disch:=first|(simp;done)|omega|rfl) [-getElem?_pos,lx6];refine cB [(12,12),(33,52)] (fun e r st=>e=.exit 0/\az n5 st.w=[]/\ab H5 n5 st.h st.n/\C1 b st.h st.n x6 (rn G0 (e_ s) (bg m))) (fun i r st=>az n5 st.w=[]/\ab H5 n5 st.h st.n/\∃t:Nat,t+i=bg m/\r.get 33=some (.int .i64 t)/\C1 b st.h st.n x6 (rn G0 (e_ s) t)) (bg m) ?_ ?_ ?_
  ·exact⟨by simp[Iq],k6,0,by omega,by simp,Iw⟩
  ·rintro i r ⟨H,n,W⟩ hr hf ⟨hW,hK,t,ht,Y4,Iy⟩;simp only at hW hK Iy;rw[bG];have Y5:=hK.le;cases i with
   |zero=>
    obtain rfl:t=bg m:=by omega
    simp(disch:=first|(simp;done)|omega|rfl) [-getElem?_pos,A.wS,hr,hf,Y4,hW,hK];exact Iy
   |succ i=>
    have aD:t<bg m:=by omega
    have bV:(t:Int)<(bg m:Int):=by omega
    obtain⟨row,aA⟩:=bs (l:=G0) (k:=t) (by omega);have nF:(rn G0 (e_ s) t)[t]?=some row:=by rw[Yim (aN _)];exact aA
    have wL:row.length=bg m:=G0r row (cP aA);obtain⟨q,hq⟩:=bs (l:=row) (k:=t) (by omega);have j_:=G0q row (cP aA) q (cP hq);obtain⟨R,us,bb,c,rfl,p1,p2,p3,p4,p5,p6,p7,p8,p9,Iz⟩:=Iy.row nF (by omega);obtain⟨ca,y1,y2⟩:=p9 t q hq;rw[NI,G0l]at*;rw[wL]at p4 p8;have gs:=(hK.get (N+1+1) (by omega)).trans c2;have d3:N+1+1<n:=by omega
    simp(disch:=first|(simp;done)|omega|rfl) [-getElem?_pos,A.wS,hr,hf,Y4,aD,bV,p1,p2,p3,p4,p6,p7,p8,y1,gs,d3];refine au (Ywg C0 ss) ?_;rintro xa H7 n7 k7 ha;simp(disch:=first|(simp;done)|omega|rfl) [-getElem?_pos];have w1:=j_.Bk;have w2:=qs.Bk;refine au (Y6 (y2.ad k7).fc ha (by omega) (by omega) (by omega) (by omega)) ?_;rintro _ H8 n8 k8 hz;obtain⟨z,rfl,AB⟩:=hz.c;obtain⟨z1,z2⟩:=AB.len;have g8:=((k7.trans k8).get bb p6).trans p7;have Y7:bb<n8:=by have:=k7.le;have:=k8.le;omega
    have jT:(V.agg z).cells=z:=rfl;have hle:t*4+4<=bg m*4:=by omega
    have pp:=Iz H8 n8 z (q+e_ s) t (k7.trans k8) AB (by omega);simp(disch:=first|(simp;done)|omega|rfl) [-getElem?_pos, -V.cells, -V.one,hr,hf,Y4,jT,z1,z2,g8,bM,p8,hle,Y7];have e9:rn G0 (e_ s) (t+1)=(rn G0 (e_ s) t).set t (row.set t (q+e_ s)):=by rw[rn,aA,iL,Is,hq,iL]
    refine⟨i,by omega,?_,?_,t+1,by omega,by simp,?_⟩
    ·have:¬bb<n5:=by omega
     simp[az,hW,this]
    ·exact((hK.trans k7).trans k8).set (by omega)
    rw[e9];exact pp
  rintro _ r ⟨H,n,W⟩ hr ⟨rfl,hW,hK,Iy⟩;simp only at hW hK Iy;have kD:=((kC.trans k3).trans k4).trans k5;rw[<-eG]at Iy;have Lv:=Yxn (n:=bg m) (q:=e_ s) qM hL.qb qs (by omega) lL;simp(disch:=first|(simp;done)|omega|rfl) [-getElem?_pos,hr];refine au (Zua (n:=bg m) (c:=(cF m).length) (B:=qK ((bg m+(cF m).length)*1908+1)) Iy.AA (Lu.ad hK) Lh rR F0 CW n1 (by omega) (by omega) (by omega) (fun _=>Yy) Lv (fun i hi=>by have:=@Yxl (bg m) (cF m).length i n6 (by omega) (by omega);omega)) ?_;rintro x7 H7 n7 k7 Y8;have kE:=(kD.trans hK).trans k7;have jC:=Y9 hW (show N<=n5 by omega);obtain⟨Hs,z,bo,rfl,hz,eQ,f1,f2,f3⟩:∃(Hs:List (List Rat)) (z:V) (bo:Bool),x7=.aU [z,.bool bo]/\fj H7 n7 z Hs/\Lt m l s=Hs/\bR Hs 183232/\Hs.length<=6/\(∀r∈Hs,r.length<=6):=by
   rcases Y8 with⟨a1,rfl⟩|⟨Hs,z,a1,rfl,a2⟩
   ·exact⟨[],_,_,rfl,fj.none,by unfold Lt NJ;rw[show ry (sV (cF m) (bj l) (bg m) (e_ s)) (lh (cF m) (bj l) (bg m)) (bg m) (cF m).length=none from a1];rfl,by simp[bR],by simp,by simp⟩
   obtain⟨f1,f2,f3⟩:=Yif qM hL.qb qs n6 (by omega) lL a1;exact⟨Hs,z,_,rfl,a2,by unfold Lt NJ;rw[show ry (sV (cF m) (bj l) (bg m) (e_ s)) (lh (cF m) (bj l) (bg m)) (bg m) (cF m).length=some Hs from a1];rfl,f1,by omega,fun r hr=>by rw[f3 r hr];omega⟩
  simp(disch:=first|(simp;done)|omega|rfl) [-getElem?_pos,c9.c_];refine au (Zzq (k:=183232) hz (hP.ad kE) (by omega) (fun r hr=>by have:=f3 r hr;omega) f1 (by decide)) ?_;rintro x8 H8 n8 k8 hx8;have kF:=kE.trans k8;rcases hx8 with⟨t1,rfl⟩|⟨t1,v2,rfl,t2⟩
  ·simp(disch:=first|(simp;done)|omega|rfl) [-getElem?_pos,ay,jC];exact⟨kF,.aa,4,⟨rfl,rfl⟩,by rw[eQ];exact .inr ⟨rfl,.inl ⟨t1,rfl,rfl⟩⟩⟩
  simp(disch:=first|(simp;done)|omega|rfl) [-getElem?_pos,ay,jC];exact⟨kF,v2,0,⟨rfl,rfl⟩,by rw[eQ];exact .inr ⟨rfl,.inr ⟨t1,rfl,t2⟩⟩⟩
 simp(disch:=first|(simp;done)|omega|rfl) [-getElem?_pos,hE,bz,ay];exact⟨kB.trans k2,.aa,_,⟨rfl,rfl⟩,.inl ⟨hE,rfl,rfl⟩⟩
def Lw:(List.range (k+1)).map f=(List.range k).map f++[f k]:=by rw[List.range_succ,List.map_append];rfl
def Lx:((List.range k).map f).length=k:=by simp
def Yvt{q:Rat}(h:Qb 8 q):(aI q).length<=24:=by
 have hb:Ly q.num.natAbs q.den q:=⟨aN _,aN _⟩;have e:2^8<10^3:=by decide
 have:=hb.zQ (a:=3) (b:=3) (Nat.lt_trans h.1 e) (Nat.lt_trans h.2 e) (by decide) (by decide);omega
def Ynm{q:Rat}(hq:Qb 1800 q)(h0:0<q):jm 1 (aI q)=0:=by
 unfold jm;have e:aR (aI q)=0:=by rw[NU,(wO hq (aN _)).1];rfl
 have h1:0<q.num:=by rw[Rat.lt_iff]at h0;have h2:(0:Int)*(q.den:Int)<q.num*1:=h0;omega
 rw[av e,S9,ak];unfold dB;rw[ak (by omega),ak (by omega)];decide
def Yqn{B:T O}{vL:V}{xs:List aH}(hI:F7 m ws ss xs os)(hδ:0<δ)(qδ:Qb 7 δ)(N6:nB<=n0)(hd:fE B n0 vd m)(hw:Sl B n0 wv (strs ws))(cv:Sl B n0 sv (strs ss))(hP:iT B n0)(hB:B.get B0=some (.cells [wv,sv,xv] 25 true))(qQ:B0<n0)(hL:Tx B n0 vL [gh δ 0,gh δ 1,gh δ 2])(eZ:∀k,AD (cF m) (bj ws) (bj ss) (bg m) δ k=Zf k)(eC:∀k,Bl (cF m) (bj ws) (bj ss) (bg m) δ k=Cf k)(eT:∀k,Cf k+gh δ k*Zf k=Tf k)(a0:r0.get 0=some vd)(a4:r0.get 4=some (.ptr B0 0))(Te:r0.get 91=some vL)(Oa:r0.get 92=some (.int .i64 3)):
  ∀j r st,(∀t,kV [(6,21),(93,223)] t=false->r.get t=r0.get t)->Fx [(6,21),(93,223)] r0 321 ⟨r,321,[]⟩->(fun j r st=>az nB st.w=[]/\ab B n0 st.h st.n/\∃k,k+j=3/\r.get 93=some (.int .i64 (k:Nat))/\∃a,r.get 7=some a/\∃b,r.get 8=some b/\∃c,r.get 9=some c/\uG n0 st.h st.n a b c ((List.range k).map Zf) ((List.range k).map Cf) ((List.range k).map Tf)) j r st->Code A.C none A.yI ⟨r,321,[]⟩ st (Rd [(6,21),(93,223)] r0 321 (fun j r st=>az nB st.w=[]/\ab B n0 st.h st.n/\∃k,k+j=3/\r.get 93=some (.int .i64 (k:Nat))/\∃a,r.get 7=some a/\∃b,r.get 8=some b/\∃c,r.get 9=some c/\uG n0 st.h st.n a b c ((List.range k).map Zf) ((List.range k).map Cf) ((List.range k).map Tf)) j (fun e r st=>e=.exit 0/\az nB st.w=[]/\ab B n0 st.h st.n/\∃a,r.get 7=some a/\∃b,r.get 8=some b/\∃c,r.get 9=some c/\uG n0 st.h st.n a b c ((List.range 3).map Zf) ((List.range 3).map Cf) ((List.range 3).map Tf))):=by
 rintro j r ⟨H,n1,W⟩ hr hf ⟨hW,hK,k,hk,pJ,a,h7,b,h8,c,h9,hT⟩;simp only at hW hK hT;rw[bG];have Y5:=hK.le;have jl:=hI.n1;have n4:=hI.n4;have s1:=hI.s1;have s5:=hI.s5;have lD:(cF m).length=m.length:=NY;have uH:(bj ws).length=(cF m).length:=by rw[lD];simp[bj,hI.wl]
 have IA:(bj ss).length=(cF m).length:=by rw[lD];simp[bj,hI.sl]
 cases j with
 |zero=>
  obtain rfl:k=3:=by omega
  simp(disch:=first|(simp;done)|omega|rfl) [-getElem?_pos,A.yI,hr,hf,pJ,h7,h8,h9,Oa,hW,hK];exact hT
 |succ j=>
  have aD:k<3:=by omega
  have bV:(k:Int)<3:=by omega
  have hgk:[gh δ 0,gh δ 1,gh δ 2][k]?=some (gh δ k):=by
   have hc:k=0\/k=1\/k=2:=by omega
   rcases hc with rfl|rfl|rfl<;>rfl
  obtain⟨i,o,cc,e,rw,q1,q2,q3,q4⟩:=(hL.ad hK).at (Ob hgk);have lL:=Tx.len (hL.ad hK);have lL:oe vL=some 3:=lL;have gB:=(hK.get B0 qQ).trans hB;have Za:B0<n1:=by omega
  have F:=Zb (s:=bj ss) hI.rc jl uH hI.wp (by omega) hδ hI.qb hI.wq hI.sq qδ n4 (by omega) k;obtain⟨m1,m2,m3⟩:=Tg hI.rc jl uH hI.wp (by omega) hδ k;obtain⟨c1,c2⟩:=Th (s:=bj ss) hI.rc jl uH hI.wp (by omega) hδ k;rw[lD]at m2;have qR:=Yv3 hI.rc jl uH hI.wp hI.qb hI.wq n4 (by omega);have Oc:F8 m ws ss ((F9 (cF m) (bj ws) (bj ss) (bg m) δ k).map aI)=Cf k:=by rw[<-eC];unfold F8 C2;rw[S7];exact Yix hI.rc IA c2
  have qC:=F.qC;rw[eC]at qC;simp(disch:=first|(simp;done)|omega|rfl) [-getElem?_pos,A.yI,hr,hf,pJ,h7,h8,h9,a0,a4,Te,Oa,aD,bV,lL,q1,q3,q4,gB,Za];refine au (Ynz (hd.ad hK) (hw.ad hK) (hP.ad hK) hI.sh hI.Ti) ?_;rintro _ H2 n2 k2 ⟨vR,cR,rfl,hR⟩;rw[hI.Zc]at hR;change Ls 0 (lA (cF m) (bj ws) (bg m)) vR cR H2 n2 at hR;obtain⟨rfl,hRt⟩:=hR.NV (qR.mono (by decide));have j2:=hK.trans k2;have lf:=j2.le;by_cases h0:k=0
  ·have jD:¬(0:Int)<(k:Int):=by omega
   have IB:¬0<k:=by omega
   have eM:vZ (cF m) (bj ws) (bg m) δ k=lA (cF m) (bj ws) (bg m):=by unfold vZ;rw[av h0]
   rw[<-eM]at hRt;simp(disch:=first|(simp;done)|omega|rfl) [-getElem?_pos,hr,hf,pJ,h7,h8,h9,a0,a4,Te,Oa,jD,IB];refine Yfi (nB:=nB) (B0:=B0) (vd:=vd) (vM:=vR) (wv:=wv) (sv:=sv) (xv:=xv) (v0:=vd) (a:=a) (b:=b) (c:=c) (M:=vZ (cF m) (bj ws) (bg m) δ k) (d:=gh δ k) (zL:=fun k=>(List.range k).map Zf) (cL:=fun k=>(List.range k).map Cf) (tL:=fun k=>(List.range k).map Tf) hI N6 hd hw cv hP hB qQ a0 a4 ?_ hW j2 hk ?_ ?_ ?_ ?_ ?_ ?_ ?_ (hT.ad k2) Lx Lx Lx Lw Lw (by rw[Lw,eT]) hRt m1 m2 F.qM rfl F.qX Oc qC rfl F.qO (eZ k) (Lz qδ)
   ·simpa using hf
   all_goals simp[pJ,h7,h8,h9]
  have jD:(0:Int)<(k:Int):=by omega
  have IB:0<k:=by omega
  have CU:=(j2.get B0 qQ).trans hB;have IC:B0<n2:=by omega
  have qd:=Lz qδ (k:=k);have dp:=(Od hδ (k:=k)).2 h0;have lds:=Yvt (Lz qδ (k:=k));have hE:Tb m ws (aI (gh δ k))=0:=CZ fun e he=>by
   simp only[iP,List.not_mem_nil,or_false]at he;rcases he with rfl|rfl
   ·exact hI.Zc
   exact Ynm (qd.mono (by decide)) dp
  have eM:Lt m ws (aI (gh δ k))=vZ (cF m) (bj ws) (bg m) δ k:=by unfold Lt vZ;rw[ak h0,S9]
  simp(disch:=first|(simp;done)|omega|rfl) [-getElem?_pos,hr,hf,pJ,h7,h8,h9,a0,a4,Te,Oa,jD,IB,CU,IC];refine au (Yu4 (hd.ad j2) (hw.ad j2) (hP.ad j2) hI.sh hI.Ti lds) ?_;rintro _ H3 n3 k3 ⟨vD,cD,rfl,hD⟩;rw[hE,eM]at hD;obtain⟨rfl,Zd⟩:=hD.NV (F.qM.mono (by decide));have j3:=j2.trans k3;simp(disch:=first|(simp;done)|omega|rfl) [-getElem?_pos,hr,hf,pJ,h7,h8,h9,a0,a4,Te,Oa];refine Yfi (nB:=nB) (B0:=B0) (vd:=vd) (vM:=vD) (wv:=wv) (sv:=sv) (xv:=xv) (v0:=vd) (a:=a) (b:=b) (c:=c) (M:=vZ (cF m) (bj ws) (bg m) δ k) (d:=gh δ k) (zL:=fun k=>(List.range k).map Zf) (cL:=fun k=>(List.range k).map Cf) (tL:=fun k=>(List.range k).map Tf) hI N6 hd hw cv hP hB qQ a0 a4 ?_ hW j3 hk ?_ ?_ ?_ ?_ ?_ ?_ ?_ (hT.ad (k2.trans k3)) Lx Lx Lx Lw Lw (by rw[Lw,eT]) Zd m1 m2 F.qM rfl F.qX Oc qC rfl F.qO (eZ k) (Lz qδ)
  ·simpa using hf
  all_goals simp[pJ,h7,h8,h9]
def Yvm:aI 2=[50]:=by decide+kernel
def Ze{N0:Nat}{H:T O}{a:V}(s:Own 1 26 N0 H n a (ow ((List.range 3).map f))):∃i,oe a=some 3/\yC a=some (i,0)/\i<n/\H.get i=some (.cells [.str (aI (f 0)),.str (aI (f 1)),.str (aI (f 2))] 26 true):=by
 obtain⟨_,⟨h,_⟩|⟨i,rfl,h1,h2,h3⟩⟩:=s
 ·exact absurd (congrArg List.length h) (by rw[Yom];simp)
 exact⟨i,rfl,rfl,h2,h3⟩
def Yvu{n1:Nat}{B H:T O}{W:List Nat}{a b c:V}{xs:List aH}(hI:F7 m ws ss xs os)(hδ:0<δ)(qδ:Qb 7 δ)(N6:nB<=n0)(hd:fE B n0 vd m)(hw:Sl B n0 wv (strs ws))(cv:Sl B n0 sv (strs ss))(hx:Sl B n0 xv (strs xs))(hP:iT B n0)(hB:B.get B0=some (.cells [wv,sv,xv] 25 true))(qQ:B0<n0)(eZ:∀k,AD (cF m) (bj ws) (bj ss) (bg m) δ k=Zf k)(eC:∀k,Bl (cF m) (bj ws) (bj ss) (bg m) δ k=Cf k)(eT:∀k,Cf k+gh δ k*Zf k=Tf k)(hW:az nB W=[])(hK:ab B n0 H n1)(a0:r0.get 0=some vd)(a2:r0.get 2=some (.str (aI δ)))(a4:r0.get 4=some (.ptr B0 0))(a7:r0.get 7=some a)(a8:r0.get 8=some b)(a9:r0.get 9=some c)(hT:uG n0 H n1 a b c ((List.range 3).map Zf) ((List.range 3).map Cf) ((List.range 3).map Tf)):
  Code A.C none A.Bm ⟨r0,321,[]⟩ ⟨H,n1,W⟩ (fun e fr st=>e=.ret/\∃r,fr=⟨r,321,[]⟩/\r.get 6=some (.bool true)/\az nB st.w=[]/\ab B n0 st.h st.n):=by
 rw[bG];have Y5:=hK.le;have jl:=hI.n1;have n4:=hI.n4;have s1:=hI.s1;have s5:=hI.s5;have lD:(cF m).length=m.length:=NY;have uH:(bj ws).length=(cF m).length:=by rw[lD];simp[bj,hI.wl]
 have IA:(bj ss).length=(cF m).length:=by rw[lD];simp[bj,hI.sl]
 have lxr:(bj xs).length=bg m:=by simp[bj,hI.xl]
 obtain⟨c1,c2,c3,c4,c5⟩:=Yvv (s:=bj ss) (o:=bj xs) hI.rc jl uH hI.wp (by omega) hδ lxr;rw[eZ,eZ]at c1 c2;rw[eC,eC]at c3 c4;obtain⟨Any,eA⟩:∃q,qP (cF m) (bj ws) (bj ss) (fun j=>(bj xs)[j]?.getD 0) (bg m)=q:=⟨_,rfl⟩;obtain⟨Sq,eS⟩:∃q,ed (bj xs) (bj xs)=q:=⟨_,rfl⟩;have t0:=c5 0;have t1:=c5 1;have t2:=c5 2;rw[eZ,eC,eT,eA,eS]at t0 t1 t2;rw[show gh δ 0=0 from rfl,Rat.zero_mul,Rat.add_zero]at t0;rw[show gh δ 1=δ from rfl]at t1;rw[show gh δ 2=2*δ from rfl]at t2;have qZ:∀k,Qb 6613 (Zf k):=fun k=>by rw[<-eZ];have F:=Zb (s:=bj ss) hI.rc jl uH hI.wp (by omega) hδ hI.qb hI.wq hI.sq qδ n4 (by omega) k;have hl:=(Th (s:=bj ss) hI.rc jl uH hI.wp (by omega) hδ k).1;exact D6 (n:=4) F.qX F.qX (by decide) (by decide) (by omega)
 have qC:∀k,Qb 1691 (Cf k):=fun k=>by rw[<-eC];exact(Zb (s:=bj ss) hI.rc jl uH hI.wp (by omega) hδ hI.qb hI.wq hI.sq qδ n4 (by omega) k).qC
 have qT:∀k,Qb 8313 (Tf k):=fun k=>by rw[<-eT];exact(qC k).add ((Lz qδ).mul (qZ k))
 have ec2:F8 m ws ss xs=Any:=by rw[<-eA];exact Yix hI.rc IA (fun j _=>rfl)
 have qmv:∀i,Qb 61 (cK (cF m) (fun l=>(bj xs)[l]?.getD 0) (bg m) i):=fun i=>by have h1:=Zg (K:=14) (f:=fun l=>al (cF m) i l*(bj xs)[l]?.getD 0) (fun l=>(rN (hI.qb.at (i:=i)) (by decide) l).mul (rN hI.xq (by decide) l)) (t:=bg m);exact h1.mono (by omega)
 have qA:Qb 800 Any:=by
  rw[<-eA];have h1:=Zg (K:=145) (f:=fun i=>(bj ws)[i]?.getD 0*(((bj ss)[i]?.getD 0-cK (cF m) (fun l=>(bj xs)[l]?.getD 0) (bg m) i)*((bj ss)[i]?.getD 0-cK (cF m) (fun l=>(bj xs)[l]?.getD 0) (bg m) i))) (fun i=>by
   have h2:Qb 69 ((bj ss)[i]?.getD 0-cK (cF m) (fun l=>(bj xs)[l]?.getD 0) (bg m) i):=by
    have:=(rN hI.sq (by decide) i).add (Yv5 (qmv i))
    rw[<-Rat.sub_eq_add_neg]at this
    exact this
   exact(rN hI.wq (by decide) i).mul (h2.mul h2)) (t:=(cF m).length);exact h1.mono (by omega)
 have qS:Qb 61 Sq:=by rw[<-eS];exact D6 (n:=4) hI.xq hI.xq (by decide) (by decide) (by omega)
 have gB:=(hK.get B0 qQ).trans hB;have Za:B0<n1:=by omega
 have hxx:dM xs (bg m)=0:=hI.xk;have bx:AE xs:=⟨hI.xo.zQ.symm,fun q hq=>(hI.xq q hq).mono (by decide),by rw[hI.xl];omega⟩;simp(disch:=first|(simp;done)|omega|rfl) [-getElem?_pos,A.Bm,a0,a2,a4,gB,Za];refine au (Ya9 (hd.ad hK) (hw.ad hK) (cv.ad hK) (hx.ad hK) (hP.ad hK) hI.sh hI.Ti hI.shs bx) ?_;rintro _ H2 n2 k2 Zh;rw[ec2]at Zh;obtain rfl:=Zh.got (hI.res hxx).2 (qA.mono (by decide));have hca:aR (aI Any)=0:=by rw[NU,(wO (qA.mono (show 800<=1800 by decide)) (aN _)).1];rfl
 simp(disch:=first|(simp;done)|omega|rfl) [-getElem?_pos,a0,a2,a4,bz];refine au (Tj (by have:=(wO (qA.mono (show 800<=1800 by decide)) (aN _)).2;omega)) ?_;rintro _ H3 n3 k3 rfl;rw[hca];have j3:=(hK.trans k2).trans k3;have yG:=j3.le;have zN:=(j3.get B0 qQ).trans hB;have Zi:B0<n3:=by omega
 have tx3:Tx H3 n3 xv (bj xs):=kh.sl (hx.ad j3) hI.xo;have hdt:Fn A.C 22 [xv,xv] H3 n3 (fun x _ _=>x=.str (aI Sq)):=by have:=Zj (j:=7) (k:=7) tx3 tx3 (aN _) hI.xq hI.xq (by decide) (by decide) (by have:=kg (7+7+1) (show (bj xs).length<=4 by omega);omega);rw[eS]at this;exact this
 simp(disch:=first|(simp;done)|omega|rfl) [-getElem?_pos,a0,a2,a4,bz,zN,Zi];refine au hdt ?_;rintro _ G0 m0 e0 rfl;have LA:=((hT.ad k2).ad k3).ad e0;have z0:ab G0 m0 G0 m0:=ab.refl;have j0:=j3.trans e0;obtain⟨ia,uX,eF,la,ga⟩:=Ze LA.s1;obtain⟨ib,wV,uY,lb,gb⟩:=Ze LA.s2;obtain⟨ic,cy,zR,lc,gc⟩:=Ze LA.s3;simp(disch:=first|(simp;done)|omega|rfl) [-getElem?_pos,a0,a2,a4,a7,a8,a9,ga,gb,gc,la,lb,lc,uX,wV,cy,eF,uY,zR];refine au (Iu (qZ 1) (qZ 0) (by decide) (by decide) (ID (qZ 0) (by decide))) ?_;rintro _ G1 m1 e1 rfl;have x1:=z0.trans e1;have z1:=x1;have lz1:=e1.le;have ga1:=(z1.get ia (by omega)).trans ga;have gb1:=(z1.get ib (by omega)).trans gb;have gc1:=(z1.get ic (by omega)).trans gc;have la1:ia<m1:=by omega
 have lb1:ib<m1:=by omega
 have lc1:ic<m1:=by omega
 have f1:=(IE c1).1;simp(disch:=first|(simp;done)|omega|rfl) [-getElem?_pos,a0,a2,a4,a7,a8,a9,ga1,gb1,gc1,la1,lb1,lc1,uX,wV,cy,eF,uY,zR,f1];refine au (Iu (qZ 2) (qZ 1) (by decide) (by decide) (ID (qZ 1) (by decide))) ?_;rintro _ G2 m2 e2 rfl;have x2:=z1.trans e2;have z2:=x2;have lz2:=e2.le;have ga2:=(z2.get ia (by omega)).trans ga;have gb2:=(z2.get ib (by omega)).trans gb;have gc2:=(z2.get ic (by omega)).trans gc;have Lq:ia<m2:=by omega
 have Zk:ib<m2:=by omega
 have lc2:ic<m2:=by omega
 have f2:=(IE c2).1;simp(disch:=first|(simp;done)|omega|rfl) [-getElem?_pos,a0,a2,a4,a7,a8,a9,ga2,gb2,gc2,Lq,Zk,lc2,uX,wV,cy,eF,uY,zR,f2];refine au (Iu (qC 0) (qC 1) (by decide) (by decide) (ID (qC 1) (by decide))) ?_;rintro _ G3 m3 e3 rfl;have x3:=z2.trans e3;have z3:=x3;have lz3:=e3.le;have ga3:=(z3.get ia (by omega)).trans ga;have gb3:=(z3.get ib (by omega)).trans gb;have gc3:=(z3.get ic (by omega)).trans gc;have la3:ia<m3:=by omega
 have lb3:ib<m3:=by omega
 have lc3:ic<m3:=by omega
 have f3:=(IE c3).1;simp(disch:=first|(simp;done)|omega|rfl) [-getElem?_pos,a0,a2,a4,a7,a8,a9,ga3,gb3,gc3,la3,lb3,lc3,uX,wV,cy,eF,uY,zR,f3];refine au (Iu (qC 1) (qC 2) (by decide) (by decide) (ID (qC 2) (by decide))) ?_;rintro _ G4 m4 e4 rfl;have x4:=z3.trans e4;have z4:=x4;have lz4:=e4.le;have ga4:=(z4.get ia (by omega)).trans ga;have gb4:=(z4.get ib (by omega)).trans gb;have gc4:=(z4.get ic (by omega)).trans gc;have la4:ia<m4:=by omega
 have lb4:ib<m4:=by omega
 have lc4:ic<m4:=by omega
 have f4:=(IE c4).1;simp(disch:=first|(simp;done)|omega|rfl) [-getElem?_pos,a0,a2,a4,a7,a8,a9,ga4,gb4,gc4,la4,lb4,lc4,uX,wV,cy,eF,uY,zR,f4];refine au (Iu (qT 0) qA (by decide) (by decide) (ID qA (by decide))) ?_;rintro _ G5 m5 e5 rfl;have x5:=z4.trans e5;have z5:=x5;have lz5:=e5.le;have ga5:=(z5.get ia (by omega)).trans ga;have gb5:=(z5.get ib (by omega)).trans gb;have gc5:=(z5.get ic (by omega)).trans gc;have la5:ia<m5:=by omega
 have lb5:ib<m5:=by omega
 have lc5:ic<m5:=by omega
 have f5:=(IE t0).1;simp(disch:=first|(simp;done)|omega|rfl) [-getElem?_pos,a0,a2,a4,a7,a8,a9,ga5,gb5,gc5,la5,lb5,lc5,uX,wV,cy,eF,uY,zR,f5];refine au (IF qδ qS (by decide) (by decide)) ?_;rintro _ G6 m6 e6 rfl;have x6:=z5.trans e6;have z6:=x6;have lz6:=e6.le;have ga6:=(z6.get ia (by omega)).trans ga;have gb6:=(z6.get ib (by omega)).trans gb;have gc6:=(z6.get ic (by omega)).trans gc;have la6:ia<m6:=by omega
 have lb6:ib<m6:=by omega
 have lc6:ic<m6:=by omega
 skip;simp(disch:=first|(simp;done)|omega|rfl) [-getElem?_pos,a0,a2,a4,a7,a8,a9,ga6,gb6,gc6,la6,lb6,lc6,uX,wV,cy,eF,uY,zR];refine au (NL qA (qδ.mul qS) (by decide) (by decide)) ?_;rintro _ G7 m7 e7 rfl;have x7:=z6.trans e7;have z7:=x7;have lz7:=e7.le;have ga7:=(z7.get ia (by omega)).trans ga;have gb7:=(z7.get ib (by omega)).trans gb;have gc7:=(z7.get ic (by omega)).trans gc;have la7:ia<m7:=by omega
 have lb7:ib<m7:=by omega
 have lc7:ic<m7:=by omega
 skip;simp(disch:=first|(simp;done)|omega|rfl) [-getElem?_pos,a0,a2,a4,a7,a8,a9,ga7,gb7,gc7,la7,lb7,lc7,uX,wV,cy,eF,uY,zR];refine au (Iu (qT 1) (qA.add (qδ.mul qS)) (by decide) (by decide) (ID (qA.add (qδ.mul qS)) (by decide))) ?_;rintro _ G8 m8 e8 rfl;have x8:=z7.trans e8;have z8:=x8;have lz8:=e8.le;have ga8:=(z8.get ia (by omega)).trans ga;have gb8:=(z8.get ib (by omega)).trans gb;have gc8:=(z8.get ic (by omega)).trans gc;have la8:ia<m8:=by omega
 have Y7:ib<m8:=by omega
 have lc8:ic<m8:=by omega
 have f8:=(IE t1).1;simp(disch:=first|(simp;done)|omega|rfl) [-getElem?_pos,a0,a2,a4,a7,a8,a9,ga8,gb8,gc8,la8,Y7,lc8,uX,wV,cy,eF,uY,zR,f8];have q2:Qb 2 (2:Rat):=⟨by decide+kernel,by decide+kernel⟩;rw[<-Yvm];refine au (IF q2 qδ (by decide) (by decide)) ?_;rintro _ G9 m9 e9 rfl;have x9:=z8.trans e9;have z9:=x9;have lz9:=e9.le;have ga9:=(z9.get ia (by omega)).trans ga;have gb9:=(z9.get ib (by omega)).trans gb;have gc9:=(z9.get ic (by omega)).trans gc;have la9:ia<m9:=by omega
 have lb9:ib<m9:=by omega
 have lc9:ic<m9:=by omega
 skip;simp(disch:=first|(simp;done)|omega|rfl) [-getElem?_pos,a0,a2,a4,a7,a8,a9,ga9,gb9,gc9,la9,lb9,lc9,uX,wV,cy,eF,uY,zR];refine au (IF (q2.mul qδ) qS (by decide) (by decide)) ?_;rintro _ G10 Zl C3 rfl;have x10:=z9.trans C3;have FR:=x10;have zbr:=C3.le;have Zm:=(FR.get ia (by omega)).trans ga;have Zn:=(FR.get ib (by omega)).trans gb;have Zo:=(FR.get ic (by omega)).trans gc;have Zp:ia<Zl:=by omega
 have Zq:ib<Zl:=by omega
 have Zr:ic<Zl:=by omega
 skip;simp(disch:=first|(simp;done)|omega|rfl) [-getElem?_pos,a0,a2,a4,a7,a8,a9,Zm,Zn,Zo,Zp,Zq,Zr,uX,wV,cy,eF,uY,zR];refine au (NL qA ((q2.mul qδ).mul qS) (by decide) (by decide)) ?_;rintro _ G11 Zs e11 rfl;have x11:=FR.trans e11;have K9:=x11;have zbs:=e11.le;have Zt:=(K9.get ia (by omega)).trans ga;have Zu:=(K9.get ib (by omega)).trans gb;have Zv:=(K9.get ic (by omega)).trans gc;have Zw:ia<Zs:=by omega
 have Zx:ib<Zs:=by omega
 have Zy:ic<Zs:=by omega
 skip;simp(disch:=first|(simp;done)|omega|rfl) [-getElem?_pos,a0,a2,a4,a7,a8,a9,Zt,Zu,Zv,Zw,Zx,Zy,uX,wV,cy,eF,uY,zR];refine au (Iu (qT 2) (qA.add ((q2.mul qδ).mul qS)) (by decide) (by decide) (ID (qA.add ((q2.mul qδ).mul qS)) (by decide))) ?_;rintro _ G12 Zz e12 rfl;have x12:=K9.trans e12;have Ii:=x12;have zbt:=e12.le;have ZA:=(Ii.get ia (by omega)).trans ga;have ZB:=(Ii.get ib (by omega)).trans gb;have ZC:=(Ii.get ic (by omega)).trans gc;have ZD:ia<Zz:=by omega
 have ZE:ib<Zz:=by omega
 have ZF:ic<Zz:=by omega
 have f12:=(IE t2).1;have haw:=fun w=>C4 (w:=w) (hP.ad (j0.trans Ii));simp(disch:=first|(simp;done)|omega|rfl) [-getElem?_pos,a0,a2,a4,a7,a8,a9,ZA,ZB,ZC,ZD,ZE,ZF,uX,wV,cy,eF,uY,zR,f12,haw,hW,c9.c_];exact j0.trans Ii
def Ypq(hn:n<=4):qU (List.replicate n ([48]:aH)) 4 2=true/\dM (List.replicate n ([48]:aH)) n=0:=by
 have hd:n=0\/n=1\/n=2\/n=3\/n=4:=by omega
 rcases hd with rfl|rfl|rfl|rfl|rfl<;>constructor<;>decide+kernel
def tK'(D:List (List Rat))(w s:List Rat)(n:Nat)(δ:Rat)(k:Nat):Rat:=Bl D w s n δ k+gh δ k*AD D w s n δ k
def Yb6{s x:List aH}{ds:ByteArray}(jU:fE h N u m)(ZG:Sl h N wv (strs ws))(iW:Sl h N sv (strs s))(jP:Sl h N xv (strs x))(hP0:iT h N)(b1:m.length<9223372036854775808)(b2:∀x∈m,x.length<9223372036854775808)(b3:ws.length<9223372036854775808)(b4:s.length<9223372036854775808)(b5:x.length<9223372036854775808):Fn A.C 3 [u,.agg [wv,sv,xv],.str ds.data.toList] h N (fun z _ _=>z=.bool true):=by
 intro w;have o1:=ZG.form.one;have o2:=iW.form.one;have o3:=jP.form.one;unfold V.one at o1 o2 o3;have kB:ab h N (h.set N (.cells [wv,sv,xv] 25 true)) (N+1):=ab.refl.new _;have D8:(h.set N (.cells [wv,sv,xv] 25 true)).get N=some (.cells [wv,sv,xv] 25 true):=by simp
 have hm:=jU.ad kB;have hw:=ZG.ad kB;have hs:=iW.ad kB;have hx:=jP.ad kB;have hP:=hP0.ad kB;have lm:=hm.len;rw[aP,A.k3 (by simp)];have s0:aO [wv,sv,xv] 0 3=some [wv,sv,xv]:=rfl;simp(disch:=first|(simp;done)|omega|rfl) [-getElem?_pos,A.b3,o1,o2,o3];generalize h.set N (.cells [wv,sv,xv] 25 true)=H at*;refine au (Ys8 (r0:=5) (c:=4) (d:=2) hm b1 b2 (by decide) (by decide) (by decide)) ?_;rintro _ H1 n1 k1 rfl;have hA1:=fun w=>C4 (w:=w) (hP.ad k1);cases hf:Bn m 5 4 2 with
 |false=> simp(disch:=first|(simp;done)|omega|rfl) [-getElem?_pos,hA1,ay,c9.c_];exact kB.trans k1
 |true=>
  have IG:=hf;unfold Bn at IG;simp only[gV,decide_eq_true_eq,kJ]at IG;obtain⟨_,m5,hcz,hd4,_⟩:=IG;obtain⟨m1,d1,_,_,zbu⟩:=Zvw hcz;obtain⟨l0,dk,h0⟩:∃l0,m[0]?=some l0/\bg m=l0.length:=by obtain⟨l0,dk⟩:=bs (l:=m) (k:=0) (by omega);exact⟨l0,dk,by unfold bg;rw[dk];rfl⟩
  have LB:(0:Int)<(m.length:Int):=by omega
  have yJ:=k1.le;have g1:=(k1.get N (by omega)).trans D8;have dN1:N<n1:=by omega
  simp(disch:=first|(simp;done)|omega|rfl) [-getElem?_pos,g1,dN1,s0];refine au (Yqf (hw.ad k1) (hs.ad k1) (hx.ad k1) b3 b4 b5) ?_;rintro _ H2 n2 k2 rfl;have j2:=k1.trans k2;have Oe:=fun w=>C4 (w:=w) (hP.ad j2);cases q:(ef 6 ws&&ef 6 s&&ef 6 x)with
  |false=> simp(disch:=first|(simp;done)|omega|rfl) [-getElem?_pos,Oe,ay,c9.c_];exact kB.trans j2
  |true=>
   rw[gV,gV]at q;obtain⟨⟨sw,ss⟩,sx⟩:=q;obtain⟨w1,w2⟩:=F5 sw;obtain⟨l1,l2⟩:=F5 ss;obtain⟨y1,y2⟩:=F5 sx;have lf:=j2.le;have g2:=(j2.get N (by omega)).trans D8;have dN2:N<n2:=by omega
   simp(disch:=first|(simp;done)|omega|rfl) [-getElem?_pos,g2,dN2,lm];refine au (Yxs (n:=m.length) (z:=1) (hw.ad j2) w1 w2) ?_;rintro _ H3 n3 k3 rfl;have j3:=j2.trans k3;have hA3:=fun w=>C4 (w:=w) (hP.ad j3);by_cases wk:sW ws m.length 1=0
   ·have yG:=j3.le;have g3:=(j3.get N (by omega)).trans D8;have dN3:N<n3:=by omega
    simp(disch:=first|(simp;done)|omega|rfl) [-getElem?_pos,bz,wk,g3,dN3,lm];refine au (LC (n:=m.length) (hs.ad j3) l1 l2) ?_;rintro _ H4 n4 k4 rfl;have j4:=j3.trans k4;have hA4:=fun w=>C4 (w:=w) (hP.ad j4);by_cases sk:dM s m.length=0
    ·have Bj:=j4.le;have g4:=(j4.get N (by omega)).trans D8;have dN4:N<n4:=by omega
     obtain⟨i,o,cc,e,rw,u0,p1,p2,p3,p4,p5⟩:=(hm.ad j4).at dk;have p6:=p5.len;rw[pK,<-h0]at p6;rw[iX]at p4;simp(disch:=first|(simp;done)|omega|rfl) [-getElem?_pos,bz,sk,g4,dN4,lm,m1,LB,p1,p3,p4,p6];refine au (LC (n:=bg m) (hx.ad j4) y1 y2) ?_;rintro _ H5 n5 k5 rfl;have j5:=j4.trans k5;have hA5:=fun w=>C4 (w:=w) (hP.ad j5);by_cases xk:dM x (bg m)=0
     ·have Ix:=j5.le;have g5:=(j5.get N (by omega)).trans D8;have dN5:N<n5:=by omega
      simp(disch:=first|(simp;done)|omega|rfl) [-getElem?_pos,bz,xk,g5,dN5];refine au (Tk (n:=5) (d:=2) (hw.ad j5) b3 (by decide) (by decide)) ?_;rintro _ H6 n6 k6 rfl;have j6:=j5.trans k6;have hA6:=fun w=>C4 (w:=w) (hP.ad j6);cases fw:qU ws 5 2 with
      |false=> simp(disch:=first|(simp;done)|omega|rfl) [-getElem?_pos,hA6,ay,p2,c9.c_];exact kB.trans j6
      |true=>
       have Y3:=j6.le;have g6:=(j6.get N (by omega)).trans D8;have dN6:N<n6:=by omega
       simp(disch:=first|(simp;done)|omega|rfl) [-getElem?_pos,g6,dN6];refine au (Tk (n:=5) (d:=2) (hs.ad j6) b4 (by decide) (by decide)) ?_;rintro _ H7 n7 k7 rfl;have j7:=j6.trans k7;have hA7:=fun w=>C4 (w:=w) (hP.ad j7);cases fs:qU s 5 2 with
       |false=> simp(disch:=first|(simp;done)|omega|rfl) [-getElem?_pos,hA7,ay,p2,c9.c_];exact kB.trans j7
       |true=>
        have le7:=j7.le;have g7:=(j7.get N (by omega)).trans D8;have dN7:N<n7:=by omega
        simp(disch:=first|(simp;done)|omega|rfl) [-getElem?_pos,g7,dN7];refine au (Tk (n:=4) (d:=2) (hx.ad j7) b5 (by decide) (by decide)) ?_;rintro _ H8 n8 k8 rfl;have j8:=j7.trans k8;have hA8:=fun w=>C4 (w:=w) (hP.ad j8);cases fx:qU x 4 2 with
        |false=> simp(disch:=first|(simp;done)|omega|rfl) [-getElem?_pos,hA8,ay,p2,c9.c_];exact kB.trans j8
        |true=>
         simp(disch:=first|(simp;done)|omega|rfl) [-getElem?_pos];refine au (Yo3 (d:=2) (by decide)) ?_;rintro _ H9 n9 k9 rfl;have j9:=j8.trans k9;have hA9:=fun w=>C4 (w:=w) (hP.ad j9);cases fd:v_ ds.data.toList 2 with
         |false=> simp(disch:=first|(simp;done)|omega|rfl) [-getElem?_pos,hA9,ay,p2,c9.c_];exact kB.trans j9
         |true=>
          obtain⟨LD,Of,qδ⟩:=ZH fd;obtain⟨δ,eδ⟩:∃δ,e_ ds.data.toList=δ:=⟨_,rfl⟩;rw[eδ]at qδ;have edt:ds.data.toList=aI δ:=by have h1:=kh.zQ (l:=[ds.data.toList]) (fun s hs=>by rw[og.1 hs];exact⟨LD,by omega⟩);have h2:[aI (e_ ds.data.toList)]=[ds.data.toList]:=h1;have h3:=List.cons.inj h2;rw[<-eδ];exact h3.1.symm
          rw[edt];have wM:∀st,A.C.call (.func 10 [] []) [.str (aI δ)] st=some (.int .i64 (dB δ.num),st):=fun st=>Lp;by_cases hn:δ.num<=0
          ·have Og:dB δ.num<=0:=by unfold dB;split;omega;split<;>omega
           simp(disch:=first|(simp;done)|omega|rfl) [-getElem?_pos,wM,Og,hA9,ay,p2,c9.c_];exact kB.trans j9
          have zT:¬dB δ.num<=0:=by unfold dB;rw[ak (by omega),ak (by omega)];decide
          have hδ:0<δ:=by rw[Rat.lt_iff];show (0:Int)*(δ.den:Int)<δ.num*1;omega
          obtain⟨z1,z2⟩:=Ypq hd4;have hI:=Yzz hf wk sk xk z2 fw fs fx z1;have q2:Qb 2 (2:Rat):=⟨by decide+kernel,by decide+kernel⟩;have le9:=j9.le;simp(disch:=first|(simp;done)|omega|rfl) [-getElem?_pos,wM,zT,p2,c9.c_,A.Ga];rw[<-Yvm];refine au (IF q2 qδ (by decide) (by decide)) ?_;rintro _ Ha na ka rfl;have ja:=j9.trans ka;have lea:=ja.le;obtain⟨s2,es2⟩:∃s,aI (2*δ)=s:=⟨_,rfl⟩;obtain⟨s1,ZI⟩:∃s,aI δ=s:=⟨_,rfl⟩;rw[es2,ZI];have bsp:ae (ae (ae [V.str [],V.str [],V.str []] 0 [V.str [48]]) 1 [V.str s1]) 2 [V.str s2]=[.str [48],.str s1,.str s2]:=rfl;have kQ:ab H (N+1) (Ha.set na (.cells [.str [48],.str s1,.str s2] 26 true)) (na+1):=ja.new _;have hL:Tx (Ha.set na (.cells [.str [48],.str s1,.str s2] 26 true)) (na+1) (.slice na 0 3 (some 3) 1) [gh δ 0,gh δ 1,gh δ 2]:=by
           have e0:tx [gh δ 0,gh δ 1,gh δ 2]=[.str [48],.str s1,.str s2]:=by rw[<-ZI,<-es2,<-Tl];rfl
           unfold Tx;rw[e0];exact Sl.row (by omega) (by rw[T.ag,av rfl]) rfl (fun k hk=>by simp at hk;omega)
          have bs3:(ae [V.str [],V.str [],V.str []] 0 [V.str [48]]).length=3:=rfl;have bs4:(ae (ae [V.str [],V.str [],V.str []] 0 [V.str [48]]) 1 [V.str s1]).length=3:=rfl;simp(disch:=first|(simp;done)|omega|rfl) [-getElem?_pos,bsp,bs3,bs4];generalize hX:Ha.set na (.cells [.str [48],.str s1,.str s2] 26 true)=X at*;refine cB [(6,21),(93,223)] (fun e r st=>e=.exit 0/\az N st.w=[]/\ab X (na+1) st.h st.n/\∃a,r.get 7=some a/\∃b,r.get 8=some b/\∃c,r.get 9=some c/\uG (na+1) st.h st.n a b c ((List.range 3).map (AD (cF m) (bj ws) (bj s) (bg m) δ)) ((List.range 3).map (Bl (cF m) (bj ws) (bj s) (bg m) δ)) ((List.range 3).map (tK' (cF m) (bj ws) (bj s) (bg m) δ))) (fun j r st=>az N st.w=[]/\ab X (na+1) st.h st.n/\∃k,k+j=3/\r.get 93=some (.int .i64 (k:Nat))/\∃a,r.get 7=some a/\∃b,r.get 8=some b/\∃c,r.get 9=some c/\uG (na+1) st.h st.n a b c ((List.range k).map (AD (cF m) (bj ws) (bj s) (bg m) δ)) ((List.range k).map (Bl (cF m) (bj ws) (bj s) (bg m) δ)) ((List.range k).map (tK' (cF m) (bj ws) (bj s) (bg m) δ))) 3 ?_ (Yqn (nB:=N) (B:=X) (n0:=na+1) (B0:=N) (vd:=u) (wv:=wv) (sv:=sv) (xv:=xv) hI hδ qδ (by omega) (hm.ad kQ) (hw.ad kQ) (hs.ad kQ) (hP.ad kQ) ((kQ.get N (by omega)).trans D8) (by omega) hL (fun _=>rfl) (fun _=>rfl) (fun _=>rfl) ?_ ?_ ?_ ?_) ?_
          ·exact⟨by simp,ab.refl,0,by omega,by simp,.aa,by simp,.aa,by simp,.aa,by simp,⟨Own.nil,Own.nil,Own.nil,fun i hi=>by simp[bI]at hi,fun i hi=>by simp[bI]at hi,fun i hi=>by simp[bI]at hi⟩⟩
          ·simp
          ·simp
          ·simp
          ·simp
          rintro e r ⟨Hy,ny,Wy⟩ hr ⟨rfl,hWy,hKy,a,h7,b,h8,c,h9,hTy⟩;simp only at hWy hKy hTy;simp(disch:=first|(simp;done)|omega|rfl) [-getElem?_pos,hr];refine qV (Yvu (nB:=N) (B:=X) (n0:=na+1) (B0:=N) (vd:=u) (wv:=wv) (sv:=sv) (xv:=xv) (a:=a) (b:=b) (c:=c) hI hδ qδ (by omega) (hm.ad kQ) (hw.ad kQ) (hs.ad kQ) (hx.ad kQ) (hP.ad kQ) ((kQ.get N (by omega)).trans D8) (by omega) (fun _=>rfl) (fun _=>rfl) (fun _=>rfl) hWy hKy (by simp[hr]) (by simp[hr,ZI]) (by simp[hr]) (by simp[h7]) (by simp[h8]) (by simp[h9]) hTy) ?_;rintro _ _ ⟨Hz,nz,Wz⟩ ⟨rfl,r3,rfl,h6',hWx,hKx⟩;simp only at hWx hKx;simp(disch:=first|(simp;done)|omega|rfl) [-getElem?_pos,h6',ay,hWx];exact(kB.trans kQ).trans hKx
     simp(disch:=first|(simp;done)|omega|rfl) [-getElem?_pos,bz,xk,hA5,ay,p2,c9.c_];exact kB.trans j5
    simp(disch:=first|(simp;done)|omega|rfl) [-getElem?_pos,bz,sk,hA4,ay,c9.c_];exact kB.trans j4
   simp(disch:=first|(simp;done)|omega|rfl) [-getElem?_pos,bz,wk,hA3,ay,c9.c_];exact kB.trans j3
open Go
inductive nV where
 |nil
 |emp (b:Addr)
 |sl (b:Addr) (l c:Nat) (f:Nat->ByteArray)
def nV.val:nV->Value
 |.nil=>.slice none 0 0
 |.emp b=>.slice (some b) 0 0
 |.sl b l c f=>.slice (some b) l c
def nV.ok(W:World):nV->Prop
 |.sl b l c f=>l<=c/\0<c/\∀i,i<c->W.cell? (b.add i)=some (.string (f i))
 |_=>True
def nV.strs:nV->List aH
 |.sl b l c f=>(List.range l).map fun i=>(f i).data.toList
 |_=>[]
def EV(W:World)(a:Addr):TypeId:=match W.heap[a.block]? with
 |some (.cells _ e _)=>e
 |_=>0
def Ybh{a:Addr}{f:Nat->Value}(hn:0<n)(hc:∀i,i<n->W.cell? (a.add i)=some (f i)):
  ∃c' lo hi,W.heap[a.block]?=some (.cells c' (EV W a) (lo,hi))/\a.spot=none/\(∀i,i<n->c'[a.off+i]?=some (f i))/\a.off+n<=c'.size/\a.block<W.heap.size:=by
 have h0:=hc 0 hn;have ha0:a.add 0=a:=by simp[Addr.add]
 rw[ha0]at h0;obtain⟨c',e,fr,hb⟩:∃c' e fr,W.heap[a.block]?=some (.cells c' e fr):=by
  unfold World.cell? at h0;split at h0
  ·rename_i c' e fr hb;exact⟨c',e,fr,hb⟩
  cases h0
 have hs:a.spot=none:=by
  unfold World.cell? at h0;rw[hb]at h0;simp only at h0;split at h0
  ·cases h0
  rename_i h;simpa using h
 have iA:∀i,i<n->c'[a.off+i]?=some (f i):=fun i hi=>by
  have:=hc i hi;unfold World.cell? at this;have e1:(a.add i).block=a.block:=by unfold Addr.add;split<;>rfl
  have e2:(a.add i).off=a.off+i:=by unfold Addr.add;split<;>simp_all
  have e3:(a.add i).spot=none:=by unfold Addr.add;split<;>simp_all
  rw[e1,hb]at this;simp only[e2,e3,Option.isSome_none,iE,if_false]at this;exact this
 have aD:a.block<W.heap.size:=by
  rcases Nat.lt_or_ge a.block W.heap.size with h|h
  ·exact h
  rw[Array.getElem?_eq_none h]at hb;cases hb
 have fK:a.off+n<=c'.size:=by have:=iA (n-1) (by omega);have h2:=(Array.getElem?_eq_some_iff.1 this).1;omega
 obtain⟨lo,hi⟩:=fr;exact⟨c',lo,hi,by rw[hb];simp[EV,hb],hs,iA,fK,aD⟩
structure Uh where
 a:Addr
 n:Nat
 f:Nat->Value
 g:Nat->V
def Uh.ok(W:World)(r:Uh):Prop:=0<r.n/\(∀i,i<r.n->W.cell? (r.a.add i)=some (r.f i))/\∀i,i<r.n->(r.f i).oneCell'=true
def Zue{eg:Nat->Option nD}(hP:FQ P eg G){x:cQ}(hx:kK P x){F:Nat}{f:FuncId}(hf:Ar P f=some mf)
  (h:Yyd (EJ mf (eJ (AV x eg F d) F) args S) v) (hh:bq P μ W S) (hS:S.w=[]) (B9:aV μ args xs) (hv:∀μ z,VR μ v z->z=y):
  Calls P f ⟨xs⟩ W fun e W'=>e=.returned y/\RowKit.Below W.heap.size W W':=by
 obtain⟨s,bY,hw⟩:=h.ex;obtain⟨fn,CN,_⟩:=Ybj hf;have ih:=Ui hP.m hP.e hP.t hx F d;have:=Yhy (Yi2 ih hP.e (Yh9 hP.m hP.e ih) (Yob ih hP.e) (Zzn ih) F) CN hf hh B9 bY;refine callsIn_wide.1 (CallsIn.mono (F:=Fence.wide) this fun e W' he=>?_);cases e with
 |returned z=>
  obtain⟨μ',ws,h1,h2⟩:=he;have se:ws=[]:=by have:=h2.wl;rw[hw,hS]at this;simpa using this.symm
  subst se;exact⟨by rw[hv _ _ h1],h2.fe.os,h2.fe.tape,h2.fe.output,h2.fe.size,fun k hk=>h2.fe.block k hk fun i hi=>by cases hi⟩
 |panicked _=>exact he.elim
 |outgrown=>exact he.elim
def Cx.calls{C:Cx}(hP:FQ P C.eg G)(hx:kK P C.x){f:Nat}(hf:Ar P f=some mf)(ht:C.eg f=some mf)
  (hn:∀st,C.x (.func f [] []) args st=none) (h:Fn C f args S.h S.n (fun u _ _=>u=v)) (hh:bq P μ W S) (hS:S.w=[]) (B9:aV μ args xs) (hv:∀μ z,VR μ v z->z=y):
  Calls P f ⟨xs⟩ W fun e W'=>e=.returned y/\RowKit.Below W.heap.size W W':=by
 obtain⟨u,aB,hc,hw,hk,hu⟩:=(h []).ex;subst hu;have hS':(⟨S.h,S.n,[]⟩:St)=S:=by obtain⟨a,b,c⟩:=S;simp only at hS;subst hS;rfl
 rw[hS']at hc;rw[Cx.od]at hc;unfold uD at hc;rw[hn]at hc;simp only at hc;obtain⟨n,uB⟩:=Zmb (q:=fun n=>eJ (C.at n) n) (fun n m hnm=>Ca (Cx.eR hnm) n m hnm) (fun _ _ _ _ _ e=>Cx.su e) hc;unfold Ai at uB;simp only[ht,List.nil_append,zO]at uB;exact Zue (F:=n) (d:=n) hP hx hf ⟨_,uB,hw⟩ hh hS B9 hv
end
end Go.Mx
