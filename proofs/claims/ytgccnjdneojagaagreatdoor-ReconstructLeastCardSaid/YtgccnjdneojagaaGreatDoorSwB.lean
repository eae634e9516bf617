/-reconstruct-/
import Derived.Test.YtgccnjdneojagaaGreatDoorLsB
set_option linter.all false
set_option maxHeartbeats 16000000
namespace Go.Mx
variable{W:List Nat}{a b r:List Rat}{B0 S i j k n0 n1 nB:Nat}{H:T O}{r0:T V}{sv u v vR vd wv xv:V}
noncomputable section
open Go Go.Proofs
set_option maxRecDepth 1000000
def A.w21:=A.q Tryz.f21
def A.xn:=A.qt A.w21 [] [] [1,1,1,1,1,1,1]
def A.b21:=(fun y0=>A.qt A.w21 [] [([1,1,1,1,1,1,1],y0)] []) A.xn
def A.k21:=@A.kk 21 85 [.tmp 4,.tmp 5,.tmp 6] A.b21 (by kernel_rfl) rfl
def Yrh(ha:∀q∈a,Qb j q)(hb:∀q∈b,Qb k q)(hj:1<=j)(hk:1<=k):∀q∈mM a b,Qb (j+k+1) q:=fun q hq=>by
 unfold mM mF at hq
 obtain⟨i,_,rfl⟩:=bK.1 hq
 exact(mS ha hj i).sub (mS hb hk i)
def Zz2{D:List (List Rat)}{x:List Rat}{c:Nat}(hD:aU D c)(q:bH D 48)(hn:c<=5)(hs:D.length<=5)(qx:∀q∈x,Qb 48 q)(h0:0<(aK D c).length):bH (dC (aK D c) (aK D c)) 17296/\(∀q∈(aK D c).map (fun r=>dh r x),Qb 17296 q)/\∃H,rS (dC (aK D c) (aK D c)) (vn ((aK D c).map fun r=>dh r x)) (aK D c).length 1=some H/\bH H 726481/\H.length=(aK D c).length/\aU H 1:=by
 have qR:=ZH hD q hn hs;have rR:=xg (n:=c) hD;have kl:=@ZG D c;have n1:=jz (1729+1729+1) hn;have n2:=jz (1729+48+1) hn;have qG:bH (dC (aK D c) (aK D c)) 17296:=(ZM rR qR qR (by decide) (by decide)).mono (by omega);have qv:∀q∈(aK D c).map (fun r=>dh r x),Qb 17296 q:=fun q hq=>by obtain⟨r,hr,rfl⟩:=bK.1 hq;exact(CY (n:=c) (qR r hr) qx (by decide) (by decide) (by rw[rR r hr];exact aM _)).mono (by omega)
 obtain⟨J,_,hJ⟩:=Zj (v:=(aK D c).map fun r=>dh r x) hD h0 (by rw[di]);obtain⟨g1,g2,_⟩:=Zk hD h0 hJ;have nR:=Ype (B:=kW (((aK D c).length+1)*17296+1)) (Z:=726481) (@Aw (aK D c) (aK D c)) NM (by rw[vj,Is,di];exact aM _) (Ypw Aw (by rw[vj,di]) qG qv (by decide)) (fun i hi=>Ypd (by omega) (aM _) i (by omega)) (by rw[vj];exact aM _) hJ;exact⟨qG,qv,_,hJ,nR.1,g1,g2⟩
def Yrw{D:List (List Rat)}{x:List Rat}{c:Nat}(hD:aU D c)(q:bH D 48)(hn:c<=5)(hs:D.length<=5)(qx:∀q∈x,Qb 48 q):∀q∈kZ D x c,Qb 3641056 q:=fun z hz=>by
 unfold kZ at hz
 split at hz
 ·obtain⟨_,_,rfl⟩:=bK.1 hz
  exact Qb.zero.mono (by decide)
 ·rename_i h0
  obtain⟨_,_,H,hH,qH,lH,rH⟩:=Zz2 hD q hn hs qx (Nat.pos_of_ne_zero h0)
  rw[hH,il]at hz
  obtain⟨r,hr,rfl⟩:=bK.1 hz
  obtain⟨a1,a2⟩:=Av (ZH hD q hn hs) (by decide) r hr
  have kl:=@ZG D c
  have qc:∀q∈kX H 0,Qb 726481 q:=fun q hq=>by
   obtain⟨l,hl,rfl⟩:=bK.1 hq
   exact mS (qH l hl) (by decide) 0
  exact(CY (n:=5) a2 qc (by decide) (by decide) (by omega)).mono (by decide)
def Zzx{h:T O}{N n:Nat}{x y:V}{m:List (List aG)}{l:List aG}(kH:ab h N H n)(hE:IB m l=0)(hS:OkS m l)(hx:jm H n x (a_ l))(hy:jm H n y (sQ m l))(hP:iG H n)(a8:r0.get 8=some x)(uL:r0.get 11=some y):
  Code A.C none A.xn ⟨r0,85,[]⟩ ⟨H,n,[]⟩ (fun e fr st=>e=.ret/\∃r,fr=⟨r,85,[]⟩/\ay N st.w=[]/\ab h N st.h st.n/\∃a b c,r.get 4=some a/\r.get 5=some b/\r.get 6=some (.int .i64 c)/\SpT m l a b c st.h st.n):=by
 have hM:=hS.ok;have NX:=hS.n5;have ll:(a_ l).length=aW m:=by simp[a_,hS.len]
 have qs:∀q∈sQ m l,Qb 3641056 q:=Yrw hM.qb.1 hS.qm NX (by rw[D6];exact hS.le) hS.ql;have ls:(sQ m l).length=aW m:=NV;have e1:mM (a_ l) (sQ m l)=bQ m l:=Yk9 hM.qb.1 ll;have qb:∀q∈bQ m l,Qb 3641105 q:=by rw[<-e1];exact fun q hq=>(Yrh (j:=48) (k:=3641056) hS.ql qs (by decide) (by decide) q hq).mono (by omega)
 have lb:(bQ m l).length=aW m:=To;have hF:C8 m l=cg [if mT (sQ m l)=true then 4 else 0,if mT (bQ m l)=true then 4 else 0]:=av hE;rw[bu];simp[A.xn,uL];refine ar (Tp hy hP (by omega) qs (by decide)) ?_;rintro v1 H1 n1 k1 t1;obtain⟨z1,c1,nT,zT,Ei⟩:∃z1 c1,v1=.aX [z1,.int .i64 c1]/\(mT (sQ m l)=false->Tx H1 n1 z1 (sQ m l))/\c1=(if mT (sQ m l)=true then 4 else 0):=by
  rcases t1 with⟨b1,rfl⟩|⟨b1,v,rfl,t⟩
  ·exact⟨_,_,rfl,fun h=>absurd (b1.symm.trans h) (by decide),by rw[av b1]⟩
  exact⟨_,_,rfl,fun _=>t,by rw[b1];rfl⟩
 subst nT;simp[a8,uL];refine ar (Ya6 (hx.ad k1) (hy.ad k1) (by omega) hS.ql qs (by decide) (by decide) (by omega)) ?_;rintro v2 H2 n2 k2 jQ;rw[e1]at jQ;simp[];refine ar (Tp jQ.1 ((hP.ad k1).ad k2) (by omega) qb (by decide)) ?_;rintro v3 H3 n3 k3 t3;obtain⟨z3,c3,Ls,Bh,NY⟩:∃z3 c3,v3=.aX [z3,.int .i64 c3]/\(mT (bQ m l)=false->Tx H3 n3 z3 (bQ m l))/\c3=(if mT (bQ m l)=true then 4 else 0):=by
  rcases t3 with⟨b1,rfl⟩|⟨b1,v,rfl,t⟩
  ·exact⟨_,_,rfl,fun h=>absurd (b1.symm.trans h) (by decide),by rw[av b1]⟩
  exact⟨_,_,rfl,fun _=>t,by rw[b1];rfl⟩
 subst Ls;have j3:=(k1.trans k2).trans k3;have pf:=fun w=>Ysq (h:=H3) (N:=n3+1) (i:=n3) (w:=w) (a0:=c1) (a1:=c3) (by omega);have hf:cg [c1,c3]=C8 m l:=by rw[hF,Ei,NY]
 rw[hf]at pf;have kD:ab H3 n3 (H3.set n3 (.cells [.int .i64 c1,.int .i64 c3] 32 true)) (n3+1):=ab.refl.new _;simp[ae,pf];generalize H3.set n3 (.cells [.int .i64 c1,.int .i64 c3] 32 true)=G at*;have kF:=kH.trans (j3.trans kD);have hw3:ay N ([]:List Nat)=[]:=rfl;by_cases h0:C8 m l=0
 ·have b1:mT (sQ m l)=false:=by
   cases h:mT (sQ m l)with
   |false=>rfl
   |true=>rw[hF]at h0;simp[cg,h]at h0
  have b3:mT (bQ m l)=false:=by
   cases h:mT (bQ m l)with
   |false=>rfl
   |true=>rw[hF]at h0;simp[cg,h,b1]at h0
  simp[h0];refine⟨kF,.inr ⟨h0,rfl,(((zT b1).ad k2).ad k3).ad kD,(Bh b3).ad kD⟩⟩
 simp[h0];exact⟨kF,.inl ⟨h0,rfl,rfl,rfl⟩⟩
def Ywq{n:Nat}(hn:n<=5)(hi:i<=5):3*kW (n*48+1) i<=400000000:=by
 have h1:n*48+1<=241:=by omega
 have h2:(5+2)*(241+5+1)<=1729:=by omega
 have h3:3*1729<=400000000:=by omega
 exact iZ (lF 3 (ZF h1 hi h2)) h3
def Ywp(hk:k<=5)(hi:i<=5):3*kW ((k+1)*17296+1) i<=400000000:=by
 have h3:3*726481<=400000000:=by omega
 exact iZ (lF 3 (Ypd hk (aM _) i hi)) h3
def Ysw{h:T O}{N:Nat}{x:V}{l:List Rat}(hx:d_ h N x l):fN (h.set N (.cells [x] 82 true)) (N+1) (.slice N 0 1 (some 1) 1) [l]:=
 ⟨[x],Sl.row (by omega) (by rw[T.ag,av rfl]) rfl (fun k hk=>by simp at hk;omega),rfl,fun j r hr=>by
  match j with
  |0=>
   simp at hr
   subst hr
   exact⟨x,rfl,hx.ad (ab.refl.new _)⟩
  |j+1=>simp at hr⟩
def Ywr{h:T O}{N:Nat}{m:List (List aG)}{l:List aG}(hm:eN h N u m)(hl:Sl h N v (strs l))(hP:iG h N)(sm:jO 5 5 m=true)(sl:dr 5 l=true)(Tl:NU 12 ([l]++m)=true):Fn A.C 21 [u,v] h N (fun x h' n'=>∃a b c,x=.aX [a,b,.int .i64 c]/\SpT m l a b c h' n'):=by
 intro w;have Tm:=Zpe sm (show 5<=6 by decide) (show 5<=6 by decide);have ZJ:=ZK sl (show 5<=6 by decide);obtain⟨m1,m2⟩:=Lu Tm;obtain⟨l1,l2⟩:=Ej ZJ;obtain⟨o4,o5⟩:=hm.one;have o2:=hl.form.one;have o3:=hl.form.cells;rw[aQ,A.k21 (by simp)];unfold V.one at o2 o4;unfold V.cells at o3 o5;simp[A.b21,o2,o3,o4,o5,ae];generalize hH:((h.set N (.cells [u] 22 true)).set (N+1) (.cells [v] 23 true)).set (N+1+1) (.cells [.func 83 [] [.ptr N 0],.func 84 [] [.ptr (N+1) 0,.ptr N 0]] 87 true)=H;have kB:ab h N H (N+1+1+1):=by rw[<-hH];exact((ab.refl.new _).new _).new _
 have g0:H.get N=some (.cells [u] 22 true):=by rw[<-hH];simp
 have g1:H.get (N+1)=some (.cells [v] 23 true):=by rw[<-hH];simp
 have g2:H.get (N+1+1)=some (.cells [.func 83 [] [.ptr N 0],.func 84 [] [.ptr (N+1) 0,.ptr N 0]] 87 true):=by rw[<-hH];simp
 clear hH;have hs:Sl H (N+1+1+1) (.slice (N+1+1) 0 2 (some 2) 1) [.func 83 [] [.ptr N 0],.func 84 [] [.ptr (N+1) 0,.ptr N 0]]:=Sl.row (by omega) g2 rfl (fun k hk=>by simp at hk;omega);have key:=Ob (l:=[fI m 64 16,dj l (aW m)]) hs rfl (by simp) (Z2 (P:=fun f e _=>∀h' n',ab H (N+1+1+1) h' n'->gF A.C f [] h' n' (fun u _ _=>u=.int .i64 e)) (fun h' n' hk=>Yrq (l:=l) ((hk.get N (by omega)).trans g0) (by have:=hk.le;omega) ((hm.ad kB).ad hk) m1 m2) (fun hz h' n' hk=>Yrp ((hk.get (N+1) (by omega)).trans g1) (by have:=hk.le;omega) ((hk.get N (by omega)).trans g0) (by have:=hk.le;omega) ((hm.ad kB).ad hk) m1 m2 ((hl.ad kB).ad hk) l1 l2 (Lr hz Tm).pos));change Fn A.C 54 _ H _ (fun u _ _=>u=.int .i64 (IB m l))at key;refine ar key ?_;rintro _ H2 n2 k2 rfl;have kR:=k2.le;have kC:=kB.trans k2;by_cases hE:IB m l=0
 ·have hS:=Ywo hE sm sl Tl;have hM:=hS.ok;have NX:=hS.n5;have wA:=hM.n1;have hs5:=hS.le;have AQ:=hM.pos;have lM:(bF m).length=m.length:=D6;have ll:(a_ l).length=aW m:=by simp[a_,hS.len]
  have qR:=ZH hM.qb.1 hS.qm NX (by omega);have rR:=xg (n:=aW m) hM.qb.1;have kl:=@ZG (bF m) (aW m);have g3:=(k2.get N (by omega)).trans g0;have g4:=(k2.get (N+1) (by omega)).trans g1;have d1:N<n2:=by omega
  have d2:N+1<n2:=by omega
  simp[hE,g4];refine ar (Ek (l:=a_ l) (k0:=100) (jB.sl (hl.ad kC) hS.okl) (by omega) hS.okl.qb (by decide)) ?_;rintro c H3 n3 k3 hc;have uZ:=k3.le;have g5:=(k3.get N (by omega)).trans g3;have d3:N<n3:=by omega
  simp[g5];refine ar (Lv (k0:=100) ((hm.ad (kC.trans k3)).rat fun r hr=>(hM.row r hr).2) (by omega) (fun r hr=>by obtain⟨a1,a2⟩:=hM.rat r hr;exact⟨by omega,a2⟩) (by decide)) ?_;rintro y H4 n4 k4 hy;simp[];refine ar (NI (B:=kW (aW m*48+1)) hy hM.qb.1 (by omega) (by omega) (by omega) (fun _=>SX) (fun k=>Ig (Zip hS.qm hM.qb.1) hM.qb.1 (by omega) k) (fun i h1 h2=>Ywq NX (by omega))) ?_;rintro _ H5 n5 k5 ⟨bs,pv,rfl,U0,_⟩;have hc5:=(hc.ad k4).ad k5;have lc:=hc5.1.len;rw[ll]at lc;have lb:=U0.len;simp[lc];refine ar (Zsq (n:=aW m) (by omega)) ?_;rintro _ H6 n6 k6 ⟨rfl,hz⟩;have kD:=(((kC.trans k3).trans k4).trans k5).trans k6;have hc6:=hc5.ad k6;have Wo:=U0.ad k6;by_cases h0:(aK (bF m) (aW m)).length=0
  ·have eQ:=hz.ND;rw[di,List.length_range]at eQ;have eS:sQ m l=(List.range (aW m)).map fun _=>0:=by unfold sQ kZ;rw[av h0]
   rw[<-eS]at eQ;simp[lb,h0];refine mO (Zzx kD hE hS hc6.1 eQ.1 (hP.ad kD) (by simp) (by simp)) ?_;rintro e fr ⟨Ht,nt,Wt⟩ ⟨rfl,r',rfl,t1,t2,a,b,c',t3,t4,t5,t6⟩;simp only at t1 t2 t6;simp[t3,t4,t5,az];exact⟨t1,t2,_,_,_,⟨rfl,rfl,rfl⟩,t6⟩
  have jJ:0<(aK (bF m) (aW m)).length:=by omega
  have zch:(0:Int)<((aK (bF m) (aW m)).length:Int):=by omega
  obtain⟨qG,qv,Hs,hHs,qH,lH,rH⟩:=Zz2 hM.qb.1 hS.qm NX (by omega) hS.ql jJ;have eS:sQ m l=(dt (aK (bF m) (aW m)) (aW m)).map fun r=>dh r (kX Hs 0):=by unfold sQ kZ;rw[ak h0,hHs];rfl
  simp[lb,jJ,lc];refine ar (Lh (n:=aW m) Wo (by omega) rR (by omega)) ?_;rintro x7 H7 n7 k7 hx7;simp[];refine ar (Ta (c:=(aK (bF m) (aW m)).length) (n:=aW m) (j:=1729) (k:=1729) (Wo.ad k7) hx7.Ax rR C0 (by rw[jN];exact aM _) (by rw[jN];exact wA) (by omega) (by rw[jN];omega) (by omega) qR (fun r hr=>(Av qR (by decide) r hr).2) (by decide) (by decide) (by rw[jN];omega)) ?_;rw[Zuq rR];rintro x8 H8 n8 k8 hx8;simp[];refine ar (NG (n:=aW m) (j:=1729) (k:=48) ((Wo.ad k7).ad k8) ((hc6.ad k7).ad k8).1 (fun r hr=>⟨rR r hr,qR r hr⟩) (by omega) hS.ql (by decide) (by decide) (by omega) (by omega)) ?_;rintro x9 H9 n9 k9 Ts;obtain⟨_,p1,p2⟩:=Ts.D3;have vf:ae [V.aa] 0 [x9]=[x9]:=rfl;have kE:ab H9 n9 (H9.set n9 (.cells [x9] 82 true)) (n9+1):=ab.refl.new _;have h1:=Ysw Ts;simp[-V.one, -V.cells,p1,p2,vf,lb];refine ar (Lh (n:=(aK (bF m) (aW m)).length) h1 (by simp) (fun r hr=>by
   obtain rfl:r=_:=by simpa using hr
   rw[di]) (by omega)) ?_;rintro x10 H10 n10 k10 So;have FI:dt [(aK (bF m) (aW m)).map fun r=>dh r (a_ l)] (aK (bF m) (aW m)).length=vn ((aK (bF m) (aW m)).map fun r=>dh r (a_ l)):=by unfold vn;rw[di]
  rw[FI]at So;have j9:=(k9.trans kE).trans k10;simp[];refine ar (Zuw (n:=(aK (bF m) (aW m)).length) (c:=1) (B:=kW (((aK (bF m) (aW m)).length+1)*17296+1)) (hx8.ad j9) So.Ax Aw NM vj (by rw[Is,di]) jJ (by omega) (by decide) (by decide) (fun _=>SX) (Ypw Aw (by rw[vj,di]) qG qv (by decide)) (fun i hi=>Ywp (by omega) (by omega))) ?_;rintro _ H11 n11 k11 za9;rcases za9 with⟨a1,_⟩|⟨Hs',z,a1,rfl,a2⟩
  ·rw[hHs]at a1;cases a1
  rw[hHs]at a1;obtain rfl:=pC a1;have j11:=((k7.trans k8).trans j9).trans k11;simp[lc];refine ar (Lh (n:=aW m) (Wo.ad j11) (by omega) rR (by omega)) ?_;rintro x12 H12 n12 k12 za_;simp[];refine ar (Zua (n:=1) (k:=0) (a2.ad k12) (by omega) rH (by decide)) ?_;rintro x13 H13 n13 k13 zba;simp[];have qc:∀q∈kX Hs 0,Qb 726481 q:=fun q hq=>by obtain⟨r,hr,rfl⟩:=bK.1 hq;exact mS (qH r hr) (by decide) 0
  refine ar (NG (n:=(aK (bF m) (aW m)).length) (j:=1729) (k:=726481) (za_.Ax.ad k13) zba.1 (fun r hr=>Av qR (by decide) r hr) (by rw[kX,di];omega) qc (by decide) (by decide) (by omega) (by rw[jN];omega)) ?_;rintro x14 H14 n14 k14 Sp;rw[<-eS]at Sp;have j14:=((j11.trans k12).trans k13).trans k14;have kF:=kD.trans j14;simp[];refine mO (Zzx kF hE hS (hc6.ad j14).1 Sp.1 (hP.ad kF) (by simp) (by simp)) ?_;rintro e fr ⟨Ht,nt,Wt⟩ ⟨rfl,r',rfl,t1,t2,a,b,c',t3,t4,t5,t6⟩;simp only at t1 t2 t6;simp[t3,t4,t5,az];exact⟨t1,t2,_,_,_,⟨rfl,rfl,rfl⟩,t6⟩
 simp[hE,az];refine⟨kC,_,_,_,⟨rfl,rfl,rfl⟩,.inl ⟨?_,rfl,rfl,?_⟩⟩
 ·rw[C8,ak hE];exact hE
 rw[C8,ak hE]
variable {l os ss ws xs:List aG} {m:List (List aG)}
def Yi1{s:aG}(h:yu s 2=true):aV s=0/\s.length<=6/\Qb 7 (jo s):=by unfold yu Sd at h;simp only[fW,decide_eq_true_eq]at h;obtain⟨h1,h2,h3,h4⟩:=h;have h3:=(CO (n:=(jo s).num.natAbs) (k:=2) (by decide)).1 h3;have h4:=(CO (n:=(jo s).den) (k:=2) (by decide)).1 h4;exact⟨h2,by omega,fg h3 (by decide),fg h4 (by decide)⟩
def KW{n:Nat}(h:qW l n 2=true):l.length<=n/\(∀s∈l,aV s=0/\s.length<=6)/\∀q∈a_ l,Qb 7 q:=by
 unfold qW at h;rw[fW,iK,decide_eq_true_eq]at h;refine⟨h.1,fun s hs=>?_,fun q hq=>?_⟩
 ·obtain⟨a,b,_⟩:=Yi1 (h.2 s hs);exact⟨a,b⟩
 obtain⟨s,hs,rfl⟩:=bK.1 hq;exact(Yi1 (h.2 s hs)).2.2
def Sq{n:Nat}(h:qW l n 2=true)(hk:n<=k):dr k l=true:=by obtain⟨h1,h2,_⟩:=KW h;unfold dr;rw[fW,iK];refine⟨by simp[mL];omega,fun s hs=>?_⟩;have:=(h2 s hs).2;simp[qq];omega
structure Bi (m:List (List aG)) (ws ss xs os:List aG):Prop where
 n1:0<aW m
 n4:aW m<=4
 s1:0<m.length
 s5:m.length<=5
 rc:aU (bF m) (aW m)
 qb:bH (bF m) 7
 t:m=(bF m).map fun r=>r.map aO
 sh:jO 6 6 m=true
 sh5:jO 5 5 m=true
 ck:fI m 64 64=0
 c16:fI m 64 16=0
 wl:ws.length=m.length
 wq:∀q∈a_ ws,Qb 7 q
 wp:∀q∈a_ ws,0<q
 wk:tj ws m.length 1=0
 wo:jB ws
 Tu:dr 6 ws=true
 sl:ss.length=m.length
 sq:∀q∈a_ ss,Qb 7 q
 sk:dj ss m.length=0
 so:jB ss
 shs:dr 6 ss=true
 xl:xs.length=aW m
 xq:∀q∈a_ xs,Qb 7 q
 xk:dj xs (aW m)=0
 xo:jB xs
 shx:dr 6 xs=true
 zbb:dr 5 xs=true
 ol:os.length=aW m
 oq:∀q∈a_ os,Qb 7 q
 ok:dj os (aW m)=0
 oo:jB os
 sho:dr 6 os=true
 zbc:NU 12 ([xs]++m)=true
def Xal(h:Bo m 5 4 2=true)(wk:tj ws m.length 1=0)(sk:dj ss m.length=0)(xk:dj xs (aW m)=0)(ok:dj os (aW m)=0)(fw:qW ws 5 2=true)(fs:qW ss 5 2=true)(fx:qW xs 4 2=true)(fo:qW os 4 2=true):Bi m ws ss xs os:=by
 unfold Bo at h;simp only[fW,decide_eq_true_eq,iK]at h;obtain⟨h1,h2,h3,h4,h5⟩:=h;obtain⟨a1,a2,a3,a4,a5⟩:=Zwj h3;obtain⟨w1,w2,w3⟩:=KW fw;obtain⟨e1,e2,e3⟩:=KW fs;obtain⟨x1,x2,x3⟩:=KW fx;obtain⟨o1,o2,o3⟩:=KW fo;have FM:∀{l:List aG},(∀s∈l,aV s=0/\s.length<=6)->jB l:=fun h s hs=>⟨(h s hs).1,by have:=(h s hs).2;omega⟩;refine⟨a2,h4,a1,h2,fun r hr=>?_,fun r hr q hq=>?_,Yl1 fun l hl=>(a5 l hl).2,Zpd h1 (by decide) (by decide),Zpd h1 (by decide) (by decide),?_,h3,?_,w3,Ybq wk,wk,FM w2,Sq fw (by decide),Lt sk,e3,sk,FM e2,Sq fs (by decide),Lt xk,x3,xk,FM x2,Sq fx (by decide),Sq fx (by decide),Lt ok,o3,ok,FM o2,Sq fo (by decide),?_⟩
 ·obtain⟨l,hl,rfl⟩:=bK.1 hr;rw[a_,di];exact(a5 l hl).1
 ·obtain⟨l,hl,rfl⟩:=bK.1 hr;exact(KW (h5 l hl)).2.2 q hq
 ·unfold fI at h3 ⊢;rw[ak (by omega),ak (by omega)]at h3 ⊢;exact h3
 ·unfold tj at wk;split at wk
  ·assumption
  exact absurd wk (by decide)
 unfold NU ZE;rw[iK];intro l hl;rw[iK];intro s hs;rw[decide_eq_true_eq];rcases jn.1 hl with hl|hl
 ·rw[u9.1 hl]at hs;have:=(x2 s hs).2;omega
 have:=((KW (h5 l hl)).2.1 s hs).2;omega
def Bi.kr(h:Bi m ws ss xs os):C9 m ws=0:=F9 fun e he=>by
 simp only[ky,List.not_mem_nil,or_false]at he
 rcases he with rfl|rfl
 ·exact h.c16
 ·exact h.wk
def Bi.res(h:Bi m ws ss xs os)(hl:dj l (aW m)=0):NZ m ss l=0/\N6 m ws ss l=0:=by
 constructor
 ·exact F9 fun e he=>by
   simp only[ky,List.not_mem_nil,or_false]at he;rcases he with rfl|rfl|rfl
   ·exact h.c16
   ·exact h.sk
   exact hl
 exact F9 fun e he=>by
  simp only[ky,List.not_mem_nil,or_false]at he;rcases he with rfl|rfl|rfl
  ·exact h.kr
  ·exact h.sk
  exact hl
def Bi.app{h:T O}{N:Nat}{l:List Rat}(hI:Bi m ws ss xs os)(hm:eN h N u m)(hl:Tx h N v l)(hP:iG h N)(ql:∀q∈l,Qb 1800 q)(ll:l.length=aW m):Fn A.C 13 [u,v] h N (fun x h' n'=>Oa 0 ((bF m).map fun r=>dh r l) x h' n'):=by have s1:=hI.s1;have s5:=hI.s5;have n4:=hI.n4;have lD:(bF m).length=m.length:=D6;exact ZU (c:=aW m) (hm.rat fun r hr=>((Tr hI.kr hI.sh hI.Tu).1.row r hr).2) hl hP (by omega) (by omega) hI.n1 (by omega) hI.rc (hI.qb.mono (by decide)) ql ll
variable {D:List (List Rat)} {n:Nat} {x:List Rat}
def Tw{P:Rat->Prop}(h:∀j,j<n->P (r[j]?.getD 0))(hl:r.length=n):∀q∈r,P q:=fun q hq=>by
 obtain⟨j,hj⟩:=pK hq
 have:=h j (by rw[<-hl];exact gI hj)
 rwa [hj]at this
def Yjc{s:List Rat}:dh ((List.range S).map fun _=>(0:Rat)) s=0:=by rw[F8 (n:=S) (by simp)];exact pJ fun l _=>by rw[Lk,Rat.zero_mul]
def Yvp{w:List Rat}(hD:aU D n)(jy:0<n)(hw:w.length=D.length)(hp:∀q∈w,0<q)(rM:x.length=n):((jx D w n).map fun r=>dh r (D.map fun r=>dh r x))=kZ D x n:=by
 refine Iq (by rw[di,Ln,NV]) fun j hj=>?_;rw[di,Ln]at hj;by_cases h0:0<(aK D n).length
 ·exact Yly hD jy hw hp rM h0 j hj
 have h1:(aK D n).length=0:=by omega
 unfold jx kZ;rw[av h1,av h1,Lk];unfold yQ;rw[List.map_map,eH,wY hj];exact Yjc
def Ygw(hD:aU D n)(rM:x.length=n):mF (fun a b=>a+b) (kZ D x n) (rm D x n) n=x:=by refine Iq (by rw[zG,rM]) fun j hj=>?_;rw[zG]at hj;have h:=Te (x:=x) hD j hj;rw[h];unfold mF;rw[eH,wY hj];rfl
def Ygv(hD:aU D n):dh (kZ D x n) (rm D x n)=0:=by obtain⟨y,hy⟩:=@Zv D x n;rw[F8 NV];exact(bq fun l _=>Rat.mul_comm _ _).trans (Lm hD hy (Zw (c:=x) hD))
def Yen(hD:aU D n)(qD:bH D 7)(qx:∀q∈x,Qb 7 q)(rM:x.length=n)(hn:n<=4):∀j,j<n->Qb 693 ((rm D x n)[j]?.getD 0):=fun j hj=>by
 have h1:=Zuy hD qD qx rM hn j hj
 have h2:=(mS qx (by decide) j).add (Ygu h1)
 have h3:=Te (x:=x) hD j hj
 rw[show x[j]?.getD 0+ -(kZ D x n)[j]?.getD 0=(rm D x n)[j]?.getD 0 by rw[h3];grind]at h2
 exact h2
def Yvl(hD:aU D n):(D.map fun r=>dh r (rm D x n))=(List.range D.length).map fun _=>0:=by apply List.ext_getElem (by simp);intro i h1 h2;rw[di]at h1;simp only[List.getElem_map];rw[F8 (hD _ (List.getElem_mem h1))];refine(bq fun l _=>?_).trans (Zw (c:=x) hD i h1);show _=al D i l*(rm D x n)[l]?.getD 0;unfold al;rw[ct h1];rfl
variable {N:Nat} {h:T O}
def Yr2:Fn A.C 24 [.int .i64 0] h N (fun x _ _=>x=.aa):=by
 intro w;rw[aQ,A.k24 (by simp)];simp[A.b24];refine b_ [(3,12)] (fun e r st=>e=.exit 0/\ay N st.w=[]/\ab h N st.h st.n/\r.get 3=some .aa) (fun m r st=>m=0/\ay N st.w=[]/\ab h N st.h st.n/\r.get 4=some (.int .i64 0)/\r.get 3=some .aa) 0 ?_ ?_ ?_
 ·exact⟨rfl,by simp,ab.refl,by simp,by simp⟩
 ·rintro m r ⟨H,n1,W⟩ hr hf ⟨rfl,hW,hK,h4,h3⟩;simp only at hW hK;rw[bu];simp[A.uA,hr,hf,h3,h4,hW,hK]
 rintro _ r ⟨H,n1,W⟩ hr ⟨rfl,hW,hK,h3⟩;simp only at hW hK;simp[h3,az,hW,hK]
def Yr1(hn:n<1000):Fn A.C 24 [.int .i64 n] h N (fun x h' n'=>Tx h' n' x ((List.range n).map fun _=>0)):=by
 by_cases h0:0<n
 ·intro w;refine(Yf2 h0 hn w).mono fun v st ⟨q1,q2,q3⟩=>⟨q1,q2,?_⟩;obtain⟨R,rfl,_,hR⟩:=q3;have:=hR.yF.1;simpa using this
 obtain rfl:n=0:=by omega
 intro w;refine(Yr2 w).mono fun v st ⟨q1,q2,q3⟩=>⟨q1,q2,?_⟩;subst q3;exact .inl ⟨rfl,.inl rfl⟩
def Bn{w:List Nat}(hP:iG h N):A.C.call (.func 9 [] []) [] ⟨h,N,w⟩=some (.bool true,⟨h,N,w⟩):=by exact A.known hP.2
def Ly(h:∀q∈x,Qb 1800 q):∀s∈x.map aO,s.length<=100000:=fun s hs=>by
 obtain⟨q,hq,rfl⟩:=bK.1 hs
 have:=(C4 (h q hq) (aM _)).2
 omega
def Oa.got{e:Int}{l:List Rat}{x:V}(s:Oa e l x h n)(he:e=0)(hq:∀q∈l,Qb 1800 q):∃v,x=.aX [v,.int .i64 0]/\Tx h n v l:=by
 rcases s with⟨t1,_⟩|⟨_,⟨t1,_⟩|⟨_,v,rfl,t⟩⟩
 ·exact absurd he t1
 ·rw[NP hq]at t1;cases t1
 exact⟨v,rfl,t⟩
def Ya1{B:T O}(hI:Bi m ws ss xs os)(Iu:nB<=n0)(hd:eN B n0 vd m)(hx:Sl B n0 xv (strs xs))(hP:iG B n0)(hB:B.get B0=some (.cells [wv,sv,xv] 25 true))(nE:B0<n0)(hW:ay nB W=[])(hK:ab B n0 H n1)(hR:oa H n1 vR (jx (bF m) (a_ ws) (aW m)))(a0:r0.get 0=some vd)(a4:r0.get 4=some (.ptr B0 0))(a7:r0.get 7=some vR):
  Code A.C none A.Bc ⟨r0,368,[]⟩ ⟨H,n1,W⟩ (fun e fr st=>e=.ret/\∃r,fr=⟨r,368,[]⟩/\r.get 6=some (.bool true)/\ay nB st.w=[]/\ab B n0 st.h st.n):=by
 rw[bu];have Ti:=hK.le;have oF:=hI.n1;have n4:=hI.n4;have s1:=hI.s1;have s5:=hI.s5;have lD:(bF m).length=m.length:=D6;have Sr:(a_ xs).length=aW m:=by simp[a_,hI.xl]
 have gB:=(hK.get B0 nE).trans hB;have Z9:B0<n1:=by omega
 obtain⟨S',eS⟩:∃S',(bF m).map (fun r=>dh r (a_ xs))=S':=⟨_,rfl⟩;have qS:∀q∈S',Qb 1800 q:=fun q hq=>by rw[<-eS]at hq;obtain⟨r,hr,rfl⟩:=bK.1 hq;exact(CY (n:=4) (hI.qb r hr) hI.xq (by decide) (by decide) (by rw[hI.rc r hr];exact n4)).mono (by decide)
 have lS:S'.length=m.length:=by rw[<-eS,di,lD]
 have ld:=hd.len;obtain⟨l0,cB,h0⟩:∃l0,m[0]?=some l0/\aW m=l0.length:=by obtain⟨l0,cB⟩:=bj (l:=m) (k:=0) (by omega);exact⟨l0,cB,by unfold aW;rw[cB];rfl⟩
 simp(disch:=first|(simp;done)|omega|rfl) [-getElem?_pos,A.Bc,a0,a4,a7,gB,Z9];refine ar (hI.app (hd.ad hK) (jB.sl (hx.ad hK) hI.xo) (hP.ad hK) (fun q hq=>(hI.xq q hq).mono (by decide)) Sr) ?_;rintro _ H2 n2 k2 hT;rw[eS]at hT;obtain⟨v2,rfl,t2⟩:=hT.got rfl qS;have DS:=hK.trans k2;have kR:=k2.le;simp(disch:=first|(simp;done)|omega|rfl) [-getElem?_pos,a0,a4,a7,bA,ld];refine ar (Em (n:=m.length) (l:=S'.map aO) t2 (by rw[di];omega) (Ly qS)) ?_;rintro _ H3 n3 k3 rfl;have Hy:=DS.trans k3;have IF:dj (S'.map aO) m.length=0:=by rw[<-lS];exact IG qS
 rw[IF];have wq:=hI.wq;have rV:(a_ ws).length=(bF m).length:=by rw[lD];simp[a_,hI.wl]
 have qR:=Ypn hI.rc oF rV hI.wp hI.qb wq n4 (by omega);have bk:=Yvp (D:=bF m) (w:=a_ ws) (x:=a_ xs) hI.rc oF rV hI.wp Sr;rw[eS]at bk;simp(disch:=first|(simp;done)|omega|rfl) [-getElem?_pos,a0,a4,a7,bA,ld];refine ar (ZU (c:=m.length) ((hR.ad k2).ad k3) (t2.ad k3) (hP.ad Hy) (by rw[Ln];exact oF) (by rw[Ln];omega) s1 (by omega) (by rw[<-lD];exact Zt) (qR.mono (by decide)) qS lS) ?_;rintro _ H4 NS k4 hT4;rw[bk]at hT4;have KX:∀q∈kZ (bF m) (a_ xs) (aW m),Qb 685 q:=Tw (Zuy hI.rc hI.qb hI.xq Sr n4) NV;have KY:∀q∈rm (bF m) (a_ xs) (aW m),Qb 693 q:=Tw (Yen hI.rc hI.qb hI.xq Sr n4) To;obtain⟨v4,rfl,t4⟩:=hT4.got rfl (fun q hq=>(KX q hq).mono (by decide));have rW:=Hy.trans k4;have zS:=rW.le;have C6:=(rW.get B0 nE).trans hB;have zbd:B0<NS:=by omega
 simp(disch:=first|(simp;done)|omega|rfl) [-getElem?_pos,a0,a4,a7,C6,zbd];refine ar (Ywr (hd.ad rW) (hx.ad rW) (hP.ad rW) hI.sh5 hI.zbb hI.zbc) ?_;rintro _ H5 n5 k5 ⟨va,vb,ce,rfl,hSp⟩;have xY:IB m xs=0:=F9 fun e he=>by
  simp only[ky,List.not_mem_nil,or_false]at he;rcases he with rfl|rfl
  ·exact hI.c16
  exact hI.xk
 have Uf:C8 m xs=0:=by unfold C8;rw[av xY];unfold sQ bQ;rw[NP fun q hq=>(KX q hq).mono (by decide),NP fun q hq=>(KY q hq).mono (by decide)];rfl
 rcases hSp with⟨h9,_⟩|⟨_,rfl,ta,tb⟩
 ·exact absurd Uf h9
 change Tx H5 n5 va (kZ (bF m) (a_ xs) (aW m))at ta;change Tx H5 n5 vb (rm (bF m) (a_ xs) (aW m))at tb;obtain⟨Se,eSe⟩:∃l,kZ (bF m) (a_ xs) (aW m)=l:=⟨_,rfl⟩;obtain⟨Bl,eBl⟩:∃l,rm (bF m) (a_ xs) (aW m)=l:=⟨_,rfl⟩;have pa:=Ygw (x:=a_ xs) hI.rc Sr;have pd:=Ygv (x:=a_ xs) hI.rc;have pz:=Yvl (x:=a_ xs) hI.rc;have lse:Se.length=aW m:=by rw[<-eSe];exact NV
 have lbl:Bl.length=aW m:=by rw[<-eBl];exact To
 rw[eSe]at KX t4 ta pa pd;rw[eBl]at KY tb pa pd pz;have kk5:=rW.trans k5;have ID:=kk5.le;have hsr:=fun w=>Zxc (w:=w) (l:=Se.map aO) (t4.ad k5) ta (by simp;omega);obtain⟨i,o,cc,e,rw,u0,q1,q2,q3,q4,q5⟩:=(hd.ad kk5).at cB;have l5:=q5.len;rw[mY,<-h0]at l5;rw[gE]at q4;have El:(0:Int)<(m.length:Int):=by omega
 simp(disch:=first|(simp;done)|omega|rfl) [-getElem?_pos,a0,a4,a7,bA,ld,hsr,s1,El,q1,q2,q3,q4,l5];refine ar (Em (n:=aW m) (l:=Se.map aO) ta (by rw[di];omega) (Ly fun q hq=>(KX q hq).mono (by decide))) ?_;rintro _ H6 n6 k6 rfl;have jX:dj (Se.map aO) (aW m)=0:=by rw[<-lse];exact IG fun q hq=>(KX q hq).mono (by decide)
 have hcb:dj (Bl.map aO) (aW m)=0:=by rw[<-lbl];exact IG fun q hq=>(KY q hq).mono (by decide)
 rw[jX];have kk6:=kk5.trans k6;have Lw:=kk6.le;obtain⟨i',o',Ok,e',rj,u0',p1,p2,p3,p4,p5⟩:=(hd.ad kk6).at cB;have l5':=p5.len;rw[mY,<-h0]at l5';rw[gE]at p4;simp(disch:=first|(simp;done)|omega|rfl) [-getElem?_pos,a0,a4,a7,bA,ld,s1,El,p1,p2,p3,p4,l5'];refine ar (Em (n:=aW m) (l:=Bl.map aO) (tb.ad k6) (by rw[di];omega) (Ly fun q hq=>(KY q hq).mono (by decide))) ?_;rintro _ H7 n7 k7 rfl;rw[hcb];have kk7:=kk6.trans k7;have ZS:=kk7.le;simp(disch:=first|(simp;done)|omega|rfl) [-getElem?_pos,a0,a4,a7,bA];refine ar (Yo0 (j:=685) (k:=693) ((ta.ad k6).ad k7) ((tb.ad k6).ad k7) (by omega) KX KY (by decide) (by decide) (by omega)) ?_;rintro vS H8 n8 k8 ho8;have tS:=(Yw8 ho8).1;rw[lse,pa]at tS;have tS2:Sl H8 n8 vS (strs xs):=by unfold Tx tx at tS;rwa [hI.xo.yF]at tS
 have Wp:=kk7.trans k8;have ZT:=Wp.le;have gB8:=(Wp.get B0 nE).trans hB;have IJ:B0<n8:=by omega
 have zbe:=fun w=>Zxc (w:=w) (l:=xs) tS2 (hx.ad Wp) (by have:=hI.xl;omega);simp(disch:=first|(simp;done)|omega|rfl) [-getElem?_pos,a0,a4,a7,bA,gB8,IJ,zbe];refine ar (Tj (j:=685) (k:=693) (((ta.ad k6).ad k7).ad k8) (((tb.ad k6).ad k7).ad k8) (by omega) KX KY (by decide) (by decide) (by have:=jz (685+693+1) (show Se.length<=4 by omega);omega)) ?_;rintro _ H9 n9 k9 rfl;have kk9:=Wp.trans k9;have tb9:=(((tb.ad k6).ad k7).ad k8).ad k9;simp(disch:=first|(simp;done)|omega|rfl) [-getElem?_pos,a0,a4,a7,bA,pd,Iw,dv.dw];refine ar (hI.app (hd.ad kk9) tb9 (hP.ad kk9) (fun q hq=>(KY q hq).mono (by decide)) lbl) ?_;rintro _ H10 n10 k10 Ss;have UZ:(bF m).map (fun r=>dh r Bl)=(List.range m.length).map fun _=>0:=by rw[<-lD];exact pz
 rw[UZ]at Ss;rcases Ss with⟨t1,_⟩|⟨_,⟨t1,_⟩|⟨_,v10,rfl,t10⟩⟩
 ·exact absurd rfl t1
 ·rw[Xa3]at t1;cases t1
 have zbf:=kk9.trans k10;simp(disch:=first|(simp;done)|omega|rfl) [-getElem?_pos,a0,a4,a7,bA,ld];refine ar (Yr1 (n:=m.length) (by omega)) ?_;rintro vz H11 n11 k11 hz;have Su:=zbf.trans k11;have zbg:=fun w=>Zxc (w:=w) (l:=((List.range m.length).map fun _=>(0:Rat)).map aO) (t10.ad k11) hz (by simp;omega);have haw:=fun w=>Bn (w:=w) (hP.ad Su);simp(disch:=first|(simp;done)|omega|rfl) [-getElem?_pos,a0,a4,a7,bA,zbg,haw,hW];exact Su
variable {D:List (List Rat)} {X s w:List Rat} {n:Nat}
def Ysg(hD:aU D n)(jy:0<n)(hw:w.length=D.length)(hp:∀q∈w,0<q)(hs:s.length=D.length):∃x y:Nat->Rat,(∀j,j<n->((jx D w n).map fun r=>dh r s)[j]?.getD 0=x j)/\(∀j,j<n->x j=sN (fun a=>al (aK D n) a j*y a) (aK D n).length)/\∀k,k<n->oD D w s x n k=0:=by
 by_cases h0:0<(aK D n).length
 ·exact Zu hD jy hw hp hs h0
 have h1:(aK D n).length=0:=by omega
 refine⟨fun _=>0,fun _=>0,fun j hj=>?_,fun j _=>by rw[h1];rfl,fun k hk=>?_⟩
 ·unfold jx;rw[av h1];unfold yQ;rw[List.map_map,eH,wY hj];exact Yjc
 unfold oD;apply pJ;intro i hi;have h2:=Yga hD hi hk;rw[nO hD]at h1;rw[h1]at h2;rw[h2];show w[i]?.getD 0*(0*_)=0;rw[Rat.zero_mul,Rat.mul_zero]
def Ygf{x:Nat->Rat}(hD:aU D n)(hs:s.length=D.length)(hx:∀j,j<n->X[j]?.getD 0=x j)(hi:i<D.length):(mM s (D.map fun r=>dh r X))[i]?.getD 0=s[i]?.getD 0-eI D x n i:=by unfold mM mF;rw[eH,wY (by omega)];show _-_=_;rw[Lj hD hi];congr 1;exact bq fun j hj=>by rw[hx j hj]
def Tz:(mM a b).length=a.length:=by simp[mM,mF]
def Yjx{x:Nat->Rat}(hD:aU D n)(hs:s.length=D.length)(hx:∀j,j<n->X[j]?.getD 0=x j):dh (zP (mM s (D.map fun r=>dh r X)) w (mM s (D.map fun r=>dh r X)).length) (mM s (D.map fun r=>dh r X))=nQ D w s x n:=by
 rw[Tz,hs,F8 (n:=D.length) (by simp[zP])];unfold nQ;apply bq;intro i hi;have e:(zP (mM s (D.map fun r=>dh r X)) w D.length)[i]?.getD 0=(mM s (D.map fun r=>dh r X))[i]?.getD 0*w[i]?.getD 0:=by unfold zP;rw[eH,wY hi];rfl
 rw[e,Ygf hD hs hx hi];grind
def Ytt{x:Nat->Rat}(hD:aU D n)(hw:w.length=D.length)(hp:∀q∈w,0<q)(qD:bH D 7)(qw:∀q∈w,Qb 7 q)(qs:∀q∈s,Qb 7 q)(hn:n<=4)(hS:D.length<=5)(hs:s.length=D.length)(hx:∀j,j<n->X[j]?.getD 0=x j)(h:∀k,k<n->oD D w s x n k=0):∀q∈mM s (D.map fun r=>dh r X),Qb 810 q:=by obtain⟨d,d1,d2,d3⟩:=Ya0 hD hw hp qD qw qs hn hS h;refine Tw (n:=D.length) (fun i hi=>?_) (by rw[Tz,hs]);rw[Ygf hD hs hx hi];exact df.qb d1 d2 (d3 i hi)
def Ynb{x:Nat->Rat}(hD:aU D n)(hs:s.length=D.length)(hx:∀j,j<n->X[j]?.getD 0=x j)(h:∀k,k<n->oD D w s x n k=0):∀k,k<n->sN (fun i=>w[i]?.getD 0*(al D i k*(mM s (D.map fun r=>dh r X))[i]?.getD 0)) D.length=0:=fun k hk=>by
 refine(bq fun i hi=>?_).trans (h k hk)
 rw[Ygf hD hs hx hi]
 rfl
def Yt1{x y:Nat->Rat}(hD:aU D n)(hx:∀j,j<n->X[j]?.getD 0=x j)(hr:∀j,j<n->x j=sN (fun a=>al (aK D n) a j*y a) (aK D n).length)(hk:(bS D n)[k]?=some r):dh r X=0:=by rw[F8 (NL r (cy hk))];refine(bq fun l hl=>?_).trans (Lm hD hr (Li hD (gI hk)));show r[l]?.getD 0*X[l]?.getD 0=al (bS D n) k l*x l;rw[Yqp hk,hx l hl]
def Ypc{x:Nat->Rat}(hl:X.length=n)(hx:∀j,j<n->X[j]?.getD 0=x j):dh X X=sN (fun l=>x l*x l) n:=by rw[F8 hl];exact bq fun l hl=>by rw[hx l hl]
def Ypi{a b:Rat}(h:a<=b):dN (a-b).num<=0/\(dN (a-b).num=0->a=b):=by
 have h0:0<=(b-a).num:=Rat.num_nonneg.2 (by grind);have h1:(a-b).num<=0:=by rw[show a-b= -(b-a) by grind,Rat.neg_num];omega
 constructor
 ·unfold dN;split
  ·decide
  rw[av (by omega)];decide
 intro h2;have:=Ywv.1 h2;grind
def A.b82:=A.q Tryz.f82
def A.k82:=@A.kk 82 9 [.tmp 4] A.b82 (by kernel_rfl) rfl
def A.b20:=A.q Tryz.f20
def A.k20:=@A.kk 20 9 [.tmp 4] A.b20 (by kernel_rfl) rfl
def Ylv{a b:Rat}(ha:Qb j a)(hb:Qb k b)(hj:j<=400000000)(hk:k<=400000000)(hl:(aO b).length<1000000000):Fn A.C 82 [.str (aO a),.str (aO b)] h N (fun u _ _=>u=.str (aO (a-b))):=by intro w;have hn:=fun st=>Ys2 (q:=b) (st:=st) hl;rw[aQ,A.k82 (by simp)];simp[A.b82,hn];refine ar (SM (a:=a) (b:= -b) ha hb.neg hj hk) ?_;rintro _ H1 n1 k1 rfl;rw[<-Rat.sub_eq_add_neg];simp[az];exact k1
def Zz6{a b:Rat}(ha:Qb j a)(hb:Qb k b)(hj:j<=400000000)(hk:k<=400000000)(hl:(aO b).length<1000000000):Fn A.C 20 [.str (aO a),.str (aO b)] h N (fun u _ _=>u=.int .i64 (dN (a-b).num)):=by intro w;rw[aQ,A.k20 (by simp)];simp[A.b20];refine ar (Ylv ha hb hj hk hl) ?_;rintro _ H1 n1 k1 rfl;have hs:=fun st=>P6 (q:=a-b) (st:=st);simp[hs,az];exact k1
def Ynd{B:T O}{vb vX vL ov:V}{L:List Rat}{x y:Nat->Rat}(hI:Bi m ws ss xs os)(Iu:nB<=n0)(hd:eN B n0 vd m)(hw:Sl B n0 wv (strs ws))(hx:Sl B n0 xv (strs xs))(ho:Sl B n0 ov (strs os))(hP:iG B n0)(hB:B.get B0=some (.cells [wv,sv,xv] 25 true))(nE:B0<n0)(hW:ay nB W=[])(hK:ab B n0 H n1)(hR:oa H n1 vR (jx (bF m) (a_ ws) (aW m)))(hb:oa H n1 vb (bS (bF m) (aW m)))(qK:bH (bS (bF m) (aW m)) 1212)(lK:(bS (bF m) (aW m)).length<=5)(hX:Tx H n1 vX X)(lX:X.length=aW m)(qX:∀q∈X,Qb 1420 q)(eL:mM (a_ ss) ((bF m).map fun r=>dh r X)=L)(hL:Tx H n1 vL L)(qL:∀q∈L,Qb 810 q)(fx:∀j,j<aW m->X[j]?.getD 0=x j)(fr:∀j,j<aW m->x j=sN (fun a=>al (aK (bF m) (aW m)) a j*y a) (aK (bF m) (aW m)).length)(fn:∀k,k<aW m->oD (bF m) (a_ ws) (a_ ss) x (aW m) k=0)(q1:Qb 1659 (nQ (bF m) (a_ ws) (a_ ss) x (aW m)))(q2:Qb 17000 (nQ (bF m) (a_ ws) (a_ ss) (fun l=>(a_ os)[l]?.getD 0) (aW m)))(a0:r0.get 0=some vd)(a2:r0.get 2=some ov)(a4:r0.get 4=some (.ptr B0 0))(a7:r0.get 7=some vR)(a9:r0.get 9=some vb)(uL:r0.get 11=some vX)(Lo:r0.get 13=some vL)(a15:r0.get 15=some (.str (aO (nQ (bF m) (a_ ws) (a_ ss) x (aW m)))))(a17:r0.get 17=some (.str (aO (nQ (bF m) (a_ ws) (a_ ss) (fun l=>(a_ os)[l]?.getD 0) (aW m))))):
  Code A.C none A.Be ⟨r0,368,[]⟩ ⟨H,n1,W⟩ (fun e fr st=>e=.ret/\∃r,fr=⟨r,368,[]⟩/\r.get 6=some (.bool true)/\ay nB st.w=[]/\ab B n0 st.h st.n):=by
 rw[bu];have Ti:=hK.le;have oF:=hI.n1;have n4:=hI.n4;have s1:=hI.s1;have s5:=hI.s5;have lD:(bF m).length=m.length:=D6;have lwr:(a_ ws).length=m.length:=by simp[a_,hI.wl]
 have lsr:(a_ ss).length=(bF m).length:=by rw[lD];simp[a_,hI.sl]
 have lor:(a_ os).length=aW m:=by simp[a_,hI.ol]
 have lL:L.length=m.length:=by rw[<-eL,Tz,lsr,lD]
 have ld:=hd.len;obtain⟨l0,cB,h0⟩:∃l0,m[0]?=some l0/\aW m=l0.length:=by obtain⟨l0,cB⟩:=bj (l:=m) (k:=0) (by omega);exact⟨l0,cB,by unfold aW;rw[cB];rfl⟩
 obtain⟨i,o,cc,e,rw,u0,p1,p2,p3,p4,p5⟩:=(hd.ad hK).at cB;have l5:=p5.len;rw[mY,<-h0]at l5;rw[gE]at p4;have El:(0:Int)<(m.length:Int):=by omega
 have hdT:oa H n1 vd (bF m):=eN.VD (by rw[<-hI.t];exact hd.ad hK);have hwT:Tx H n1 wv (a_ ws):=jB.sl (hw.ad hK) hI.wo;have Aj:=Ynb (w:=a_ ws) hI.rc lsr fx fn;rw[eL,lD]at Aj;simp[A.Be,a0,ld,s1,p1,p3,p4,l5];refine b_ [(6,6),(19,21),(221,252)] (fun e r st=>e=.exit 0/\ay nB st.w=[]/\ab H n1 st.h st.n) (fun j r st=>ay nB st.w=[]/\ab H n1 st.h st.n/\∃k,k+j=aW m/\r.get 221=some (.int .i64 (k:Nat))) (aW m) ?_ (Ym8 (nB:=nB) (B:=H) (n0:=n1) (B0:=B0) (S:=m.length) (w:=a_ ws) (L:=L) (D:=bF m) (n:=aW m) (vd:=vd) (vL:=vL) (wv:=wv) (sv:=sv) (xv:=xv) (by omega) lD s5 n4 hI.rc hI.qb lwr hI.wq lL (fun q hq=>(qL q hq).mono (by decide)) Aj hdT hwT hL ((hK.get B0 nE).trans hB) (by omega) (by simp[a0]) (by simp[a4]) (by simp[Lo]) (by simp)) ?_
 ·exact⟨hW,ab.refl,0,by omega,by simp⟩
 rintro _ r ⟨H2,n2,W2⟩ hr ⟨rfl,fY,k2⟩;simp only at fY k2;have DS:=hK.trans k2;have kR:=DS.le;have lb:=hb.len;simp[hr,a9,lb];refine b_ [(6,6),(23,23),(255,263)] (fun e r st=>e=.exit 4/\ay nB st.w=[]/\ab H2 n2 st.h st.n) (fun j r st=>ay nB st.w=[]/\ab H2 n2 st.h st.n/\∃k,k+j=(bS (bF m) (aW m)).length/\r.get 255=some (.int .i64 (k:Nat))) (bS (bF m) (aW m)).length ?_ (Yna (nB:=nB) (B:=H2) (n0:=n2) (n:=aW m) (vb:=vb) (vx:=vX) (X:=X) (by omega) n4 lK NL qK lX (fun q hq=>(qX q hq).mono (by decide)) (fun k r hk=>Yt1 hI.rc fx fr hk) (hb.ad k2) (hX.ad k2) (by simp[hr,a9]) (by simp[hr,uL]) (by simp) (by simp)) ?_
 ·exact⟨fY,ab.refl,0,by omega,by simp⟩
 rintro _ r2 ⟨H3,n3,W3⟩ dJ ⟨rfl,zu,k3⟩;simp only at zu k3;have Hy:=DS.trans k3;have uZ:=Hy.le;simp[dJ,hr,a15,a17];refine ar (Zz6 q1 q2 (by decide) (by decide) (Zup q2 (by decide))) ?_;rintro _ H4 NS k4 rfl;have rW:=Hy.trans k4;have zS:=rW.le;have rD:=Yjw (fun l=>(a_ os)[l]?.getD 0) (by rw[lD];exact lwr) hI.wp fn;obtain⟨g1,g2⟩:=Ypi rD;have c1:¬dN (nQ (bF m) (a_ ws) (a_ ss) x (aW m)-nQ (bF m) (a_ ws) (a_ ss) (fun l=>(a_ os)[l]?.getD 0) (aW m)).num=1:=by omega
 by_cases hz:dN (nQ (bF m) (a_ ws) (a_ ss) x (aW m)-nQ (bF m) (a_ ws) (a_ ss) (fun l=>(a_ os)[l]?.getD 0) (aW m)).num=0
 ·have Sv:=Yu2 hI.rc (by rw[lD];exact lwr) hI.wp fr fn (g2 hz).symm;rw[<-Ypc lX fx,<-Ypc lor (fun j _=>rfl)]at Sv;obtain⟨g3,_⟩:=Ypi Sv;have c2:¬0<dN (dh X X-dh (a_ os) (a_ os)).num:=by omega
  have hXX:=CY (n:=4) qX qX (by decide) (by decide) (by omega);have hOO:=CY (n:=4) hI.oq hI.oq (by decide) (by decide) (by omega);simp[dJ,hr,uL,hz];refine ar (Tj (j:=1420) (k:=1420) ((hX.ad (k2.trans k3)).ad k4) ((hX.ad (k2.trans k3)).ad k4) (aM _) qX qX (by decide) (by decide) (by have:=jz (1420+1420+1) (show X.length<=4 by omega);omega)) ?_;rintro _ H5 n5 k5 rfl;simp[dJ,hr,a2];have hoT:Tx H5 n5 ov (a_ os):=jB.sl (ho.ad (rW.trans k5)) hI.oo;refine ar (Tj (j:=7) (k:=7) hoT hoT (aM _) hI.oq hI.oq (by decide) (by decide) (by have:=jz (7+7+1) (show (a_ os).length<=4 by omega);omega)) ?_;rintro _ H6 n6 k6 rfl;simp;refine ar (Zz6 hXX hOO (by decide) (by decide) (Zup hOO (by decide))) ?_;rintro _ H7 n7 k7 rfl;simp[c2];refine mO (Ya1 (nB:=nB) (B0:=B0) (vd:=vd) (vR:=vR) (wv:=wv) (sv:=sv) (xv:=xv) hI Iu hd hx hP hB nE (by simpa using zu) (((rW.trans k5).trans k6).trans k7) (hR.ad (((((k2.trans k3).trans k4).trans k5).trans k6).trans k7)) (by simp[dJ,hr,a0]) (by simp[dJ,hr,a4]) (by simp[dJ,hr,a7])) ?_;rintro _ _ ⟨H8,n8,W8⟩ ⟨rfl,r3,rfl,h6,Bk,Bm⟩;simp only at Bk Bm;simp[h6,Bk,Bm]
 simp[hz,c1];refine mO (Ya1 (nB:=nB) (B0:=B0) (vd:=vd) (vR:=vR) (wv:=wv) (sv:=sv) (xv:=xv) hI Iu hd hx hP hB nE (by simpa using zu) rW (hR.ad ((k2.trans k3).trans k4)) (by simp[dJ,hr,a0]) (by simp[dJ,hr,a4]) (by simp[dJ,hr,a7])) ?_;rintro _ _ ⟨H8,n8,W8⟩ ⟨rfl,r3,rfl,h6,Bk,Bm⟩;simp only at Bk Bm;simp[h6,Bk,Bm]
end
end Go.Mx
