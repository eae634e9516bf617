/-reconstruct-/
import Derived.Test.YtnkdakmfipgidaaGreatDoorLnE
set_option linter.all false
set_option maxHeartbeats 4000000
namespace Go.Mx
noncomputable section
open Go Go.Proofs
variable {D M:List (List Rat)} {b:List (List aD)} {n:Nat} {w:List Rat}
set_option maxRecDepth 1000000
def A.b17:=A.q Tryz.f17
def A.k17:=@A.kk 17 34 [.tmp 6,.tmp 7] A.b17 (by kernel_rfl) rfl
structure VU (b:List (List aD)) (n:Nat):Prop where
 pos:0<b.length
 le:b.length<=4
 row:∀r∈b,r.length=n/\nF r
def Yk9(h:q9 b n=0)(hs:∀r∈b,dJ 6 r=true)(h4:b.length<=4\/16<b.length):VU b n:=by
 unfold q9 at h;split at h
 ·exact absurd h (by decide)
 split at h
 ·exact absurd h (by decide)
 refine⟨by omega,by omega,fun r hr=>Yag (uD h _ (bF.2 ⟨r,hr,rfl⟩)) (hs r hr)⟩
def VU.rat(h:VU b n):aR (bC b) n/\bz (bC b) 100:=⟨fun r hr=>by
 obtain⟨x,hx,rfl⟩:=bF.1 hr
 simp[cv,(h.row x hx).1],fun r hr=>by
 obtain⟨x,hx,rfl⟩:=bF.1 hr
 exact(h.row x hx).2.qb⟩
def Ed(m:List (List aD))(l:List aD)(b:List (List aD)):Int:=bp [zr m l,q9 b (ba m)]
def Ba(m:List (List aD))(l:List aD)(b:List (List aD)):Int:=if Ed m l b=0 then (if nZ (bC m) (bC b) (cv l)=none then 14 else 0) else Ed m l b
def NZ(m:List (List aD))(l:List aD)(b:List (List aD)):List (List Rat):=(nZ (bC m) (bC b) (cv l)).getD []
def Yvk{m:List (List aD)}{l:List aD}(h:Ed m l b=0)(sm:nE 6 6 m=true)(sl:dJ 6 l=true)(sb:∀r∈b,dJ 6 r=true)(h4:b.length<=4\/16<b.length):zX m (ba m)/\l.length=m.length/\nF l/\VU b (ba m):=by have z1:=uD h (zr m l) (by simp);have z2:=uD h (q9 b (ba m)) (by simp);obtain⟨a1,a2,a3⟩:=Ix z1 sm sl;exact⟨a1,a2,a3,Yk9 z2 sb h4⟩
def Yur{G X H:List (List Rat)}{c Z:Nat}{B:Nat->Nat}(hG:aR G n)(hX:aR X c)(hl:G.length<=X.length)(NI:∀k,bz (aF (dp G X) k).1 (B (aF (dp G X) k).2.1))(hZ:∀i,i<=n->B i<=Z)(hn:G.length<=n)(hs:uA G X n c=some H):bz H Z/\H.length<=n/\aR H c:=by
 have hW:=zi hG hX hl;unfold uA at hs;split at hs
 ·cases hs
 obtain rfl:=mC hs;have hd:=(nR hW (n:=n+c)).2;rw[yh]at hd;refine⟨fun r DR q hq=>?_,by rw[cG,p9 hW];omega,fun r DR=>?_⟩
 ·obtain⟨z,hz,rfl⟩:=bF.1 DR;exact(NI (n+c) z (wB hz) q (Ol hq)).mono (hZ _ (by omega))
 obtain⟨z,hz,rfl⟩:=bF.1 DR;rw[zk,CI hW z hz];omega
def Tb{H:List (List Rat)}{Z:Nat}{B:Nat->Nat}(hw:w.length=D.length)(NI:∀k,bz (aF (dp (gH D M w) (iz D M w)) k).1 (B (aF (dp (gH D M w) (iz D M w)) k).2.1))(hZ:∀i,i<=M.length->B i<=Z)(hs:nZ D M w=some H):bz H Z/\H.length<=M.length/\aR H D.length:=
 Yur Iq (by rw[<-hw];exact Lg) (by rw[F9,F8];exact aO _) NI hZ (by rw[F9];exact aO _) hs
def Yoe{n s:Nat}(hn:n<=6)(hs:s<=6):s*(n*(100+100+1)+1+(n*(100+100+1)+1+100)+1)+1<=15103:=by have:=nC hs (show n*(100+100+1)+1+(n*(100+100+1)+1+100)+1<=2517 by omega);omega
def Yvw{i:Nat}(h:i<=4):kB 15103 i<=4000000:=j_ (Yi h) (by decide)
def Yvl(hM:aR M n)(qD:bz D 100)(qM:bz M 100)(qw:∀x∈w,Qb 100 x)(hn:n<=6)(fP:0<D.length)(hs:D.length<=6):bz (gH D M w) 15103/\bz (iz D M w) 15103:=by have qS:=YV hM qD qM (by decide) (by decide);have h0:=Yoe hn hs;have h1:=Nat.le_mul_of_pos_left (n*(100+100+1)+1+(n*(100+100+1)+1+100)+1) fP;exact⟨(Yon qS qw (by omega) (by decide)).mono h0,(SK qS qw (by omega) (by decide)).mono (by omega)⟩
def Yvm(hM:aR M n)(qD:bz D 100)(qM:bz M 100)(qw:∀x∈w,Qb 100 x)(hn:n<=6)(fP:0<D.length)(hs:D.length<=6):∀k,bz (aF (dp (gH D M w) (iz D M w)) k).1 (kB 15103 (aF (dp (gH D M w) (iz D M w)) k).2.1):=fun k=>by
 obtain⟨a,b⟩:=Yvl hM qD qM qw hn fP hs
 exact Sh (Yd0 a b) (by decide)
def Yno{h:T O}{N:Nat}{u v y:V}{m:List (List aD)}{l:List aD}(hm:dq h N u m)(hl:Sl h N v (strs l))(hb:dq h N y b)(hP:ik h N)(sm:nE 6 6 m=true)(sl:dJ 6 l=true)(sb:∀r∈b,dJ 6 r=true)(DZ:b.length<100000)(h4:b.length<=4\/16<b.length):Fn A.C 17 [u,v,y] h N (fun x h' n'=>∃z c,x=.aV [z,.int .i64 c]/\FV (Ba m l b) (NZ m l b) z c h' n'):=by
 intro W;obtain⟨m1,m2⟩:=Ls sm;obtain⟨l1,l2⟩:=Gg sl;have o2:=hl.form.one;have o3:=hl.form.cells;obtain⟨o4,o5⟩:=hm.one;obtain⟨o6,o7⟩:=hb.one;rw[aN,A.k17 (by simp)];unfold V.one at o2 o4 o6;unfold V.cells at o3 o5 o7;simp[A.b17,o2,o3,o4,o5,o6,o7,ag];generalize hH:(((h.set N (.cells [u] 22 true)).set (N+1) (.cells [v] 23 true)).set (N+1+1) (.cells [y] 22 true)).set (N+1+1+1) (.cells [.func 67 [] [.ptr N 0,.ptr (N+1) 0],.func 68 [] [.ptr (N+1+1) 0,.ptr N 0]] 99 true)=H;have kB:ab h N H (N+1+1+1+1):=by rw[<-hH];exact(((ab.refl.new _).new _).new _).new _
 have g0:H.get N=some (.cells [u] 22 true):=by rw[<-hH];simp
 have g1:H.get (N+1)=some (.cells [v] 23 true):=by rw[<-hH];simp
 have g2:H.get (N+1+1)=some (.cells [y] 22 true):=by rw[<-hH];simp
 have g3:H.get (N+1+1+1)=some (.cells [.func 67 [] [.ptr N 0,.ptr (N+1) 0],.func 68 [] [.ptr (N+1+1) 0,.ptr N 0]] 99 true):=by rw[<-hH];simp
 clear hH;have hs:Sl H (N+1+1+1+1) (.slice (N+1+1+1) 0 2 (some 2) 1) [.func 67 [] [.ptr N 0,.ptr (N+1) 0],.func 68 [] [.ptr (N+1+1) 0,.ptr N 0]]:=Sl.row (by omega) g3 rfl (fun k hk=>by simp at hk;omega);have b2:∀x∈b,x.length<100000/\∀s∈x,s.length<=100000:=fun x hx=>Gg (sb x hx);have key:=NV (l:=[zr m l,q9 b (ba m)]) hs rfl (by simp) (Ta (P:=fun f e _=>∀h' n',ab H (N+1+1+1+1) h' n'->ij A.C f [] h' n' (fun u _ _=>u=.int .i64 e)) (fun h' n' hk=>Ygc ((hk.get N (by omega)).trans g0) (by have:=hk.le;omega) ((hk.get (N+1) (by omega)).trans g1) (by have:=hk.le;omega) ((hm.ad kB).ad hk) m1 m2 ((hl.ad kB).ad hk) l1 l2) (fun hz h' n' hk=>Ygb (l:=l) ((hk.get (N+1+1) (by omega)).trans g2) (by have:=hk.le;omega) ((hk.get N (by omega)).trans g0) (by have:=hk.le;omega) ((hm.ad kB).ad hk) m1 m2 ((hb.ad kB).ad hk) DZ b2 (Ix hz sm sl).1.pos));change Fn A.C 60 _ H _ (fun u _ _=>u=.int .i64 (Ed m l b))at key;refine av key ?_;rintro _ H2 n2 k2 rfl;have me:=k2.le;by_cases hE:Ed m l b=0
 ·obtain⟨hM,zl,hL,hB⟩:=Yvk hE sm sl sb h4;have c0:=(k2.get N (by omega)).trans g0;have kC:=kB.trans k2;have d1:N<n2:=by omega
  have n6:=hM.n6;have S9:=hM.le;obtain⟨rB,qB⟩:=hB.rat;have IG:aR (bC m) (ba m):=hM.qb.1;have qM:bz (bC m) 100:=fun r hr=>(hM.rat r hr).2;simp[hE,c0,d1];refine av (CW (k0:=100) ((hm.ad kC).rat fun r hr=>(hM.row r hr).2) (by simp[bC];omega) (fun r hr=>by obtain⟨a1,a2⟩:=hM.rat r hr;exact⟨by omega,a2⟩) (by decide)) ?_;rintro x3 H3 n3 k3 DW;have wc:=k3.le;have c1:=(k3.get (N+1) (by omega)).trans ((k2.get (N+1) (by omega)).trans g1);have d2:N+1<n3:=by omega
  simp[c1,d2];refine av (IE (l:=cv l) (k0:=100) (nF.sl ((hl.ad kC).ad k3) hL) (by simp[cv];omega) hL.qb (by decide)) ?_;rintro x4 H4 n4 k4 AT;have CP:=k4.le;have c2:=(k4.get (N+1+1) (by omega)).trans ((k3.get (N+1+1) (by omega)).trans ((k2.get (N+1+1) (by omega)).trans g2));have d3:N+1+1<n4:=by omega
  have kD:=(kC.trans k3).trans k4;simp[c2,d3];refine av (CW (k0:=100) ((hb.ad kD).rat fun r hr=>(hB.row r hr).2) (by simp[bC];omega) (fun r hr=>⟨by rw[rB r hr];omega,qB r hr⟩) (by decide)) ?_;rintro x5 H5 n5 k5 DX;have IF:=k5.le;have lM:(bC m).length=m.length:=vu;have lB:(bC b).length=b.length:=vu;have lL:(cv l).length=(bC m).length:=by simp[cv,bC,zl]
  have QN:=@Yoe (ba m) (bC m).length n6 (by omega);have CY:=Yvm rB qM qB hL.qb n6 (by have:=hM.pos;omega) (by omega);simp[];refine av (YW (B:=Go.Mx.kB 15103) (n:=ba m) (J:=100) (K:=100) (L:=100) ((DW.ad k4).ad k5) (AT.ad k5) DX IG rB lL hM.n1 (by omega) (by have:=hM.pos;omega) (by omega) (by have:=hB.pos;omega) (by have:=hB.le;omega) qM qB hL.qb (by decide) (by decide) (by decide) (by omega) (fun _=>Yh (by decide)) CY (fun i hi=>by have:=@Yvw i (by have:=hB.le;omega);omega)) ?_;rintro x6 H6 S8 k6 A9;have kE:=(kD.trans k5).trans k6;rcases A9 with⟨a1,rfl⟩|⟨H,z,a1,rfl,a2⟩
  ·have hC:Ba m l b=14:=by unfold Ba;rw[ar hE,ar a1]
   simp[ax,cQ.cU];exact⟨kE,.aa,14,⟨rfl,rfl⟩,by rw[hC];exact .inl ⟨by decide,rfl,rfl⟩⟩
  have hC:Ba m l b=0:=by unfold Ba;rw[ar hE,a1];rfl
  have hQ:NZ m l b=H:=by unfold NZ;rw[a1];rfl
  obtain⟨s1,s2,s3⟩:=Tb lL CY (fun i hi=>Yvw (by have:=hB.le;omega)) a1;simp[cQ.cU];refine av (Tc (k:=4000000) a2 (hP.ad kE) (by have:=hB.le;omega) (fun r hr=>by rw[s3 r hr];omega) s1 (by decide)) ?_;rintro x7 H7 n7 k7 A8;have kF:=kE.trans k7;rcases A8 with⟨t1,rfl⟩|⟨t1,v2,rfl,t2⟩
  ·simp[ax];exact⟨kF,.aa,4,⟨rfl,rfl⟩,by rw[hC,hQ];exact .inr ⟨rfl,.inl ⟨t1,rfl,rfl⟩⟩⟩
  simp[ax];exact⟨kF,v2,0,⟨rfl,rfl⟩,by rw[hC,hQ];exact .inr ⟨rfl,.inr ⟨t1,rfl,t2⟩⟩⟩
 have hC:Ba m l b=Ed m l b:=by unfold Ba;rw[ak hE]
 simp[hE,ax];exact⟨kB.trans k2,.aa,_,⟨rfl,rfl⟩,by rw[hC];exact .inl ⟨hE,rfl,rfl⟩⟩
structure Lv (h:T O) (N R:Nat) (l:List Rat):Prop where
 lt:R<N
 get:h.get R=some (.cells (tx l) 38 true)
def Lv.put{h:T O}{N R j:Nat}{l:List Rat}{q:Rat}(s:Lv h N R l)(hj:j<l.length):ag (tx l) j [.str (aP q)]=tx (l.set j q)/\Lv (h.set R (.cells (tx (l.set j q)) 38 true)) N R (l.set j q):=by refine⟨?_,s.lt,by rw[T.ae,ar rfl]⟩;rw[KW (by rw[Eb];exact hj)];simp[tx,strs,List.map_set]
def Lv.DL{h:T O}{N R:Nat}{l:List Rat}(s:Lv h N R l):Ay h N (.slice R 0 l.length none 1) l:=⟨Sl.row s.lt s.get (Eb l) (fun k hk=>by cases hk),fun i hi=>by
 simp[dk]at hi
 subst hi
 exact⟨_,_,s.get⟩⟩
variable {D:List (List Rat)} {K n s:Nat} {w:List Rat}
def A.w48:=A.q Tryz.f48
def A.xX:=A.ql A.w48 0 []
def A.b48:=(fun x0=>A.qb A.w48 [x0]) A.xX
def A.k48:=@A.kk 48 46 [.tmp 4] A.b48 (by kernel_rfl) rfl
def Ee(n s k J K L:Nat):Nat:=(k+s)*(s*(n*(J+K+1)+1+(n*(J+K+1)+1+L)+1)+1)+1
def Yrj{M:List (List Rat)}{J L:Nat}(hM:aR M n)(hw:w.length=D.length)(qD:bz D K)(qM:bz M J)(qw:∀x∈w,Qb L x)(fP:0<D.length)(hJ:1<=J)(hK:1<=K)(hL:1<=L):Ab (dp (gH D M w) (iz D M w)) (M.length+D.length) (Ee n D.length M.length J K L):=by
 have qS:=YV hM qD qM hJ hK;have hmul:n*(J+K+1)+1+L<=D.length*(n*(J+K+1)+1+(n*(J+K+1)+1+L)+1)+1:=by have:=Nat.le_mul_of_pos_left (n*(J+K+1)+1+(n*(J+K+1)+1+L)+1) fP;omega
 refine Nv (Yd0 (Yon qS qw (by omega) hL) ((SK qS qw (by omega) hL).mono hmul)) (zi Iq (by rw[<-hw];exact Lg) (by rw[F9,F8];exact aO _))
def zt(n s:Nat):List (List Rat):=(List.range n).map fun _=>(List.range s).map fun _=>0
def fe(D:List (List Rat))(w:List Rat)(n:Nat):List (List Rat):=if (bb D n).length=0 then zt n D.length else du (cn (bb D n) n) (cn ((nZ D (bb D n) w).getD []) D.length)
def Ydu:zt (n+1) s=zt n s++[(List.range s).map fun _=>0]:=by unfold zt;rw[List.range_succ,List.map_append];rfl
def Zyh:(zt n s).length=n:=by simp[zt]
def SN(hD:aR D n)(hw:w.length=D.length)(hp:∀q∈w,0<q)(h0:0<(bb D n).length):∃J,Nm (gH D (bb D n) w) (bb D n).length=some J/\nZ D (bb D n) w=some (du J (cn (iz D (bb D n) w) D.length)):=by
 have hl:=p9 (n:=n) hD;obtain⟨J,hJ⟩:=Yly (Iq (D:=D) (M:=bb D n) (w:=w)) F9 fun v hv j hj=>by unfold gH iz at hv;rw[hl]at hv hj;exact Ype hD hw hp hv j hj
 refine⟨J,hJ,?_⟩;unfold nZ;rw[Yus Iq F9 h0 (by rw[<-hw];exact Lg) F8,hJ];rfl
def Yn0{d:Nat}(hD:aR D n)(qD:bz D K)(hd:D.length<=d):bz (bb D n) (qZ (n*K+1) d):=fun r hr q hq=>((Ny (Nv qD hD) hD (by omega) n) r (wB hr) q hq).mono (K9 (j_ (nR hD).2 hd))
def Yfc{n d:Nat}(hn:n<=6)(hd:d<=6):qZ (n*100+1) d<=4864:=by unfold qZ;exact j_ (nC (show d+2<=8 by omega) (show _<=608 by omega)) (by decide)
def Zo{n s k:Nat}(hn:n<=6)(hs:s<=6)(hk:k<=6):qZ (Ee n s k 4864 100 100) k<=34400000:=by
 unfold qZ Ee;obtain⟨A,hA⟩:∃A,A=n*(4864+100+1)+1+(n*(4864+100+1)+1+100)+1:=⟨_,rfl⟩;have Oe:A<=59684:=by omega
 rw[<-hA];obtain⟨B,hB⟩:∃B,B=s*A:=⟨_,rfl⟩;have K8:B<=6*59684:=by rw[hB];exact nC hs Oe
 rw[<-hB];obtain⟨C,hC⟩:∃C,C=(k+s)*(B+1):=⟨_,rfl⟩;have hC2:C<=12*358105:=by rw[hC];exact nC (by omega) (by omega)
 rw[<-hC];obtain⟨E,hE⟩:∃E,E=C+1+k+1:=⟨_,rfl⟩;have hE2:E<=4297268:=by omega
 rw[<-hE];have:=nC (show k+2<=8 by omega) hE2;omega
def Zp{M:List (List Rat)}{J L:Nat}(hM:aR M n)(hw:w.length=D.length)(qD:bz D K)(qM:bz M J)(qw:∀x∈w,Qb L x)(fP:0<D.length)(hJ:1<=J)(hK:1<=K)(hL:1<=L)(k:Nat):bz (aF (dp (gH D M w) (iz D M w)) k).1 (qZ (Ee n D.length M.length J K L) (aF (dp (gH D M w) (iz D M w)) k).2.1):=
 Ny (Yrj hM hw qD qM qw fP hJ hK hL) (zi Iq (by rw[<-hw];exact Lg) (by rw[F9,F8];exact aO _)) (by unfold Ee;omega) k
def Yn1{n s:Nat}(hn:n<=6)(hs:s<=6):s*(n*(4864+100+1)+1+(n*(4864+100+1)+1+100)+1)+1+2*(n*(4864+100+1)+1+100+1)<=400000000:=by
 obtain⟨A,hA⟩:∃A,A=n*(4864+100+1)+1+(n*(4864+100+1)+1+100)+1:=⟨_,rfl⟩;have Oe:A<=59684:=by omega
 rw[<-hA];obtain⟨C,hC⟩:∃C,C=s*A:=⟨_,rfl⟩;have hC2:C<=6*59684:=by rw[hC];exact nC hs Oe
 rw[<-hC];omega
def Zt2(hD:aR D n)(hw:w.length=D.length)(km:0<n)(hn:n<=6)(fP:0<D.length)(hs:D.length<=6)(qD:bz D 100)(qw:∀x∈w,Qb 100 x)(hp:∀q∈w,0<q):bz (fe D w n) 300000000/\(fe D w n).length=n/\aR (fe D w n) D.length:=by
 have hle:=(nR hD (n:=n)).2;have hr:=p9 (n:=n) hD;by_cases h0:(bb D n).length=0
 ·unfold fe;rw[ar h0];refine⟨fun r hr q hq=>?_,Zyh,fun r hr=>?_⟩
  ·obtain⟨_,_,rfl⟩:=bF.1 hr;obtain⟨_,_,rfl⟩:=bF.1 hq;exact Qb.zero.mono (by decide)
  obtain⟨_,_,rfl⟩:=bF.1 hr;simp
 have jM:0<(bb D n).length:=by omega
 obtain⟨J,hJ,hm⟩:=SN hD hw hp jM;obtain⟨Hc,yr⟩:∃Hc,nZ D (bb D n) w=some Hc:=⟨_,hm⟩;have rB:=CI (n:=n) hD;have qB:bz (bb D n) 4864:=(Yn0 hD qD (aO _)).mono (Yfc hn hs);have hk6:(bb D n).length<=6:=by omega
 have mw:=@Zo n D.length (bb D n).length hn hs hk6;have CY:=Zp (J:=4864) (K:=100) (L:=100) rB hw qD qB qw fP (by decide) (by decide) (by decide);obtain⟨s1,s2,s3⟩:=Tb hw CY (fun i hi=>j_ (K9 hi) mw) yr;have qT:bz (cn (bb D n) n) 4864:=fun r hr=>(CH qB (by decide) r hr).2;obtain⟨j0,B8⟩:∃j0:Nat,j0=34400000:=⟨_,rfl⟩;rw[<-B8]at s1;have tP:1<=j0:=by omega
 have hmul:Hc.length*(j0+4864+1)<=6*(j0+4864+1):=nf _ (by omega);unfold fe;rw[ak h0,yr];refine⟨?_,by rw[K0,kh],by have:=@So (cn (bb D n) n) (cn Hc D.length);rw[kh]at this;exact this⟩;exact(Yp (n:=Hc.length) (j:=j0) (k:=4864) qT (fun r hr=>CH s1 tP r hr) tP (by decide)).mono (by omega)
def Zyx{h:T O}{N:Nat}{u v:V}(hu:gF h N u D)(hv:ec h N v w)(hD:aR D n)(hw:w.length=D.length)(km:0<n)(hn:n<=6)(fP:0<D.length)(hs:D.length<=6)(qD:bz D 100)(qw:∀x∈w,Qb 100 x)(hp:∀q∈w,0<q):Fn A.C 48 [u,v] h N (fun x h' n'=>gF h' n' x (fe D w n)/\bz (fe D w n) 300000000/\(fe D w n).length=n/\aR (fe D w n) D.length):=by
 intro W;obtain⟨l0,cH⟩:=bj fP;have lu:=hu.len;have hle:=(nR hD (n:=n)).2;have hr:=p9 (n:=n) hD;rw[aN,A.k48 (by simp)];simp(disch:=first|(simp;done)|omega|rfl) [-getElem?_pos,A.b48];refine av (Yw (B:=qZ (n*100+1)) hu hD (by omega) fP (by omega) (fun _=>YI) (fun k=>Ny (Nv qD hD) hD (by omega) k) (fun i h1 h2=>by have:=@Yfc n i hn (by omega);omega)) ?_;rintro _ H1 n1 k1 ⟨rv,pv,rfl,zj,_⟩;have yw:=k1.le;obtain⟨i2,o2,c2,e2,w2,a,q1,q2,q3,q4,q5⟩:=DO (hu.ad k1) cH;rw[gE]at q4;have la:=q5.1.len;rw[hD l0 (cF cH)]at la;have lrv:=zj.len;by_cases h0:(bb D n).length=0
 ·have hQ:fe D w n=zt n D.length:=by unfold fe;rw[ar h0]
  simp(disch:=first|(simp;done)|omega|rfl) [-getElem?_pos,lu,q1,q3,q4,la,lrv,h0];refine cm [(8,8),(24,32)] (fun e r st=>e=.exit 0/\ay n1 st.w=[]/\ab H1 n1 st.h st.n/\∃v,r.get 8=some v/\iw n1 st.h st.n v (zt n D.length)) (fun i r st=>ay n1 st.w=[]/\ab H1 n1 st.h st.n/\∃k v,k+i=n/\r.get 24=some (.int .i64 (k:Nat))/\r.get 8=some v/\iw n1 st.h st.n v (zt k D.length)) n ?_ ?_ ?_
  ·exact⟨by simp,ab.refl,0,_,by omega,by simp,by simp,iw.nil⟩
  ·rintro i r ⟨H,m,W⟩ hr hf ⟨hW,hK,k,v,hk,wH,h8,hO⟩;simp only at hW hK hO;rw[bu];have ln:=hK.le;cases i with
   |zero=>
    obtain rfl:k=n:=by omega
    simp(disch:=first|(simp;done)|omega|rfl) [-getElem?_pos,A.xX,hr,hf,wH,h8,hW,hK];exact hO
   |succ i=>
    have cg:(k:Int)<(n:Int):=by omega
    simp(disch:=first|(simp;done)|omega|rfl) [-getElem?_pos,A.xX,hr,wH,h8,cg,lu];refine av (Yjc (by omega)) ?_;rintro _ H2 n2 k2 ⟨rfl,s2⟩;have me:=k2.le;have fr:=s2.Yn;rw[cG,List.length_range]at fr;have AI:ag [V.aa] 0 [.slice m 0 D.length (some D.length) 4]=[.slice m 0 D.length (some D.length) 4]:=rfl;have kD:ab H2 n2 (H2.set n2 (.cells [.slice m 0 D.length (some D.length) 4] 81 true)) (n2+1):=ab.refl.new _;obtain⟨v',h',w',j1,j2,j3,j4⟩:=iw.push (N0:=n1) (x:=.slice n2 0 1 (some 1) 1) (w:=W) ((hO.ad k2).ad kD) (fr.ad kD) (by omega) (by simp[gb,St.row,aL]) (by rw[Zyh];omega);simp(disch:=first|(simp;done)|omega|rfl) [-getElem?_pos,hf,wH,AI,Ie,j1,j2,hW];exact⟨i,by omega,(((hK.trans k2).trans kD).then j3),k+1,by omega,by simp,by rw[Ydu];exact j4⟩
  rintro _ r ⟨H,m,W⟩ hr ⟨rfl,hW,hK,v,h8,hO⟩;simp only at hW hK hO;simp(disch:=first|(simp;done)|omega|rfl) [-getElem?_pos,h8,ax];refine⟨Zzc hW yw,k1.trans hK,?_⟩;refine⟨?_,Zt2 hD hw km hn fP hs qD qw hp⟩;rw[hQ];exact hO.DP
 have jM:0<(bb D n).length:=by omega
 obtain⟨J,hJ,hm⟩:=SN hD hw hp jM;have hQ:fe D w n=du (cn (bb D n) n) (cn ((nZ D (bb D n) w).getD []) D.length):=by unfold fe;rw[ak h0]
 obtain⟨Hc,yr⟩:∃Hc,nZ D (bb D n) w=some Hc:=⟨_,hm⟩;have rB:=CI (n:=n) hD;have kp:=@Yfc n D.length hn hs;have qB:bz (bb D n) 4864:=(Yn0 hD qD (aO _)).mono kp;have hk6:(bb D n).length<=6:=by omega
 have mw:=@Zo n D.length (bb D n).length hn hs hk6;have CY:=Zp (J:=4864) (K:=100) (L:=100) rB hw qD qB qw fP (by decide) (by decide) (by decide);obtain⟨s1,s2,s3⟩:=Tb hw CY (fun i hi=>j_ (K9 hi) mw) yr;have nS:=@Yn1 n D.length hn hs;have hlen:Hc.length=(bb D n).length:=(Sv Iq F9 (by rw[<-hw];exact Lg) F8 jM yr).1;simp(disch:=first|(simp;done)|omega|rfl) [-getElem?_pos,lu,q1,q3,q4,la,lrv,h0];refine av (YW (B:=qZ (Ee n D.length (bb D n).length 4864 100 100)) (n:=n) (J:=4864) (K:=100) (L:=100) (hu.ad k1) (hv.ad k1) zj hD rB hw km (by omega) fP (by omega) jM (by omega) qD qB qw (by decide) (by decide) (by decide) nS (fun _=>YI) CY (fun i hi=>by have:=@K9 (Ee n D.length (bb D n).length 4864 100 100) i (bb D n).length (by omega);omega)) ?_;rintro x2 H2 n2 k2 zn;rcases zn with⟨a1,_⟩|⟨Hc',z,a1,rfl,a2⟩
 ·rw[yr]at a1;cases a1
 rw[yr]at a1;obtain rfl:=mC a1;simp(disch:=first|(simp;done)|omega|rfl) [-getElem?_pos,];refine av (Sp (zj.ad k2) (by omega) rB (by omega)) ?_;rintro x3 H3 n3 k3 DW;simp(disch:=first|(simp;done)|omega|rfl) [-getElem?_pos,];have qT:bz (cn (bb D n) n) 4864:=fun r hr=>(CH qB (by decide) r hr).2;obtain⟨j0,B8⟩:∃j0:Nat,j0=34400000:=⟨_,rfl⟩;rw[<-B8]at s1;have tP:1<=j0:=by omega
 have hmul:Hc.length*(j0+4864+1)<=6*(j0+4864+1):=nf _ (by omega);refine av (Yq (n:=(bb D n).length) (c:=D.length) (j:=j0) (k:=4864) DW.DP (a2.ad k3) AL s3 (by omega) (by omega) (by rw[kh];omega) (by omega) (by omega) qT s1 tP (by decide) (by omega)) ?_;rintro x4 H4 n4 k4 AT;simp(disch:=first|(simp;done)|omega|rfl) [-getElem?_pos,ax];refine⟨((k1.trans k2).trans k3).trans k4,?_,Zt2 hD hw km hn fP hs qD qw hp⟩;rw[hQ,yr];exact AT
variable {m:List (List aD)}
def A.b11:=A.q Tryz.f11
def A.k11:=@A.kk 11 22 [.tmp 2,.tmp 3] A.b11 (by kernel_rfl) rfl
def VV(m:List (List aD)):List (List Rat):=bb (bC m) (ba m)
def zX.le6{n:Nat}(h:zX m n):(bC m).length<=6:=by rw[vu];exact h.le
def Ytd{n:Nat}(h:zX m n):(VV m).length<=6:=by unfold VV bb;rw[iX,AG,vu];have:=h.le;omega
def Zs6{h:T O}{N:Nat}{u:V}(hm:dq h N u m)(hP:ik h N)(sm:nE 6 6 m=true):Fn A.C 11 [u] h N (fun x h' n'=>∃v c,x=.aV [v,.int .i64 c]/\FV (iF m 64 16) (VV m) v c h' n'):=by
 intro w;obtain⟨m1,m2⟩:=Ls sm;rw[aN,A.k11 (by simp)];simp[A.b11];refine av (Zy5 hm m1 m2) ?_;rintro _ H1 n1 k1 rfl;by_cases hE:iF m 64 16=0
 ·have hM:=Yaf hE sm;obtain⟨l1,l2,l3,l4,l5⟩:=hM.lens;simp[hE];refine av (CW (k0:=100) ((hm.ad k1).rat fun r hr=>(hM.row r hr).2) (by omega) l5 (by decide)) ?_;rintro v H2 n2 k2 hv;simp[];refine av (Yw (B:=kB 96) hv hM.qb.1 l1 l2 l3 (fun _=>Yh (by decide)) (fun _=>Sh hM.qb.2 (by decide)) l4) ?_;rintro _ H3 n3 k3 ⟨y,b,rfl,hy,_⟩;have hn6:=hM.n6;have tW:=Ytd hM;simp[];refine av (Tc hy (((hP.ad k1).ad k2).ad k3) (by show (VV m).length<_;omega) (fun r hr=>by rw[CI hM.qb.1 r hr];omega) (Yqi hM.le6 hM.qb.1 hM.qb.2) (aO _)) ?_;rintro _ H4 n4 k4 (⟨hb,rfl⟩|⟨hb,x,rfl,tx⟩)
  ·simp[ax];exact⟨((k1.trans k2).trans k3).trans k4,.aa,4,⟨rfl,rfl⟩,.inr ⟨rfl,.inl ⟨hb,rfl,rfl⟩⟩⟩
  simp[ax];exact⟨((k1.trans k2).trans k3).trans k4,x,0,⟨rfl,rfl⟩,.inr ⟨rfl,.inr ⟨hb,rfl,tx⟩⟩⟩
 simp[hE,ax];exact⟨k1,.aa,_,⟨rfl,rfl⟩,.inl ⟨hE,rfl,rfl⟩⟩
def A.b12:=A.q Tryz.f12
def A.k12:=@A.kk 12 21 [.tmp 4,.tmp 5] A.b12 (by kernel_rfl) rfl
def A.b14:bW:=sr [mc 6 0] (.seq (sr [mv 11 0,mv 12 1,c2 13 47 11 12,mv 7 13] (sr [mv 14 7,ni 15 14 0] (cd 15 (sr [mv 16 7,mv 6 16] (.ret)) (.skip)))) (.seq (sr [mv 17 2,ln 18 17,mv 19 0,ge 20 (.bG 1 (tq 19) (kq 0)),ld 21 20,ln 22 21,ge 23 (.bin .neq (.cL .int) false (tq 18) (tq 22)),ge 24 (.call (fq 51) [tq 23,.const (.int .i64 2)]),mv 25 2,mv 26 0,ln 27 26,c2 28 52 25 27,ge 29 (.fO 33 1 2 [.int .i64 0,.int .i64 0] [(0,1,(tq 24)),(1,1,(tq 28))]),c1 30 50 29,mv 8 30] (sr [mv 31 8,ni 32 31 0] (cd 32 (sr [mv 33 8,mv 6 33] (.ret)) (.skip)))) (sr [mv 34 0,c1 35 45 34,mv 36 1,c1 37 49 36,c2 38 48 35 37,mv 9 38] (.seq (.fN [mv 39 9,ln 40 39,mv 41 9,ge 42 (.bG 1 (tq 41) (kq 0)),ld 43 42,ln 44 43,ge 45 (.build [.int .i64 0,.int .i64 0] [(0,1,(tq 40)),(1,1,(tq 44))]),mv 46 2,ln 47 46,mv 48 2,ge 49 (.bG 1 (tq 48) (kq 0)),ld 50 49,ln 51 50,ge 52 (.build [.int .i64 0,.int .i64 0] [(0,1,(tq 47)),(1,1,(tq 51))]),ge 53 (.bin .eql (.node [(0,none,(.cL .int)),(1,none,(.cL .int))]) false (tq 45) (tq 52)),mv 54 53,mg 55 9 54,mg 56 2 54,gy 57 54 (.call (fq 45) [tq 56]),gy 58 54 (.call (fq 53) [tq 55,tq 57]),pf 59 54 58,mv 10 59] [0,1,0,4,12,28,63,0,128,0,512,1536,3584,8064,16383,32767,65535,65535,196607,524287,1048575,2097151]) (sr [mv 60 10,ge 61 (.un .not (tq 60)),ge 62 (.call (fq 51) [tq 61,.const (.int .i64 21)]),mv 6 62] (.ret))))))
def A.k14:=@A.kk 14 63 [.tmp 6] A.b14 (by kernel_rfl) rfl
def A.w13:=A.q Tryz.f13
def A.xY:=A.ql A.w13 0 []
def A.b13:=(fun x0=>A.qb A.w13 [x0]) A.xY
def A.c13:A.F 13=some ⟨21,[.tmp 4],A.b13⟩:=by kernel_rfl
def A.k13:=@A.kk 13 _ _ _ A.c13 rfl
def IH(m:List (List aD))(l:List aD):List (List Rat):=fe (bC m) (cv l) (ba m)
def Zb{l:List aD}{n:Nat}(h:ra l n 1=0):∀q∈cv l,0<q:=fun q hq=>by
 obtain⟨s,hs,rfl⟩:=bF.1 hq
 unfold ra at h
 split at h
 ·have h1:=uD h _ (bF.2 ⟨s,hs,rfl⟩)
  unfold rI at h1
  split at h1
  ·split at h1
   ·cases h1
   ·rename_i hc
    have hn:0<(jh s).num:=by
     unfold eE at hc
     by_cases c1:(jh s).num<0
     ·rw[ar c1]at hc
      omega
     ·by_cases c2:(jh s).num=0
      ·rw[ak c1,ar c2]at hc
       omega
      ·omega
    rw[Rat.lt_iff]
    show (0:Int)*_<(jh s).num*1
    omega
  ·rename_i hc
   omega
 ·cases h
def Ynm{h:T O}{N:Nat}{u v:V}{m:List (List aD)}{l:List aD}(hm:dq h N u m)(hl:Sl h N v (strs l))(hP:ik h N)(sm:nE 6 6 m=true)(sl:dJ 6 l=true):Fn A.C 12 [u,v] h N (fun x h' n'=>∃z c,x=.aV [z,.int .i64 c]/\FV (zr m l) (IH m l) z c h' n'):=by
 intro W;obtain⟨m1,m2⟩:=Ls sm;obtain⟨l1,l2⟩:=Gg sl;rw[aN,A.k12 (by simp)];simp[A.b12];refine av (Y0 hm hl m1 m2 l1 l2) ?_;rintro _ H2 n2 k2 rfl;by_cases hE:zr m l=0
 ·obtain⟨hM,zl,hL⟩:=Ix hE sm sl;have mF:=Zb (uD hE (ra l m.length 1) (by simp));have n6:=hM.n6;have S9:=hM.le;have qM:bz (bC m) 100:=fun r hr=>(hM.rat r hr).2;have lM:(bC m).length=m.length:=vu;have lL:(cv l).length=(bC m).length:=by simp[cv,bC,zl]
  simp[hE];refine av (CW (k0:=100) ((hm.ad k2).rat fun r hr=>(hM.row r hr).2) (by omega) (fun r hr=>by obtain⟨a1,a2⟩:=hM.rat r hr;exact⟨by omega,a2⟩) (by decide)) ?_;rintro x3 H3 n3 k3 DW;simp[];refine av (IE (l:=cv l) (k0:=100) (nF.sl (hl.ad (k2.trans k3)) hL) (by omega) hL.qb (by decide)) ?_;rintro x4 H4 n4 k4 AT;simp[];refine av (Zyx (DW.ad k4) AT hM.qb.1 lL hM.n1 n6 (by have:=hM.pos;omega) (by omega) qM hL.qb mF) ?_;rintro x5 H5 n5 k5 ⟨DX,g1,g2,g3⟩;have kE:=((k2.trans k3).trans k4).trans k5;simp[];refine av (Tc (k:=300000000) DX (hP.ad kE) (by rw[g2];omega) (fun r hr=>by rw[g3 r hr];omega) g1 (by decide)) ?_;rintro x7 H7 n7 k7 A8;have kF:=kE.trans k7;rcases A8 with⟨t1,rfl⟩|⟨t1,v2,rfl,t2⟩
  ·simp[ax];exact⟨kF,.aa,4,⟨rfl,rfl⟩,.inr ⟨rfl,.inl ⟨t1,rfl,rfl⟩⟩⟩
  simp[ax];exact⟨kF,v2,0,⟨rfl,rfl⟩,.inr ⟨rfl,.inr ⟨t1,rfl,t2⟩⟩⟩
 simp[hE,ax];exact⟨k2,.aa,_,⟨rfl,rfl⟩,.inl ⟨hE,rfl,rfl⟩⟩
def Yzi(m b:List (List aD)):Int:=bp [if b.length=ba m then 0 else 2,bp (b.map fun x=>dj x m.length)]
def S0{h:T O}{N n:Nat}{v:V}{l:List (List aD)}(hs:dq h N v l)(hl:l.length<100000)(hx:∀x∈l,x.length<100000/\∀s∈x,s.length<=100000):Fn A.C 13 [v,.int .i64 n] h N (fun u _ _=>u=.int .i64 (bp (l.map fun x=>dj x n))):=by
 intro w;have lg:=hs.len;rw[aN,A.k13 (by simp)];simp[A.b13,lg];refine cm [(4,4),(6,7),(10,20)] (fun e r st=>ay N st.w=[]/\ab h N st.h st.n/\((e=.exit 0/\bp (l.map fun x=>dj x n)=0)\/(e=.ret/\r.get 4=some (.int .i64 (bp (l.map fun x=>dj x n)))))) (fun m r st=>ay N st.w=[]/\ab h N st.h st.n/\∃k,k+m=l.length/\r.get 10=some (.int .i64 k)/\bp (l.map fun x=>dj x n)=bp ((l.drop k).map fun x=>dj x n)) l.length ?_ ?_ ?_
 ·exact⟨by simp,ab.refl,0,by omega,by simp,by simp⟩
 ·rintro m r ⟨H,n1,W⟩ hr dT ⟨hW,hK,k,hk,h5,hz⟩;simp only at hW hK;rw[bu];cases m with
  |zero=>
   obtain rfl:k=l.length:=by omega
   rw[pw,vF,bp]at hz;simp[A.xY,hr,dT,h5,hz,hW,hK]
  |succ m=>
   have aC:k<l.length:=by omega
   obtain⟨s,hc⟩:=bj aC;obtain⟨i,o,cc,e,rw,u,q1,q2,q3,q4,q5⟩:=(hs.ad hK).at hc;obtain⟨x1,x2⟩:=hx s (cF hc);rw[jN hc,nI,bp]at hz;have cI:(k:Int)<(l.length:Int):=by omega
   simp[A.xY,hr,h5,cI,lg,q1,q3,q4];refine av (Lp q5 x1 x2) ?_;rintro _ h3 n3 k3 rfl;have kk:=hK.trans k3;by_cases h0:dj s n=0
   ·rw[ar h0]at hz;simp(disch:=first|(simp;done)|omega|rfl) [dT,h5,h0,hW];exact⟨m,by omega,kk,k+1,by omega,by simp,by simpa using hz⟩
   rw[ak h0]at hz;simp[dT,h0,hW,hz];exact kk
 rintro _ r ⟨H,n1,W⟩ hr ⟨hW,hK,⟨rfl,hz⟩|⟨rfl,h2⟩⟩
 ·simp only at hW hK;simp[hz,ax,hW,hK]
 simp only at hW hK;simp[h2,ax,hW,hK]
variable {K:Nat}
structure RT (A B:Nat) (q:Rat):Prop where
 num:q.num.natAbs<=A
 den:q.den<=B
def RT.DL{A B a b:Nat}{q:Rat}(h:RT A B q)(hA:A<10^a)(hB:B<10^b)(ha:0<a)(hb:0<b):(aP q).length<=a+b+2:=by
 have h1:=(CF (n:=q.num.natAbs) ha).2 (po h.num hA);have h2:=(CF (n:=q.den) hb).2 (po h.den hB);have h3:(aK q.num).length<=(an q.num.natAbs).length+1:=by unfold aK;split<;>simp
 unfold aP;split
 ·omega
 simp;omega
def RT.big{A B:Nat}{q:Rat}(h:RT A B q)(hA:A<10^600)(hB:B<10^600):zW q=false:=by have h1:=(CF (n:=q.num.natAbs) (k:=600) (by decide)).2 (po h.num hA);have h2:=(CF (n:=q.den) (k:=600) (by decide)).2 (po h.den hB);unfold zW;simp;omega
def Zvk{m:List (List aD)}{r c:Nat}(h:iF m r c=0):0<m.length/\0<ba m/\m.length<=r/\ba m<=c/\∀l∈m,l.length=ba m/\∀s∈l,aS s=0:=by
 unfold iF at h;split at h
 ·cases h
 rename_i h1;split at h
 ·cases h
 rename_i h2;refine⟨by omega,by omega,by omega,by omega,fun l hl=>?_⟩;have h3:=uD h _ (List.mem_map_of_mem hl);unfold dj at h3;split at h3
 ·rename_i h4;refine⟨h4,fun s hs=>?_⟩;have:=uD h3 _ (List.mem_map_of_mem hs);simpa using this
 cases h3
def Ykh{m:List (List aD)}(h:∀l∈m,∀s∈l,aS s=0):m=(bC m).map fun r=>r.map aP:=by
 unfold bC;rw[List.map_map];conv=>lhs;rw[<-List.map_id m]
 apply AE;intro l hl;show l=(cv l).map aP;unfold cv;rw[List.map_map];conv=>lhs;rw[<-List.map_id l]
 apply AE;intro s hs;exact(HW (h l hl s hs)).1.symm
def Yz0{c:Nat}(h:K<=3*c):2^K<=8^c:=j_ (qW (by decide) h) (Nat.le_of_eq (Nat.pow_mul 2 3 c))
def Yxx{c:Nat}(h:c≠0):8^c<10^c:=Nat.pow_lt_pow_left (by decide) h
def Yu1{c:Nat}{q:Rat}(h:Qb K q)(hK:K<=3*c)(hc:c≠0):q.num.natAbs<10^c/\q.den<10^c:=by have e:=po (Yz0 hK) (Yxx hc);exact⟨Nat.lt_trans h.1 e,Nat.lt_trans h.2 e⟩
def Iw{q:Rat}(h:Qb K q)(hK:K<=1800):zW q=false/\(aP q).length<=1202:=by obtain⟨e1,e2⟩:=Yu1 (c:=600) h (by omega) (by decide);have hb:RT q.num.natAbs q.den q:=⟨aO _,aO _⟩;exact⟨hb.big e1 e2,by have:=hb.DL (a:=600) (b:=600) e1 e2 (by decide) (by decide);omega⟩
def Yqk{s:List Rat}:cv (s.map aP)=s:=by unfold cv;rw[List.map_map];have:(jh∘aP)=id:=funext fun q=>Ykg q;rw[this,List.map_id]
def D6:∀{l:List Int},(∀x∈l,x=0)->bp l=0
 |[],_=>rfl
 |x::l,h=>by
  rw[h x (by simp)]
  exact D6 (l:=l) fun y hy=>h y (by simp[hy])
def Lr{l:List Rat}(h:∀q∈l,Qb 1800 q):dj (l.map aP) l.length=0:=by
 unfold dj;rw[ar (cG ..)];apply D6;intro x hx;rw[List.map_map]at hx;obtain⟨q,hq,rfl⟩:=bF.1 hx;have e:aS (aP q)=0:=by rw[Ydg,(Iw (h q hq) (aO _)).1];rfl
 simp[e]
def Ge{B:List (List Rat)}{n:Nat}(h:bz B 1800)(hc:aR B n):bp ((B.map fun r=>r.map aP).map fun x=>dj x n)=0:=by apply D6;intro x hx;rw[List.map_map]at hx;obtain⟨r,hr,rfl⟩:=bF.1 hx;show dj (r.map aP) n=0;rw[<-hc r hr];exact Lr (h r hr)
def NQ{l:List aD}{n:Nat}(h:dj l n=0):l.length=n:=by
 unfold dj at h;split at h
 ·assumption
 exact absurd h (by decide)
def mX.Gd{h:T O}{N:Nat}{v:V}{B:List (List Rat)}(s:mX h N v B):dq h N v (B.map fun r=>r.map aP):=by
 obtain⟨us,h1,h2,h3⟩:=s;refine⟨us,h1,by simpa using h2,fun j l hl=>?_⟩;rw[eG]at hl;cases e:B[j]? with
 |none=>rw[e]at hl;simp at hl
 |some r=> rw[e]at hl;simp only[qc,aq]at hl;subst hl;exact h3 j r e
def SP{h:T O}{N:Nat}{u v:V}{M:List (List Rat)}{x0:List Rat}{c:Nat}(IB:mX h N u M)(cH:Tx h N v x0)(hP:ik h N)(M1:0<M.length)(M6:M.length<=6)(c1:0<c)(c6:c<=6)(kr:aR M c)(qk:bz M 1800)(fK:∀q∈x0,Qb 1800 q)(A9:x0.length=c):Fn A.C 16 [u,v] h N (fun x h' n'=>NR 0 (M.map fun r=>e_ r x0) x h' n'):=by
 intro w;obtain⟨l,el⟩:∃l,l=x0.map aP:=⟨_,rfl⟩;have erl:cv l=x0:=by rw[el];exact Yqk
 have hl:Sl h N v (strs l):=by rw[el];exact cH
 have l1:l.length<100000:=by rw[el,cG];omega
 have l2:∀s∈l,s.length<=100000:=fun s hs=>by rw[el]at hs;obtain⟨q,hq,rfl⟩:=bF.1 hs;have:=(Iw (fK q hq) (aO _)).2;omega
 have qO:∀q∈cv l,Qb 1800 q:=by rw[erl];exact fK
 have hlen:(cv l).length=l.length:=by simp[cv]
 obtain⟨m,em⟩:∃m,m=M.map fun r=>r.map aP:=⟨_,rfl⟩;have hm:dq h N u m:=by rw[em];exact IB.Gd
 have lm:m.length=M.length:=by rw[em,cG]
 have m1:m.length<100000:=by omega
 have m2:∀x∈m,x.length<100000/\∀s∈x,s.length<=100000:=fun x hx=>by rw[em]at hx;obtain⟨r,hr,rfl⟩:=bF.1 hx;refine⟨by rw[cG,kr r hr];omega,fun s hs=>?_⟩;obtain⟨q,hq,rfl⟩:=bF.1 hs;have:=(Iw (qk r hr q hq) (aO _)).2;omega
 have ID:ba m=c:=by obtain⟨r0,fv⟩:=bj M1;unfold ba;rw[em,eG,fv];show (r0.map aP).length=c;rw[cG,kr r0 (cF fv)]
 have Lq:iF m 64 64=0:=by unfold iF;rw[ak (by omega),ak (by omega),ID,em];exact Ge qk kr
 have cX:dj l (ba m)=0:=by rw[ID,el,<-A9];exact Lr fK
 have hE:Yzb m l=0:=by
  unfold Yzb;apply D6;intro e he;simp only[iW,List.not_mem_nil,or_false]at he;rcases he with rfl|rfl
  ·exact Lq
  exact cX
 have mp:0<m.length:=by omega
 have o1:V.one u=true/\V.cells u=[u]:=by obtain⟨us,⟨_,rfl|rfl⟩|⟨i,o,cp,c,e,rw,rfl,_⟩,_⟩:=hm<;>exact⟨rfl,rfl⟩
 have o2:=hl.form.one;have o3:=hl.form.cells;obtain⟨o4,o5⟩:=o1;rw[aN,A.k16 (by simp)];unfold V.one at o2 o4;unfold V.cells at o3 o5;simp[A.b16,o2,o3,o4,o5,ag];generalize hH:((h.set N (.cells [u] 22 true)).set (N+1) (.cells [v] 23 true)).set (N+1+1) (.cells [.func 61 [] [.ptr N 0],.func 63 [] [.ptr (N+1) 0,.ptr N 0]] 99 true)=H;have kB:ab h N H (N+1+1+1):=by rw[<-hH];exact((ab.refl.new _).new _).new _
 have g0:H.get N=some (.cells [u] 22 true):=by rw[<-hH];simp
 have g1:H.get (N+1)=some (.cells [v] 23 true):=by rw[<-hH];simp
 have g2:H.get (N+1+1)=some (.cells [.func 61 [] [.ptr N 0],.func 63 [] [.ptr (N+1) 0,.ptr N 0]] 99 true):=by rw[<-hH];simp
 clear hH;have hs:Sl H (N+1+1+1) (.slice (N+1+1) 0 2 (some 2) 1) [.func 61 [] [.ptr N 0],.func 63 [] [.ptr (N+1) 0,.ptr N 0]]:=Sl.row (by omega) g2 rfl (fun k hk=>by simp at hk;omega);have key:=NV (l:=[iF m 64 64,dj l (ba m)]) hs rfl (by simp) (Ta (P:=fun f e _=>∀h' n',ab H (N+1+1+1) h' n'->ij A.C f [] h' n' (fun u _ _=>u=.int .i64 e)) (fun h' n' hk=>Ytt (l:=l) ((hk.get N (by omega)).trans g0) (by have:=hk.le;omega) ((hm.ad kB).ad hk) m1 m2) (fun hz h' n' hk=>Yts ((hk.get (N+1) (by omega)).trans g1) (by have:=hk.le;omega) ((hk.get N (by omega)).trans g0) (by have:=hk.le;omega) ((hm.ad kB).ad hk) m1 m2 ((hl.ad kB).ad hk) l1 l2 mp));change Fn A.C 60 _ H _ (fun u _ _=>u=.int .i64 (Yzb m l))at key;refine av key ?_;rintro _ H2 n2 k2 rfl;have me:=k2.le;rw[hE];have z3:=NQ cX;rw[ID]at z3;have g3:=(k2.get N (by omega)).trans g0;have kC:=kB.trans k2;have d1:N<n2:=by omega
 have d2:N+1<n2:=by omega
 simp[g3];refine av (CW (m:=M) (k0:=1800) (IB.ad kC) (by omega) (fun r hr=>⟨by rw[kr r hr];omega,qk r hr⟩) (by decide)) ?_;rintro y H3 n3 k3 hy;have wc:=k3.le;have g4:=(k3.get (N+1) (by omega)).trans ((k2.get (N+1) (by omega)).trans g1);have d3:N+1<n3:=by omega
 simp[g4];refine av (IE (l:=cv l) (k0:=1800) (by rw[erl];exact((Tx.ad cH kC).ad k3)) (by omega) qO (by decide)) ?_;rintro z H4 n4 k4 hz;have CP:=k4.le;simp[];refine av (Yo (n:=c) (j:=1800) (k:=1800) (hy.ad k4) hz.1 (fun r hr=>⟨kr r hr,qk r hr⟩) (by omega) qO (by decide) (by decide) (by omega) (by omega)) ?_;rintro x H5 n5 k5 hx;have IF:=k5.le;simp[];have kD:=((kC.trans k3).trans k4).trans k5;rw[erl]at hx;have hq:∀q∈M.map (fun r=>e_ r x0),Qb 21607 q:=fun q hq=>by obtain⟨r,hr,rfl⟩:=bF.1 hq;exact Nt (n:=6) (qk r hr) fK (by decide) (by decide) (by rw[kr r hr];exact c6)
 refine av (Yd9 (l:=M.map fun r=>e_ r x0) (k:=21607) hx.1 (hP.ad kD) (by rw[cG];omega) hq (by decide)) ?_;rintro a H6 S8 k6 ha;have kE:=kD.trans k6;rcases ha with⟨t1,rfl⟩|⟨t1,v2,rfl,t2⟩
 ·simp;refine(vE (by simp[-ay,d1,d3]<;>omega)).2 ?_;simp[ax];exact⟨kE,.inr ⟨rfl,.inl ⟨t1,rfl⟩⟩⟩
 simp;refine(vE (by simp[-ay,d1,d3]<;>omega)).2 ?_;simp[ax];exact⟨kE,.inr ⟨rfl,.inr ⟨t1,v2,rfl,t2⟩⟩⟩
def Yzq(n:Nat)(x:List aD):Bool:=x.all fun s=>decide (s.length<=n)
def Yzp(n:Nat)(l:List (List aD)):Bool:=l.all (Yzq n)
def Yzd(h:T O)(N:Nat)(us:List V)(m:List (List aD)):Prop:=us.length=m.length/\∀(j:Nat) (l:List aD),m[j]?=some l->∃u,us[j]?=some u/\Sl h N u (strs l)
def dq.rows{h:T O}{N:Nat}{v:V}{m:List (List aD)}(s:dq h N v m):∃us,Sl h N v us/\Yzd h N us m:=by obtain⟨us,a,b,c⟩:=s;exact⟨us,a,b,c⟩
end
end Go.Mx
