/-reconstruct-/
import Derived.Test.YteojhfjdbpdolaaGreatDoorLnD
set_option linter.all false
namespace Go.Mx
open Go Go.Proofs
set_option maxHeartbeats 4000000
set_option maxRecDepth 1000000
def A.AZ:bU:=sr [mv 65 11,c1 66 49 65,mv 64 66,xt 67 64 0,xt 68 64 1,mv 14 67,mv 15 68]
 (sr [mv 70 8,mv 71 11,ge 72 (.call (fq 50) [tq 70,tq 71,(fq 51)]),c1 73 49 72,mv 69 73,xt 74 69 0,xt 75 69 1,mv 16 74,mv 17 75]
 (.seq (sr [mv 76 15,mv 77 17,ge 78 (.eN 28 1 2 [.int .i64 0,.int .i64 0] [(0,1,(tq 76)),(1,1,(tq 77))]),c1 79 52 78,mv 18 79]
 (sr [mv 80 18,ni 81 80 0]
 (cd 81
 (sr [mv 82 18,mN 4,mN 5,mv 6 82]
 (.ret))
 (.skip))))
 (sr [mv 83 14,mv 84 16,mv 4 83,mv 5 84,mc 6 0]
 (.ret))))
def A.b8:bU:=sr [bx 2 22 0,bx 3 23 1,mN 4,mN 5,mc 6 0]
 (sr [ge 19 (.ja 36 [] [tq 2]),ge 20 (.ja 38 [] [tq 3,tq 2]),ge 21 (.eN 68 1 2 [.bD,.bD] [(0,1,(tq 19)),(1,1,(tq 20))]),c1 22 35 21,mv 7 22]
 (.seq (sr [mv 23 7,ni 24 23 0]
 (cd 24
 (sr [mv 25 7,mN 4,mN 5,mv 6 25]
 (.ret))
 (.skip)))
 (sr [ld 26 3,c1 27 40 26,mv 8 27]
 (sr [ld 29 2,c1 30 42 29,c1 31 41 30,mv 28 31,xt 32 28 0,xt 33 28 1,mv 9 32,mv 10 33]
 (sr [mv 34 8,ln 35 34,c1 36 43 35,mv 11 36]
 (.seq (sr [mv 37 9,ln 38 37,bc 39 .gtr 38 0]
 (cd 39
 (sr [mv 41 9,mv 42 9,mv 43 8,ln 44 43,c2 45 46 42 44,c2 46 45 41 45,mv 47 9,mv 48 8,c2 49 47 47 48,ge 50 (.eN 70 1 1 [.aa] [(0,1,(tq 49))]),mv 51 9,ln 52 51,c2 53 46 50 52,c2 54 44 46 53,mv 40 54,xt 55 40 0,xt 56 40 1,mv 12 55,mv 13 56]
 (.dN [mv 57 9,mv 58 8,ln 59 58,c2 60 46 57 59,mv 61 12,ge 62 (.call (fq 48) [tq 61,.const (.int .i64 0)]),c2 63 47 60 62,mv 11 63]))
 (.skip)))
 A.AZ))))))
def A.k8:=@A.kk 8 85 [.tmp 4,.tmp 5,.tmp 6] A.b8 (by kernel_rfl) rfl
def Ycu{a b:List Rat}{j k:Nat}(ha:∀q∈a,Qb j q)(hb:∀q∈b,Qb k q)(hj:1<=j)(hk:1<=k):∀q∈Cg a b,Qb (j+k+1) q:=fun q hq=>by
 unfold Cg ks at hq
 obtain⟨i,_,rfl⟩:=dt.1 hq
 exact(yi ha hj i).sub (yi hb hk i)
def Zxv{D:List (List Rat)}{x:List Rat}{c:Nat}(hD:bg D c)(q:cB D 48)(hn:c<=5)(hs:D.length<=5)(qx:∀q∈x,Qb 48 q)(h0:0<(aU D c).length):cB (eW (aU D c) (aU D c)) 17296/\(∀q∈(aU D c).map (fun r=>de r x),Qb 17296 q)/\∃H,pQ (eW (aU D c) (aU D c)) (qU ((aU D c).map fun r=>de r x)) (aU D c).length 1=some H/\cB H 726481/\H.length=(aU D c).length/\bg H 1:=by
 have qR:=P6 hD q hn hs
 have rR:=uV (n:=c) hD
 have kl:=@P5 D c
 have n1:=jB (1729+1729+1) hn
 have n2:=jB (1729+48+1) hn
 have qG:cB (eW (aU D c) (aU D c)) 17296:=(Yl3 rR qR qR (by decide) (by decide)).mono (by omega)
 have qv:∀q∈(aU D c).map (fun r=>de r x),Qb 17296 q:=fun q hq=>by
  obtain⟨r,hr,rfl⟩:=dt.1 hq
  exact(KX (n:=c) (qR r hr) qx (by decide) (by decide) (by rw[rR r hr];exact aM _)).mono (by omega)
 obtain⟨J,_,hJ⟩:=P4 (v:=(aU D c).map fun r=>de r x) hD h0 (by rw[dL])
 obtain⟨g1,g2,_⟩:=VP hD h0 hJ
 have kg:=Yl0 (B:=mI (((aU D c).length+1)*17296+1)) (Z:=726481) (@wY (aU D c) (aU D c)) IT (by rw[qV,DU,dL];exact aM _) (VV wY (by rw[qV,dL]) qG qv (by decide)) (fun i hi=>Ylz (by omega) (aM _) i (by omega)) (by rw[qV];exact aM _) hJ
 exact⟨qG,qv,_,hJ,kg.1,g1,g2⟩
def Yde{D:List (List Rat)}{x:List Rat}{c:Nat}(hD:bg D c)(q:cB D 48)(hn:c<=5)(hs:D.length<=5)(qx:∀q∈x,Qb 48 q):∀q∈wX D x c,Qb 3641056 q:=fun z hz=>by
 unfold wX at hz
 split at hz
 ·obtain⟨_,_,rfl⟩:=dt.1 hz
  exact Qb.zero.mono (by decide)
 ·rename_i h0
  obtain⟨_,_,H,hH,qH,lH,rH⟩:=Zxv hD q hn hs qx (Nat.pos_of_ne_zero h0)
  rw[hH,fX]at hz
  obtain⟨r,hr,rfl⟩:=dt.1 hz
  obtain⟨a1,a2⟩:=FX (P6 hD q hn hs) (by decide) r hr
  have kl:=@P5 D c
  have qc:∀q∈kf H 0,Qb 726481 q:=fun q hq=>by
   obtain⟨l,hl,rfl⟩:=dt.1 hq
   exact yi (qH l hl) (by decide) 0
  exact(KX (n:=5) a2 qc (by decide) (by decide) (by omega)).mono (by decide)
def Zxo{h H:T O}{N n:Nat}{r0:T V}{x y:V}{m:List (List aQ)}{l:List aQ}(kH:ab h N H n)(hE:zQ m l=0)(hS:OkS m l)(hx:jz H n x (px l))(hy:jz H n y (sQ m l))(hP:kZ H n)(a8:r0.get 8=some x)(yw:r0.get 11=some y):
  Code A.C none A.AZ ⟨r0,85,[]⟩ ⟨H,n,[]⟩ (fun e fr st=>e=.ret/\∃r,fr=⟨r,85,[]⟩/\ax N st.w=[]/\ab h N st.h st.n/\∃a b c,r.get 4=some a/\r.get 5=some b/\r.get 6=some (.int .i64 c)/\KW m l a b c st.h st.n):=by
 have hM:=hS.ok
 have O9:=hS.n5
 have ll:(px l).length=dS m:=by simp[px,hS.len]
 have qs:∀q∈sQ m l,Qb 3641056 q:=Yde hM.qb.1 hS.qm O9 (by rw[UX];exact hS.le) hS.ql
 have ls:(sQ m l).length=dS m:=V0
 have e1:Cg (px l) (sQ m l)=bQ m l:=Zxl hM.qb.1 ll
 have qb:∀q∈bQ m l,Qb 3641105 q:=by rw[<-e1];exact fun q hq=>(Ycu (j:=48) (k:=3641056) hS.ql qs (by decide) (by decide) q hq).mono (by omega)
 have lb:(bQ m l).length=dS m:=I1
 have hF:zR m l=cF [if fv (sQ m l)=true then 4 else 0,if fv (bQ m l)=true then 4 else 0]:=av hE
 rw[bl]
 simp(disch:=first|(simp;done)|omega|rfl) [-getElem?_pos,A.AZ,yw]
 refine aA (Ycr hy hP (by omega) qs (by decide)) ?_
 rintro v1 H1 n1 k1 t1
 obtain⟨z1,c1,me,uT,Ha⟩:∃z1 c1,v1=.aX [z1,.int .i64 c1]/\(fv (sQ m l)=false->Tx H1 n1 z1 (sQ m l))/\c1=(if fv (sQ m l)=true then 4 else 0):=by
  rcases t1 with⟨b1,rfl⟩|⟨b1,v,rfl,t⟩
  ·exact⟨_,_,rfl,fun h=>absurd (b1.symm.trans h) (by decide),by rw[av b1]⟩
  ·exact⟨_,_,rfl,fun _=>t,by rw[b1];rfl⟩
 subst me
 simp(disch:=first|(simp;done)|omega|rfl) [-getElem?_pos,a8,yw]
 refine aA (Yj5 (hx.ae k1) (hy.ae k1) (by omega) hS.ql qs (by decide) (by decide) (by omega)) ?_
 rintro v2 H2 n2 k2 iR
 rw[e1]at iR
 simp(disch:=first|(simp;done)|omega|rfl) [-getElem?_pos,]
 refine aA (Ycr iR.1 ((hP.ae k1).ae k2) (by omega) qb (by decide)) ?_
 rintro v3 H3 n3 k3 t3
 obtain⟨z3,c3,J1,AQ,Ky⟩:∃z3 c3,v3=.aX [z3,.int .i64 c3]/\(fv (bQ m l)=false->Tx H3 n3 z3 (bQ m l))/\c3=(if fv (bQ m l)=true then 4 else 0):=by
  rcases t3 with⟨b1,rfl⟩|⟨b1,v,rfl,t⟩
  ·exact⟨_,_,rfl,fun h=>absurd (b1.symm.trans h) (by decide),by rw[av b1]⟩
  ·exact⟨_,_,rfl,fun _=>t,by rw[b1];rfl⟩
 subst J1
 have j3:=(k1.trans k2).trans k3
 have pf:=fun w=>Yos (h:=H3) (N:=n3+1) (i:=n3) (w:=w) (a0:=c1) (a1:=c3) (by omega)
 have hf:cF [c1,c3]=zR m l:=by rw[hF,Ha,Ky]
 rw[hf]at pf
 have kD:ab H3 n3 (H3.set n3 (.cells [.int .i64 c1,.int .i64 c3] 28 true)) (n3+1):=ab.refl.new _
 simp(disch:=first|(simp;done)|omega|rfl) [-getElem?_pos,ad,pf]
 generalize H3.set n3 (.cells [.int .i64 c1,.int .i64 c3] 28 true)=G at*
 have kF:=kH.trans (j3.trans kD)
 have hw3:ax N ([]:List Nat)=[]:=rfl
 by_cases h0:zR m l=0
 ·have b1:fv (sQ m l)=false:=by
   cases h:fv (sQ m l)with
   |false=>rfl
   |true=>rw[hF]at h0;simp[cF,h]at h0
  have b3:fv (bQ m l)=false:=by
   cases h:fv (bQ m l)with
   |false=>rfl
   |true=>rw[hF]at h0;simp[cF,h,b1]at h0
  simp(disch:=first|(simp;done)|omega|rfl) [-getElem?_pos,h0,aG]
  refine⟨kF,.inr ⟨h0,rfl,(((uT b1).ae k2).ae k3).ae kD,(AQ b3).ae kD⟩⟩
 ·simp(disch:=first|(simp;done)|omega|rfl) [-getElem?_pos,h0,aG]
  exact⟨kF,.inl ⟨h0,rfl,rfl,rfl⟩⟩
set_option maxHeartbeats 4000000
def Ysd{n i:Nat}(hn:n<=5)(hi:i<=5):3*mI (n*48+1) i<=400000000:=by
 have h1:n*48+1<=241:=by omega
 have h2:(5+2)*(241+5+1)<=1729:=by omega
 have h3:3*1729<=400000000:=by omega
 exact k_ (jr 3 (IY h1 hi h2)) h3
def Ysb{k i:Nat}(hk:k<=5)(hi:i<=5):3*mI ((k+1)*17296+1) i<=400000000:=by
 have h3:3*726481<=400000000:=by omega
 exact k_ (jr 3 (Ylz hk (aM _) i hi)) h3
def Yoz{h:T O}{N:Nat}{x:V}{l:List Rat}(hx:fl h N x l):lZ (h.set N (.cells [x] 70 true)) (N+1) (.slice N 0 1 (some 1) 1) [l]:=
 ⟨[x],Sl.row (by omega) (by rw[T.ag,av rfl]) rfl (fun k hk=>by simp at hk;omega),rfl,fun j r hr=>by
  match j with
  |0=>
   simp at hr
   subst hr
   exact⟨x,rfl,hx.ae (ab.refl.new _)⟩
  |j+1=>simp at hr⟩
def Yse{h:T O}{N:Nat}{u v:V}{m:List (List aQ)}{l:List aQ}(hm:iV h N u m)(hl:Sl h N v (strs l))(hP:kZ h N)(sm:pT 5 5 m=true)(sl:gF 5 l=true)(P7:Ce 12 ([l]++m)=true):Fn A.C 8 [u,v] h N (fun x h' n'=>∃a b c,x=.aX [a,b,.int .i64 c]/\KW m l a b c h' n'):=by
 intro w
 have DW:=VX sm (show 5<=6 by decide) (show 5<=6 by decide)
 have IZ:=P8 sl (show 5<=6 by decide)
 obtain⟨m1,m2⟩:=Zl0 DW
 obtain⟨l1,l2⟩:=SF IZ
 obtain⟨o4,o5⟩:=hm.one
 have o2:=hl.form.one
 have o3:=hl.form.cells
 rw[aR,A.k8 (by simp)]
 unfold V.one at o2 o4
 unfold V.cells at o3 o5
 simp(disch:=first|(simp;done)|omega|rfl) [-getElem?_pos,A.b8,o2,o3,o4,o5,ad]
 generalize hH:((h.set N (.cells [u] 22 true)).set (N+1) (.cells [v] 23 true)).set (N+1+1) (.cells [.func 36 [] [.ptr N 0],.func 38 [] [.ptr (N+1) 0,.ptr N 0]] 68 true)=H
 have kB:ab h N H (N+1+1+1):=by rw[<-hH];exact((ab.refl.new _).new _).new _
 have g0:H.get N=some (.cells [u] 22 true):=by rw[<-hH];simp
 have g1:H.get (N+1)=some (.cells [v] 23 true):=by rw[<-hH];simp
 have g2:H.get (N+1+1)=some (.cells [.func 36 [] [.ptr N 0],.func 38 [] [.ptr (N+1) 0,.ptr N 0]] 68 true):=by rw[<-hH];simp
 clear hH
 have hs:Sl H (N+1+1+1) (.slice (N+1+1) 0 2 (some 2) 1) [.func 36 [] [.ptr N 0],.func 38 [] [.ptr (N+1) 0,.ptr N 0]]:=Sl.row (by omega) g2 rfl (fun k hk=>by simp at hk;omega)
 have key:=Ylk (l:=[lS m 64 16,kK l (dS m)]) hs rfl (by simp) (Yox (P:=fun f e _=>∀h' n',ab H (N+1+1+1) h' n'->mJ A.C f [] h' n' (fun u _ _=>u=.int .i64 e)) (fun h' n' hk=>Yny (l:=l) ((hk.get N (by omega)).trans g0) (by have:=hk.le;omega) ((hm.ae kB).ae hk) m1 m2) (fun hz h' n' hk=>Ynx ((hk.get (N+1) (by omega)).trans g1) (by have:=hk.le;omega) ((hk.get N (by omega)).trans g0) (by have:=hk.le;omega) ((hm.ae kB).ae hk) m1 m2 ((hl.ae kB).ae hk) l1 l2 (VY hz DW).pos))
 change Fn A.C 35 _ H _ (fun u _ _=>u=.int .i64 (zQ m l))at key
 refine aA key ?_
 rintro _ H2 n2 k2 rfl
 have kX:=k2.le
 have kC:=kB.trans k2
 by_cases hE:zQ m l=0
 ·have hS:=Ylx hE sm sl P7
  have hM:=hS.ok
  have O9:=hS.n5
  have vR:=hM.n1
  have hs5:=hS.le
  have zi:=hM.pos
  have lM:(lh m).length=m.length:=UX
  have ll:(px l).length=dS m:=by simp[px,hS.len]
  have qR:=P6 hM.qb.1 hS.qm O9 (by omega)
  have rR:=uV (n:=dS m) hM.qb.1
  have kl:=@P5 (lh m) (dS m)
  have g3:=(k2.get N (by omega)).trans g0
  have g4:=(k2.get (N+1) (by omega)).trans g1
  have d1:N<n2:=by omega
  have d2:N+1<n2:=by omega
  simp(disch:=first|(simp;done)|omega|rfl) [-getElem?_pos,hE,aG,g4]
  refine aA (Zq2 (l:=px l) (k0:=100) (yk.sl (hl.ae kC) hS.VW) (by omega) hS.VW.qb (by decide)) ?_
  rintro c H3 n3 k3 hc
  have B3:=k3.le
  have g5:=(k3.get N (by omega)).trans g3
  have d3:N<n3:=by omega
  simp(disch:=first|(simp;done)|omega|rfl) [-getElem?_pos,g5]
  refine aA (Yix (k0:=100) ((hm.ae (kC.trans k3)).rat fun r hr=>(hM.row r hr).2) (by omega) (fun r hr=>by obtain⟨a1,a2⟩:=hM.rat r hr;exact⟨by omega,a2⟩) (by decide)) ?_
  rintro y H4 n4 k4 hy
  simp(disch:=first|(simp;done)|omega|rfl) [-getElem?_pos,]
  refine aA (Zq3 (B:=mI (dS m*48+1)) hy hM.qb.1 (by omega) (by omega) (by omega) (fun _=>VL) (fun k=>P1 (PX hS.qm hM.qb.1) hM.qb.1 (by omega) k) (fun i h1 h2=>Ysd O9 (by omega))) ?_
  rintro _ H5 n5 k5 ⟨bs,pv,rfl,Rt,_⟩
  have hc5:=(hc.ae k4).ae k5
  have lc:=hc5.1.len
  rw[ll]at lc
  have lb:=Rt.len
  simp(disch:=first|(simp;done)|omega|rfl) [-getElem?_pos,lc]
  refine aA (Yht (n:=dS m) (by omega)) ?_
  rintro _ H6 n6 k6 ⟨rfl,hz⟩
  have kD:=(((kC.trans k3).trans k4).trans k5).trans k6
  have hc6:=hc5.ae k6
  have SG:=Rt.ae k6
  by_cases h0:(aU (lh m) (dS m)).length=0
  ·have dT:=hz.Vk
   rw[dL,List.length_range]at dT
   have eS:sQ m l=(List.range (dS m)).map fun _=>0:=by unfold sQ wX;rw[av h0]
   rw[<-eS]at dT
   simp(disch:=first|(simp;done)|omega|rfl) [-getElem?_pos,lb,h0]
   refine jy (Zxo kD hE hS hc6.1 dT.1 (hP.ae kD) (by simp) (by simp)) ?_
   rintro e fr ⟨Ht,nt,Wt⟩ ⟨rfl,r',rfl,t1,t2,a,b,c',t3,t4,t5,t6⟩
   simp only at t1 t2 t6
   simp(disch:=first|(simp;done)|omega|rfl) [-getElem?_pos,t3,t4,t5,aE]
   exact⟨t1,t2,_,_,_,⟨rfl,rfl,rfl⟩,t6⟩
  ·have iO:0<(aU (lh m) (dS m)).length:=by omega
   have FY:(0:Int)<((aU (lh m) (dS m)).length:Int):=by omega
   obtain⟨qG,qv,Hs,hHs,qH,lH,rH⟩:=Zxv hM.qb.1 hS.qm O9 (by omega) hS.ql iO
   have eS:sQ m l=(eI (aU (lh m) (dS m)) (dS m)).map fun r=>de r (kf Hs 0):=by unfold sQ wX;rw[ak h0,hHs];rfl
   simp(disch:=first|(simp;done)|omega|rfl) [-getElem?_pos,lb,iO,FY,lc]
   refine aA (SE (n:=dS m) SG (by omega) rR (by omega)) ?_
   rintro x7 H7 n7 k7 hx7
   simp(disch:=first|(simp;done)|omega|rfl) [-getElem?_pos,]
   refine aA (Yop (c:=(aU (lh m) (dS m)).length) (n:=dS m) (j:=1729) (k:=1729) (SG.ae k7) hx7.FJ rR IU (by rw[pS];exact aM _) (by rw[pS];exact vR) (by omega) (by rw[pS];omega) (by omega) qR (fun r hr=>(FX qR (by decide) r hr).2) (by decide) (by decide) (by rw[pS];omega)) ?_
   rw[V2 rR]
   rintro x8 H8 n8 k8 hx8
   simp(disch:=first|(simp;done)|omega|rfl) [-getElem?_pos,]
   refine aA (Zoe (n:=dS m) (j:=1729) (k:=48) ((SG.ae k7).ae k8) ((hc6.ae k7).ae k8).1 (fun r hr=>⟨rR r hr,qR r hr⟩) (by omega) hS.ql (by decide) (by decide) (by omega) (by omega)) ?_
   rintro x9 H9 n9 k9 hx9
   obtain⟨_,p1,p2⟩:=hx9.B9
   have qz:ad [V.aa] 0 [x9]=[x9]:=rfl
   have kE:ab H9 n9 (H9.set n9 (.cells [x9] 70 true)) (n9+1):=ab.refl.new _
   have h1:=Yoz hx9
   simp(disch:=first|(simp;done)|omega|rfl) [-getElem?_pos, -V.one, -V.cells,p1,p2,qz,lb]
   refine aA (SE (n:=(aU (lh m) (dS m)).length) h1 (by simp) (fun r hr=>by
    obtain rfl:r=_:=by simpa using hr
    rw[dL]) (by omega)) ?_
   rintro x10 H10 n10 k10 Pa
   have Dy:eI [(aU (lh m) (dS m)).map fun r=>de r (px l)] (aU (lh m) (dS m)).length=qU ((aU (lh m) (dS m)).map fun r=>de r (px l)):=by unfold qU;rw[dL]
   rw[Dy]at Pa
   have j9:=(k9.trans kE).trans k10
   simp(disch:=first|(simp;done)|omega|rfl) [-getElem?_pos,]
   refine aA (Yc4 (n:=(aU (lh m) (dS m)).length) (c:=1) (B:=mI (((aU (lh m) (dS m)).length+1)*17296+1)) (hx8.ae j9) Pa.FJ wY IT qV (by rw[DU,dL]) iO (by omega) (by decide) (by decide) (fun _=>VL) (VV wY (by rw[qV,dL]) qG qv (by decide)) (fun i hi=>Ysb (by omega) (by omega))) ?_
   rintro _ H11 n11 k11 zag
   rcases zag with⟨a1,_⟩|⟨Hs',z,a1,rfl,a2⟩
   ·rw[hHs]at a1;cases a1
   ·rw[hHs]at a1
    obtain rfl:=oV a1
    have j11:=((k7.trans k8).trans j9).trans k11
    simp(disch:=first|(simp;done)|omega|rfl) [-getElem?_pos,ct.cv,lc]
    refine aA (SE (n:=dS m) (SG.ae j11) (by omega) rR (by omega)) ?_
    rintro x12 H12 n12 k12 zah
    simp(disch:=first|(simp;done)|omega|rfl) [-getElem?_pos,]
    refine aA (Zy7 (n:=1) (k:=0) (a2.ae k12) (by omega) rH (by decide)) ?_
    rintro x13 H13 n13 k13 zai
    simp(disch:=first|(simp;done)|omega|rfl) [-getElem?_pos,]
    have qc:∀q∈kf Hs 0,Qb 726481 q:=fun q hq=>by
     obtain⟨r,hr,rfl⟩:=dt.1 hq
     exact yi (qH r hr) (by decide) 0
    refine aA (Zoe (n:=(aU (lh m) (dS m)).length) (j:=1729) (k:=726481) (zah.FJ.ae k13) zai.1 (fun r hr=>FX qR (by decide) r hr) (by rw[kf,dL];omega) qc (by decide) (by decide) (by omega) (by rw[pS];omega)) ?_
    rintro x14 H14 n14 k14 Pb
    rw[<-eS]at Pb
    have j14:=((j11.trans k12).trans k13).trans k14
    have kF:=kD.trans j14
    simp(disch:=first|(simp;done)|omega|rfl) [-getElem?_pos,]
    refine jy (Zxo kF hE hS (hc6.ae j14).1 Pb.1 (hP.ae kF) (by simp) (by simp)) ?_
    rintro e fr ⟨Ht,nt,Wt⟩ ⟨rfl,r',rfl,t1,t2,a,b,c',t3,t4,t5,t6⟩
    simp only at t1 t2 t6
    simp(disch:=first|(simp;done)|omega|rfl) [-getElem?_pos,t3,t4,t5,aE]
    exact⟨t1,t2,_,_,_,⟨rfl,rfl,rfl⟩,t6⟩
 ·simp(disch:=first|(simp;done)|omega|rfl) [-getElem?_pos,hE,aG,aE]
  refine⟨kC,_,_,_,⟨rfl,rfl,rfl⟩,.inl ⟨?_,rfl,rfl,?_⟩⟩
  ·rw[zR,ak hE];exact hE
  ·rw[zR,ak hE]
variable {l:List aQ} {m:List (List aQ)}
set_option maxHeartbeats 4000000
noncomputable def A.b3:=A.q Tryz.f3
def A.c3:A.F 3=some ⟨92,[.tmp 4],A.b3⟩:=by kernel_rfl
def A.k3:=@A.kk 3 _ _ _ A.c3 rfl
def KW.ae{a b:V}{e:Int}{h h':T O}{n n':Nat}(s:KW m l a b e h n)(k:ab h n h' n'):KW m l a b e h' n':=s.imp id fun ⟨q1,q2,q3,q4⟩=>⟨q1,q2,q3.ae k,q4.ae k⟩
def Yif{m:List (List aQ)}{l:List aQ}:zQ m l=if lS m 64 16=0 then kK l (dS m) else lS m 64 16:=by
 unfold zQ
 by_cases h:lS m 64 16=0
 ·rw[av h]
  by_cases h2:kK l (dS m)=0<;>simp[cF,h,h2]
 ·rw[ak h]
  simp[cF,h]
def Yc1{h:T O}{N:Nat}{u v:V}{m:List (List aQ)}{l:List aQ}(hm:iV h N u m)(hl:Sl h N v (strs l))(hP:kZ h N)(m1:m.length<9223372036854775808)(m2:∀x∈m,x.length<9223372036854775808)(l1:l.length<9223372036854775808):Fn A.C 3 [u,v] h N (fun z _ _=>z=.bool true):=by
 intro w
 have hAw:=fun w=>Km (w:=w) hP
 have Kh:∀w,A.C.call (.func 4 [] []) [u,.int .i64 5,.int .i64 5] ⟨h,N,w⟩=some (.bool (pT 5 5 m),⟨h,N,w⟩):=fun w=>Yii (w:=w) (n:=5) (p:=5) hm m1 m2 (by decide) (by decide)
 have Pc:∀w,A.C.call (.func 5 [] []) [v,.int .i64 5] ⟨h,N,w⟩=some (.bool (gF 5 l),⟨h,N,w⟩):=fun w=>Zn3 (w:=w) (n:=5) hl l1 (by decide)
 rw[aR,A.k3 (by simp)]
 cases sm:pT 5 5 m with
 |false=>
  rw[sm]at Kh
  simp(disch:=first|(simp;done)|omega|rfl) [-getElem?_pos,A.b3,Kh,hAw,aE]
  exact ab.refl
 |true=>
  rw[sm]at Kh
  cases sl:gF 5 l with
  |false=>
   rw[sl]at Pc
   simp(disch:=first|(simp;done)|omega|rfl) [-getElem?_pos,A.b3,Kh,Pc,hAw,aE]
   exact ab.refl
  |true=>
   rw[sl]at Pc
   have DW:=VX sm (show 5<=6 by decide) (show 5<=6 by decide)
   have IZ:=P8 sl (show 5<=6 by decide)
   have f1:=hl.form.one
   have f2:=hl.form.cells
   have qz:ad [V.aa] 0 [v]=[v]:=rfl
   have ml:=Yj0 (Yc8 sm).1 (by decide)
   obtain⟨x1,h1,n1,w1,p1,p2,p3,us,p4,p5,p6⟩:=Yw0 (w:=[]) hl hm (by omega)
   have q4:=(p6.ae p2).mts p5.sl
   have hB:∀w,A.C.call (.func 6 [] []) [x1,.int .i64 12] ⟨h1,n1,w⟩=some (.bool (Ce 12 ([l]++m)),⟨h1,n1,w⟩):=fun w=>Yle (w:=w) (n:=12) q4 (by simp;omega) (fun x hx=>by
    rcases mE.1 hx with hx|hx
    ·obtain rfl:x=l:=by simpa using hx
     exact(SF IZ).1
    ·exact((Zl0 DW).2 x hx).1)
   have Pd:=fun w=>Km (w:=w) (hP.ae p2)
   have CU:ax N w1=[]:=by rw[p3];rfl
   simp(disch:=first|(simp;done)|omega|rfl) [-getElem?_pos, -V.cells, -V.one,A.b3,Kh,Pc,f1,f2,qz,wQ,p1]
   cases hy:Ce 12 ([l]++m)with
   |false=>
    rw[hy]at hB
    simp(disch:=first|(simp;done)|omega|rfl) [-getElem?_pos,hB,Pd,aE]
    exact⟨CU,p2⟩
   |true=>
    rw[hy]at hB
    simp(disch:=first|(simp;done)|omega|rfl) [-getElem?_pos,hB]
    clear p1 p3 p4 p5 p6 q4 hB Pd Kh Pc
    obtain⟨mm1,mm2⟩:=Zl0 DW
    obtain⟨ll1,ll2⟩:=SF IZ
    have sJ:=p2.le
    refine aA (Yse (hm.ae p2) (hl.ae p2) (hP.ae p2) sm sl hy) ?_
    rintro _ H2 n2 k2 ⟨a,b,c,rfl,t2⟩
    simp(disch:=first|(simp;done)|omega|rfl) [-getElem?_pos,]
    have j2:=p2.trans k2
    refine aA (Yiy (hm.ae j2) mm1 mm2) ?_
    rintro _ H3 n3 k3 rfl
    have j3:=j2.trans k3
    have A1:=@Yif m l
    by_cases hE:lS m 64 16=0
    ·have hM:=VY hE DW
     rw[av hE]at A1
     obtain⟨l0,Pe⟩:=bk hM.pos
     have m0:0<m.length:=hM.pos
     have m0':(0:Int)<(m.length:Int):=by omega
     have en:dS m=l0.length:=by simp[dS,Pe]
     have lm:=(hm.ae j3).len
     obtain⟨i1,o1,c1,e1,ww1,x,q1,q2,q3,q4,q5⟩:=(hm.ae j3).at Pe
     rw[kv]at q4
     have lx:=q5.len
     rw[w_]at lx
     simp(disch:=first|(simp;done)|omega|rfl) [-getElem?_pos,hE,aG,lm,m0,m0',q1,q2,q3,q4,lx]
     rw[<-en]
     refine aA (Zy8 (n:=dS m) (hl.ae j3) ll1 ll2) ?_
     rintro _ H4 n4 k4 rfl
     have j4:=j3.trans k4
     rw[<-A1]
     by_cases hZ:zQ m l=0
     ·have hS:=Ylx hZ sm sl hy
      have lM:(lh m).length=m.length:=UX
      have ll:(px l).length=dS m:=by simp[px,hS.len]
      have n5:=hS.n5
      have Vu:=hS.le
      simp(disch:=first|(simp;done)|omega|rfl) [-getElem?_pos,hZ,aG]
      refine aA (Ydm (c:=dS m) ((hm.ae j4).rat fun r hr=>(hM.row r hr).2) (yk.sl (hl.ae j4) hS.VW) hM.qb.1 ll (by omega) (by omega) hM.n1 hS.n5 hS.qm hS.ql) ?_
      rintro _ H5 Ch k5 ⟨y,z,rfl,Fm,hz5⟩
      have j5:=j4.trans k5
      have t5:=(t2.ae (((k3.trans k4).trans k5)))
      have qs:∀q∈sQ m l,Qb 3641056 q:=Yde hM.qb.1 hS.qm hS.n5 (by omega) hS.ql
      have ls:(sQ m l).length=dS m:=V0
      have lb:(bQ m l).length=dS m:=I1
      have e1:Cg (px l) (sQ m l)=bQ m l:=Zxl hM.qb.1 ll
      have qb:∀q∈bQ m l,Qb 3641105 q:=by rw[<-e1];exact fun q hq=>(Ycu (j:=48) (k:=3641056) hS.ql qs (by decide) (by decide) q hq).mono (by omega)
      have ts:∀q∈sQ m l,(aS q).length<1000000000:=fun q hq=>PC (k:=3641056) (qs q hq) (by decide)
      have tb:∀q∈bQ m l,(aS q).length<1000000000:=fun q hq=>PC (k:=3641105) (qb q hq) (by decide)
      change Tx H5 Ch y (sQ m l)at Fm
      change Tx H5 Ch z (bQ m l)at hz5
      have r1:=fun w=>Ye6 (w:=w) Fm (by omega) ts
      have r2:=fun w=>Ye6 (w:=w) hz5 (by omega) tb
      have lf:=fun w=>Ypr (h:=H5) (N:=Ch+1) (i:=Ch) (w:=w) (a0:=if fv (sQ m l)=true then 4 else 0) (a1:=if fv (bQ m l)=true then 4 else 0) (by omega)
      have hF:zR m l=cF [if fv (sQ m l)=true then 4 else 0,if fv (bQ m l)=true then 4 else 0]:=av hZ
      rw[<-hF]at lf
      have kD:ab H5 Ch (H5.set Ch (.cells [.int .i64 (if fv (sQ m l)=true then 4 else 0),.int .i64 (if fv (bQ m l)=true then 4 else 0)] 3 true)) (Ch+1):=ab.refl.new _
      simp(disch:=first|(simp;done)|omega|rfl) [-getElem?_pos,ct.cv,r1,r2,ad,lf]
      generalize H5.set Ch (.cells [.int .i64 (if fv (sQ m l)=true then 4 else 0),.int .i64 (if fv (bQ m l)=true then 4 else 0)] 3 true)=G at*
      have j6:=j5.trans kD
      have Pf:=fun w=>Km (w:=w) (hP.ae j6)
      rcases t5 with⟨s1,rfl,rfl,rfl⟩|⟨s1,rfl,s3,s4⟩
      ·simp(disch:=first|(simp;done)|omega|rfl) [-getElem?_pos,s1,aG,Pf,aE]
       exact⟨CU,j6⟩
      ·have g1:=fun w=>Yc0 (w:=w) (l:=(sQ m l).map aS) (s3.ae kD) (Fm.ae kD) (by rw[dL];omega)
       have g2:=fun w=>Yc0 (w:=w) (l:=(bQ m l).map aS) (s4.ae kD) (hz5.ae kD) (by rw[dL];omega)
       simp(disch:=first|(simp;done)|omega|rfl) [-getElem?_pos,s1,aG,g1,g2,Pf,aE]
       exact⟨CU,j6⟩
     ·have hF:zR m l=zQ m l:=ak hZ
      have zaj:=fun w=>Km (w:=w) (hP.ae j4)
      rcases t2 with⟨s1,rfl,rfl,rfl⟩|⟨s1,rfl,s3,s4⟩
      ·simp(disch:=first|(simp;done)|omega|rfl) [-getElem?_pos,hF,hZ,aG,zaj,aE]
       exact⟨CU,j4⟩
      ·rw[hF]at s1
       exact absurd s1 hZ
    ·rw[ak hE]at A1
     have hZ:¬zQ m l=0:=by rw[A1];exact hE
     have hF:zR m l=lS m 64 16:=by rw[<-A1];exact ak hZ
     have zak:=fun w=>Km (w:=w) (hP.ae j3)
     rcases t2 with⟨s1,rfl,rfl,rfl⟩|⟨s1,rfl,s3,s4⟩
     ·simp(disch:=first|(simp;done)|omega|rfl) [-getElem?_pos,hF,hE,aG,zak,aE]
      exact⟨CU,j3⟩
     ·rw[hF]at s1
      exact absurd s1 hE
open Go
inductive mR where
 |nil
 |emp (b:Addr)
 |sl (b:Addr) (l c:Nat) (f:Nat->ByteArray)
def mR.val:mR->Value
 |.nil=>.slice none 0 0
 |.emp b=>.slice (some b) 0 0
 |.sl b l c f=>.slice (some b) l c
def mR.ok(W:World):mR->Prop
 |.sl b l c f=>l<=c/\0<c/\∀i,i<c->W.cell? (b.add i)=some (.string (f i))
 |_=>True
def mR.strs:mR->List aQ
 |.sl b l c f=>(List.range l).map fun i=>(f i).data.toList
 |_=>[]
def Dz(W:World)(a:Addr):TypeId:=match W.heap[a.block]? with
 |some (.cells _ e _)=>e
 |_=>0
def Zzc{W:World}{a:Addr}{n:Nat}{f:Nat->Value}(hn:0<n)(hc:∀i,i<n->W.cell? (a.add i)=some (f i)):
  ∃c' lo hi,W.heap[a.block]?=some (.cells c' (Dz W a) (lo,hi))/\a.spot=none/\(∀i,i<n->c'[a.off+i]?=some (f i))/\a.off+n<=c'.size/\a.block<W.heap.size:=by
 have h0:=hc 0 hn
 have Yy:a.add 0=a:=by simp[Addr.add]
 rw[Yy]at h0
 obtain⟨c',e,fr,hb⟩:∃c' e fr,W.heap[a.block]?=some (.cells c' e fr):=by
  unfold World.cell? at h0
  split at h0
  ·rename_i c' e fr hb;exact⟨c',e,fr,hb⟩
  ·cases h0
 have hs:a.spot=none:=by
  unfold World.cell? at h0
  rw[hb]at h0
  simp only at h0
  split at h0
  ·cases h0
  ·rename_i h;simpa using h
 have fW:∀i,i<n->c'[a.off+i]?=some (f i):=fun i hi=>by
  have:=hc i hi
  unfold World.cell? at this
  have e1:(a.add i).block=a.block:=by unfold Addr.add;split<;>rfl
  have e2:(a.add i).off=a.off+i:=by unfold Addr.add;split<;>simp_all
  have e3:(a.add i).spot=none:=by unfold Addr.add;split<;>simp_all
  rw[e1,hb]at this
  simp only[e2,e3,Option.isSome_none,fH,if_false]at this
  exact this
 have ay:a.block<W.heap.size:=by
  rcases Nat.lt_or_ge a.block W.heap.size with h|h
  ·exact h
  ·rw[Array.getElem?_eq_none h]at hb;cases hb
 have eQ:a.off+n<=c'.size:=by
  have:=fW (n-1) (by omega)
  have h2:=(Array.getElem?_eq_some_iff.1 this).1
  omega
 obtain⟨lo,hi⟩:=fr
 exact⟨c',lo,hi,by rw[hb];simp[Dz,hb],hs,fW,eQ,ay⟩
structure SH where
 a:Addr
 n:Nat
 f:Nat->Value
 g:Nat->V
def SH.ok(W:World)(r:SH):Prop:=0<r.n/\(∀i,i<r.n->W.cell? (r.a.add i)=some (r.f i))/\∀i,i<r.n->(r.f i).oneCell'=true
def Zs6{P:Program}{dK:Nat->Option lC}{G:Nat}(hP:DF P dK G){x:cI}(hx:jm P x){F d:Nat}{f:FuncId}{mf:lC}(hf:yV P f=some mf){args:List V}{xs:List Value}{v:V}{y:Value}{S:St}{μ:Mu}{W:World}
  (h:Yum (CE mf (dW (zk x dK F d) F) args S) v) (hh:bm P μ W S) (hS:S.w=[]) (A2:aV μ args xs) (hv:∀μ z,VR μ v z->z=y):
  Calls P f ⟨xs⟩ W fun e W'=>e=.returned y/\RowKit.Below W.heap.size W W':=by
 obtain⟨s,bO,hw⟩:=h.ex
 obtain⟨fn,BH,_⟩:=Zze hf
 have ih:=Rc hP.m hP.e hP.t hx F d
 have:=Yfy (Yg0 ih hP.e (Ygc hP.m hP.e ih) (Yl4 ih hP.e) (Zxz ih) F) BH hf hh A2 bO
 refine callsIn_wide.1 (CallsIn.mono (F:=Fence.wide) this fun e W' he=>?_)
 cases e with
 |returned z=>
  obtain⟨μ',ws,h1,h2⟩:=he
  have pY:ws=[]:=by have:=h2.wl;rw[hw,hS]at this;simpa using this.symm
  subst pY
  exact⟨by rw[hv _ _ h1],h2.eg.os,h2.eg.tape,h2.eg.output,h2.eg.size,fun k hk=>h2.eg.block k hk fun i hi=>by cases hi⟩
 |panicked _=>exact he.elim
 |outgrown=>exact he.elim
def Cx.calls{P:Program}{C:Cx}{G:Nat}(hP:DF P C.dK G)(hx:jm P C.x){f:Nat}{mf:lC}(hf:yV P f=some mf)(ht:C.dK f=some mf){args:List V}{xs:List Value}{v:V}{y:Value}{S:St}{μ:Mu}{W:World}
  (hn:∀st,C.x (.func f [] []) args st=none) (h:Fn C f args S.h S.n (fun u _ _=>u=v)) (hh:bm P μ W S) (hS:S.w=[]) (A2:aV μ args xs) (hv:∀μ z,VR μ v z->z=y):
  Calls P f ⟨xs⟩ W fun e W'=>e=.returned y/\RowKit.Below W.heap.size W W':=by
 obtain⟨u,aC,hc,hw,hk,hu⟩:=(h []).ex
 subst hu
 have hS':(⟨S.h,S.n,[]⟩:St)=S:=by obtain⟨a,b,c⟩:=S;simp only at hS;subst hS;rfl
 rw[hS']at hc
 rw[Cx.rm]at hc
 unfold ti at hc
 rw[hn]at hc
 simp only at hc
 obtain⟨n,sM⟩:=Zlj (q:=fun n=>dW (C.at n) n) (fun n m hnm=>Aw (Cx.ed hnm) n m hnm) (fun _ _ _ _ _ e=>Cx.p_ e) hc
 unfold yr at sM
 simp only[ht,List.nil_append,wU]at sM
 exact Zs6 (F:=n) (d:=n) hP hx hf ⟨_,sM,hw⟩ hh hS A2 hv
variable {P:Program} {S:St} {W:World} {μ:Mu}
def wx(tb:List (Nat×O))(i:Nat):Nat:=match lk tb i with
 |some (.cells c _ _)=>c.length
 |_=>0
def jf(P:Program)(W:World)(tb:List (Nat×O)):Prop:=∀i o,lk tb i=some o->∀μ,OM P μ W o ⟨i,0,wx tb i⟩
def jf.one{g:Nat}{k:IntKind}{zs:List Int}{e:TypeId}{f:Nat×Nat}(h:W.heap[g]?=some (.cells (zs.map fun z=>Value.int k z).toArray e f)):jf P W [(g,.cells (zs.map fun z=>V.int k z) e false)]:=by
 intro i o ho μ
 obtain⟨lo,hi⟩:=f
 simp only[lk]at ho
 split at ho
 ·rename_i hb
  have:=jM hb
  subst this
  simp only[al]at ho
  subst ho
  have hl:wx [(g,O.cells (zs.map fun z=>V.int k z) e false)] g=zs.length:=by simp[wx,lk,hb]
  rw[hl]
  refine⟨_,lo,hi,h,by simp,by simp,fun j v hv=>?_,fun j x hj hx=>?_,fun h=>by cases h⟩
  ·rw[eY]at hv
   cases hz:zs[j]? with
   |none=>rw[hz]at hv;cases hv
   |some z=>
    rw[hz]at hv
    simp only[pL,al]at hv
    subst hv
    exact⟨.int k z,by simp[hz],by simp[VR]⟩
  ·simp only[xg,List.getElem?_toArray,eY,ki]at hx
   obtain⟨z,_,rfl⟩:=hx
   rfl
 ·cases ho
structure sX (P:Program) (W:World) (μ:Mu) (S:St):Prop where
 hr:bm P μ W S
 w:S.w=[]
 ro:∀i l o,μ i=some l->S.h.get i=some o->o.wr=false
structure uF (μ:Mu) (S:St) (μ':Mu) (S':St):Prop where
 mu:∀i l,μ i=some l->μ' i=some l
 ae:ab S.h S.n S'.h S'.n
def uF.refl:uF μ S μ S:=⟨fun _ _ h=>h,ab.refl⟩
def uF.trans{μ1 μ2:Mu}{S1 S2:St}(a:uF μ S μ1 S1)(b:uF μ1 S1 μ2 S2):uF μ S μ2 S2:=⟨fun i l h=>b.mu i l (a.mu i l h),a.ae.trans b.ae⟩
def Yoc{tb:List (Nat×O)}{G:Nat}(hG:P.globals.size=G)(hW:G<=W.heap.size)(mM:My G tb=true)(Bj:jf P W tb):∃μ,sX P W μ (EN G tb):=by
 subst hG
 have get:∀i,i<P.globals.size->(EN P.globals.size tb).h.get i=some (match lk tb i with|some o=>o|none=>.dead):=fun i hi=>by
  show (tJ (zo P.globals.size) tb).get i=_
  rw[BM]
  cases lk tb i with
  |some o=>rfl
  |none=>exact Q9 _ _ hi
 have hwr:∀i o,i<P.globals.size->(EN P.globals.size tb).h.get i=some o->o.wr=false:=fun i o hi ho=>by
  rw[get i hi]at ho
  simp only[al]at ho
  cases hl:lk tb i with
  |none=>rw[hl]at ho;subst ho;rfl
  |some o'=>
   rw[hl]at ho
   simp only at ho
   subst ho
   have:=(X9 mM hl).2
   cases o' with
   |cells c e rw=>cases rw with
    |true=>cases this
    |false=>rfl
   |_=>cases this
 have SI:∀i l,(fun i=>if i<P.globals.size then some (⟨i,0,wx tb i⟩:L) else none) i=some l->i<P.globals.size/\l=⟨i,0,wx tb i⟩:=fun i l h=>by
  simp only at h
  split at h
  ·rename_i hi;simp only[al]at h;exact⟨hi,h.symm⟩
  ·cases h
 refine⟨fun i=>if i<P.globals.size then some ⟨i,0,wx tb i⟩ else none,⟨fun i l hl=>?_,fun i l hl=>?_,fun i j l l' o o' hi hj aW ho xe hw nO=>?_,fun g hg=>⟨wx tb g,by simp[hg]⟩⟩,rfl,fun i l o hl ho=>?_⟩
 ·obtain⟨h,rfl⟩:=SI i l hl
  exact⟨h,by simp only;omega⟩
 ·obtain⟨h,rfl⟩:=SI i l hl
  refine⟨_,get i h,?_⟩
  cases fM:lk tb i with
  |none=>trivial
  |some o=>exact Bj i o fM _
 ·rw[hwr i o (SI i l hi).1 ho]at hw;cases hw
 ·exact hwr i o (SI i l hl).1 ho
def Yno{tb:List (Nat×O)}{G g:Nat}{o:O}(h:lk tb g=some o):(EN G tb).h.get g=some o:=by
 show (tJ (zo G) tb).get g=_
 rw[BM,h]
def sX.row(s:sX P W μ S){r:SH}(mM:r.ok W)(hv:∀i,i<r.n->VR μ (r.g i) (r.f i)):
  ∃μ' S',sX P W μ' S'/\uF μ S μ' S'/\S'.n=S.n+1/\μ' S.n=some ⟨r.a.block,r.a.off,r.n⟩/\S'.h.get S.n=some (.cells ((List.range r.n).map r.g) (Dz W r.a) false):=by
 obtain⟨g1,g2,g3⟩:=mM
 obtain⟨c',lo,hi,hb,hs,fW,eQ,ay⟩:=Zzc g1 g2
 have dC:∀i l,μ i=some l->(fun i=>if i=S.n then some (⟨r.a.block,r.a.off,r.n⟩:L) else μ i) i=some l:=fun i l hl=>by
  have:=(s.hr.dc i l hl).1
  simp only
  rw[ak (by omega)];exact hl
 have wy:∀i l,(fun i=>if i=S.n then some (⟨r.a.block,r.a.off,r.n⟩:L) else μ i) i=some l->(i=S.n/\l=⟨r.a.block,r.a.off,r.n⟩)\/(i≠S.n/\μ i=some l):=fun i l h=>by
  simp only at h
  split at h
  ·rename_i e;simp only[al]at h;exact .inl ⟨e,h.symm⟩
  ·rename_i e;exact .inr ⟨e,h⟩
 have ry:(S.h.set S.n (.cells ((List.range r.n).map r.g) (Dz W r.a) false)).get S.n=some (.cells ((List.range r.n).map r.g) (Dz W r.a) false):=by simp[T.ag]
 have hold:∀i,i≠S.n->(S.h.set S.n (.cells ((List.range r.n).map r.g) (Dz W r.a) false)).get i=S.h.get i:=fun i hi=>by simp[T.ag,hi]
 have o9:∀i l o,(fun i=>if i=S.n then some (⟨r.a.block,r.a.off,r.n⟩:L) else μ i) i=some l->(S.h.set S.n (.cells ((List.range r.n).map r.g) (Dz W r.a) false)).get i=some o->o.wr=false:=fun i l o hl ho=>by
  rcases wy i l hl with⟨rfl,rfl⟩|⟨h1,h2⟩
  ·rw[ry]at ho;simp only[al]at ho;subst ho;rfl
  ·rw[hold i h1]at ho;exact s.ro i l o h2 ho
 refine⟨_,⟨S.h.set S.n (.cells ((List.range r.n).map r.g) (Dz W r.a) false),S.n+1,[]⟩,⟨⟨fun i l hl=>?_,fun i l hl=>?_,fun i j l l' o o' iB hj aW ho xe hw nO=>?_,fun g hg=>?_⟩,rfl,o9⟩,⟨dC,by simp,fun i hi=>hold i (by omega)⟩,rfl,by simp,ry⟩
 ·rcases wy i l hl with⟨rfl,rfl⟩|⟨h1,h2⟩
  ·exact⟨by simp,ay⟩
  ·obtain⟨q1,q2⟩:=s.hr.dc i l h2
   exact⟨by simp only;omega,q2⟩
 ·rcases wy i l hl with⟨rfl,rfl⟩|⟨h1,h2⟩
  ·refine⟨_,ry,c',lo,hi,hb,eQ,by simp,fun j v hvj=>?_,fun j x hj hx=>?_,fun h=>by cases h⟩
   ·have hj:j<r.n:=by have:=(wP.1 hvj).1;simpa using this
    have GR:v=r.g j:=by simpa[hj]using hvj.symm
    subst GR
    exact⟨_,fW j hj,VR.mono dC _ _ (hv j hj)⟩
   ·have hj:j<r.n:=hj
    rw[fW j hj]at hx
    simp only[al]at hx
    subst hx
    exact g3 j hj
  ·obtain⟨o,q1,q2⟩:=s.hr.obj i l h2
   exact⟨o,by rw[hold i h1];exact q1,q2.mono dC⟩
 ·rw[o9 i l o iB ho]at hw;cases hw
 ·obtain⟨t,ht⟩:=s.hr.gK g hg
  exact⟨t,dC _ _ ht⟩
def sX.slice(s:sX P W μ S){r:SH}(mM:r.ok W)(hv:∀i,i<r.n->VR μ (r.g i) (r.f i)){len cap z:Nat}(hn:r.n=cap*z)(hl:len<=cap)(hz:0<z):
  ∃μ' S' i,sX P W μ' S'/\uF μ S μ' S'/\VR μ' (.slice i 0 len (some cap) z) (.slice (some r.a) len cap)/\i<S'.n/\S'.h.get i=some (.cells ((List.range r.n).map r.g) (Dz W r.a) false):=by
 obtain⟨μ',S',q1,q2,q3,q4,q5⟩:=s.row mM hv
 refine⟨μ',S',S.n,q1,q2,?_,by omega,q5⟩
 obtain⟨⟨b,off,sp⟩,n,f,g⟩:=r
 obtain⟨g1,g2,_⟩:=mM
 obtain⟨_,_,_,_,hs,_,_,_⟩:=Zzc g1 g2
 simp only at hs hn q4
 subst hs
 simp only[VR]
 exact⟨⟨b,off,n⟩,cap,q4,by simp,hl,by simp[hn],fun k hk=>by simpa using hk,fun h=>by cases h⟩
def sX.list{P:Program}{W:World}{μ:Mu}{S:St}(s:sX P W μ S){i:mR}(hi:i.ok W):
  ∃μ' S' v,sX P W μ' S'/\uF μ S μ' S'/\VR μ' v i.val/\Sl S'.h S'.n v (strs i.strs):=by
 cases i with
 |nil=>exact⟨μ,S,.aa,s,uF.refl,by simp[mR.val,VR],Sl.nil⟩
 |emp b=>exact⟨μ,S,.empty,s,uF.refl,by simp[mR.val,VR],.inl ⟨rfl,.inr rfl⟩⟩
 |sl b l c f=>
  obtain⟨h1,h2,h3⟩:=hi
  obtain⟨μ',S',k,q1,q2,q3,q4,q5⟩:=s.slice (r:=⟨b,c,fun i=>.string (f i),fun i=>.str (f i).data.toList⟩) ⟨h2,h3,fun _ _=>rfl⟩ (fun i _=>by simp[VR]) (len:=l) (cap:=c) (z:=1) (by simp) h1 (by decide)
  refine⟨μ',S',_,q1,q2,q3,.inr ⟨k,0,some c,_,_,false,by simp[strs,mR.strs],q4,q5,fun j hj=>?_,by simp[strs,mR.strs];omega,fun k hk=>by simp[strs,mR.strs]at hk ⊢;omega⟩⟩
  have od:j<l:=by simpa[strs,mR.strs]using hj
  simp[strs,mR.strs,od,show j<c by omega]
inductive Yyd where
 |nil
 |emp (b:Addr)
 |sl (b:Addr) (l c:Nat) (f:Nat->Int)
def sX.lists{P:Program}{W:World}{F:Nat->mR}:∀(n:Nat),(∀i,i<n->(F i).ok W)->∀{μ:Mu} {S:St},sX P W μ S->
  ∃μ' S',sX P W μ' S'/\uF μ S μ' S'/\∀i,i<n->∃v,VR μ' v (F i).val/\Sl S'.h S'.n v (strs (F i).strs)
 |0,_,μ,S,s=>⟨μ,S,s,uF.refl,fun i hi=>absurd hi (by omega)⟩
 |n+1,hF,μ,S,s=>by
  obtain⟨μ1,S1,s1,g1,a1⟩:=sX.lists n (fun i hi=>hF i (by omega)) s
  obtain⟨μ2,S2,v,s2,g2,a2,a3⟩:=s1.list (hF n (by omega))
  refine⟨μ2,S2,s2,g1.trans g2,fun i hi=>?_⟩
  by_cases e:i=n
  ·subst e;exact⟨v,a2,a3⟩
  ·obtain⟨u,b1,b2⟩:=a1 i (by omega)
   exact⟨u,VR.mono g2.mu _ _ b1,b2.ae g2.ae⟩
inductive qh where
 |nil
 |emp (b:Addr)
 |sl (b:Addr) (l c:Nat) (F:Nat->mR)
def qh.val:qh->Value
 |.nil=>.slice none 0 0
 |.emp b=>.slice (some b) 0 0
 |.sl b l c f=>.slice (some b) l c
def qh.ok(W:World):qh->Prop
 |.sl b l c F=>l<=c/\0<c/\∀i,i<c->W.cell? (b.add i)=some (F i).val/\(F i).ok W
 |_=>True
def qh.rows:qh->List (List aQ)
 |.sl b l c F=>(List.range l).map fun i=>(F i).strs
 |_=>[]
def mR.one{i:mR}:i.val.oneCell'=true:=by cases i<;>rfl
def sX.mat{P:Program}{W:World}{μ:Mu}{S:St}(s:sX P W μ S){m:qh}(hm:m.ok W):
  ∃μ' S' v,sX P W μ' S'/\uF μ S μ' S'/\VR μ' v m.val/\∃us:List V,Sl S'.h S'.n v us/\us.length=m.rows.length/\∀(j:Nat) (l:List aQ),m.rows[j]?=some l->∃u,us[j]?=some u/\Sl S'.h S'.n u (strs l):=by
 cases m with
 |nil=>exact⟨μ,S,.aa,s,uF.refl,by simp[qh.val,VR],[],Sl.nil,rfl,fun j l h=>by simp[qh.rows]at h⟩
 |emp b=>exact⟨μ,S,.empty,s,uF.refl,by simp[qh.val,VR],[],.inl ⟨rfl,.inr rfl⟩,rfl,fun j l h=>by simp[qh.rows]at h⟩
 |sl b l c F=>
  obtain⟨h1,h2,h3⟩:=hm
  obtain⟨μ1,S1,s1,g1,a1⟩:=sX.lists c (fun i hi=>(h3 i hi).2) s
  have hex:∀i,∃v:V,i<c->VR μ1 v (F i).val/\Sl S1.h S1.n v (strs (F i).strs):=fun i=>by
   by_cases hi:i<c
   ·obtain⟨v,hv⟩:=a1 i hi;exact⟨v,fun _=>hv⟩
   ·exact⟨.aa,fun h=>absurd h hi⟩
  obtain⟨g,hg⟩:=Classical.axiomOfChoice hex
  obtain⟨μ',S',k,q1,q2,q3,q4,q5⟩:=s1.slice (r:=⟨b,c,fun i=>(F i).val,g⟩) ⟨h2,fun i hi=>(h3 i hi).1,fun _ _=>mR.one⟩ (fun i hi=>(hg i hi).1) (len:=l) (cap:=c) (z:=1) (by simp) h1 (by decide)
  refine⟨μ',S',_,q1,g1.trans q2,q3,(List.range l).map g,.inr ⟨k,0,some c,_,_,false,by simp,q4,q5,fun j hj=>?_,by simp;omega,fun k hk=>by simp at hk ⊢;omega⟩,by simp[qh.rows],fun j x hj=>?_⟩
  ·have od:j<l:=by simpa using hj
   simp[od,show j<c by omega]
  ·have Hd:j<l:=by
    apply tg;intro hc
    rw[eJ (by simp[qh.rows];omega)]at hj;cases hj
   have hx:x=(F j).strs:=by simpa[qh.rows,Hd]using hj.symm
   subst hx
   exact⟨g j,by simp[Hd],((hg j (by omega)).2).ae q2.ae⟩
end Go.Mx
