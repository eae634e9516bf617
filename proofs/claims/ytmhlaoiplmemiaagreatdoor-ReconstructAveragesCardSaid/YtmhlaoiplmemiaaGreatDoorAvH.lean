/-ReconstructAverages-/
import Derived.Test.YtmhlaoiplmemiaaGreatDoorAvD
set_option linter.all false
namespace Go.Mx
open Go Go.Proofs
variable {N:Nat} {h:T O} {v:V} {w:List Nat}
set_option maxRecDepth 1000000
noncomputable def A.b15:=A.q Tryz.f15
def A.c15:A.F 15=some ⟨4,[.tmp 2],A.b15⟩:=by kernel_rfl
def A.k15:=@A.kk 15 _ _ _ A.c15 rfl
noncomputable def A.b16:=A.q Tryz.f16
def A.k16:=@A.kk 16 9 [.tmp 4] A.b16 (by kernel_rfl) rfl
def Ygd{a b:Rat}{j k:Nat}(ha:Qb j a)(hb:Qb k b)(hj:j≤400000000)(hk:k≤400000000)(hl:(Zas b).length<1000000000):Fn A.C 16 [.str (Zas a),.str (Zas b)] h N (fun u _ _=>u=.str (Zas (a-b))):=by
 intro w
 have hn:=fun st=>Ylx (q:=b) (st:=st) hl
 rw[Zaa,A.k16 (by simp)]
 simp(disch:=first|(simp;done)|omega|rfl) [-getElem?_pos,A.b16,hn]
 refine Zab (Ye1 (a:=a) (b:= -b) ha hb.neg hj hk) ?_
 rintro _ H1 n1 k1 rfl
 rw[←Rat.sub_eq_add_neg]
 simp(disch:=first|(simp;done)|omega|rfl) [-getElem?_pos,Ret]
 exact k1
def Zko(hP:P10 h N):A.C.call (.func 6 [] []) [] ⟨h,N,w⟩=some (.bool true,⟨h,N,w⟩):=by
 exact A.known hP.2
def Ylc{st:St}:A.C.call (.func 15 [] []) [v] st=some (v,st):=by
 apply Call.eq
 rw[Zaa,A.k15 (by simp)]
 simp(disch:=first|(simp;done)|omega|rfl) [-getElem?_pos,A.b15]
def Yow:Zas 1=[49]:=by decide+kernel
def Yrb:Zas 2=[50]:=by decide+kernel
def Yev{q n:Nat}(hq:h.get q=some (.cells [.str [49]] 24 true))(hqN:q<N)(hv:Tx h N v ((List.range (n-1)).map fun _=>0))(hn:0<n)(hn2:n<1000):∃v' h' n',Za6 ⟨h,N,w⟩ 1 16 24 (.slice q 0 1 (some 1) 1) v=some (v',⟨h',n',w⟩)∧Keeps h N h' n'∧Tx h' n' v' (Zq1 n 0 1):=by
 have hsr:Zat ⟨h,N,w⟩ 1 v=some (n-1,tx ((List.range (n-1)).map fun _=>0)):=by
  rw[Ya0 hv,Zfe]
  simp
 have hu:tx (Zq1 n 0 1)=.str [49]::tx ((List.range (n-1)).map fun _=>0):=by
  obtain⟨k,rfl⟩:∃k,n=k+1:=⟨n-1,by omega⟩
  unfold Zq1 tx strs
  rw[List.range_succ_eq_map]
  simp[Yow]
 by_cases h1:n=1
 ·subst h1
  refine⟨.slice q 0 1 (some 1) 1,h,N,by simp[Za6,hsr],Keeps.refl,?_⟩
  exact Sl.row (cp:=some 1) hqN (by rw[hq,hu];rfl) (by rw[Zfe,Zga]) (by simp[Zga])
 ·refine⟨.slice N 0 n none 1,h.set N (.cells (tx (Zq1 n 0 1)) 24 true),N+1,?_,Keeps.refl.new _,?_⟩
  ·have hsq:slc [V.str [49]] 0 1=some [V.str [49]]:=rfl
   simp only[Za6,hsr,St.row,hq,Yxn,hsq,St.alloc]
   rw[Yur (by omega),Yur (by unfold Zcb;omega),Yur (by omega),hu,show 1+(n-1)=n by omega]
   rfl
  ·exact Sl.row (cp:=none) (by omega) (by rw[T.get_set,Yuu rfl]) (by rw[Zfe,Zga]) (by simp)
def Ykf{q:Nat}{l:List Rat}(hv:Tx h N v l)(hl:0<l.length)(hl2:l.length<1000)(hq:h.get q=some (.cells [] 24 true)):Za6 ⟨h,N,w⟩ 1 16 24 (.slice q 0 0 (some 0) 1) v=some (.slice N 0 l.length none 1,⟨h.set N (.cells (tx l) 24 true),N+1,w⟩):=by
 have hsr:Zat ⟨h,N,w⟩ 1 v=some (l.length,tx l):=by rw[Ya0 hv,Zfe]
 have hsq:slc ([]:List V) 0 0=some []:=rfl
 simp only[Za6,hsr,St.row,hq,Yxn,Nat.zero_mul,hsq,St.alloc]
 rw[Yur (by omega),Yur (by unfold Zcb;omega),Yur (by omega)]
 simp
set_option maxHeartbeats 16000000
def PkF.at{N0 M:Nat}{h h':T O}{v:V}{l:List Pk}(s:PkF N0 M h v l)(k:∀i,i<M→h'.get i=h.get i):PkF N0 M h' v l:=s.keep ⟨Yus _,k⟩
def Yqm{nB n n1:Nat}{B H:T O}{W:List Nat}{vd v:V}{m:List (List Str)}{am:List Int}{off:Str}{r0:T V}(hF:FwM m)(hn:n=hdL m)(hd0:MtS B nB vd m)(hal:am.length≤8)(hP0:P10 B nB)(hof:Zsp off 4=true)(hW:oldIds nB W=[])(hK:Keeps B nB H n1)(hL:PkF nB n1 H v (pkL (Zeb m) n am (n+am.length)))(a0:r0.get 0=some vd)(a2:r0.get 2=some (.str off))(a7:r0.get 7=some (.int .i64 n))(a8:r0.get 8=some v):
  Code A.C none A.ta3_0 ⟨r0,223,[]⟩ ⟨H,n1,W⟩ (fun e fr st=>e=.ret∧∃r,fr=⟨r,223,[]⟩∧r.get 6=some (.bool true)∧oldIds nB st.w=[]∧Keeps B nB st.h st.n):=by
 rw[Zah]
 have leK:=hK.le
 have D:=hF.D
 have d1:=D.n1
 have d4:=D.n4
 rw[←hn]at d1 d4
 have hd:=hd0.keep hK
 have hP:=hP0.keep hK
 have ld:=hd.len
 have lm:m.length=(Zeb m).length:=by simp[Zeb]
 have s1:=D.s1
 have s5:=D.s5
 obtain⟨o1,o2,o3⟩:=Yj0 hof
 obtain⟨x,ex⟩:∃x,Zfb off=x:=⟨_,rfl⟩
 have eof:off=Zas x:=by rw[←ex];exact(Zhq o1).1.symm
 rw[ex]at o3
 have sp1:splice [V.str []] 0 [.str [49]]=[.str [49]]:=rfl
 have hn1:(n:Int)-1=((n-1:Nat):Int):=by omega
 have k1:Keeps H n1 (H.set n1 (.cells [.str [49]] 24 true)) (n1+1):=Keeps.refl.new _
 simp(disch:=first|(simp;done)|omega|rfl) [-getElem?_pos,A.ta3_0,a0,a2,a7,a8,sp1,Ylc,hn1]
 refine Zab (Yjb (n:=n-1) (by omega)) ?_
 rintro vz H2 n2 k2 hvz
 have le2:=k2.le
 have g2:H2.get n1=some (.cells [.str [49]] 24 true):=(k2.get n1 (by omega)).trans (by rw[T.get_set,Yuu rfl])
 obtain⟨vu,H3,n3,f1,k3,hvu⟩:=Yev (w:=W) g2 (by omega) hvz d1 (by omega)
 have kk3:=(k1.trans k2).trans k3
 simp(disch:=first|(simp;done)|omega|rfl) [-getElem?_pos,a0,a2,a7,a8,Zbs,f1]
 have hub:=Zoe (Zti (n:=n) (k:=0) (a:=1) (by decide)) (by decide) (by decide)
 rw[Zga]at hub
 obtain⟨hE,hQ⟩:=Zxk hF (k:=0) (by omega) (a:=1) (by decide)
 rw[←hn]at hE hQ
 have hone:(Zib (Zeb m) 0).map (fun x=>((1:Int):Rat)*x)=Zib (Zeb m) 0:=by
  have:(fun x:Rat=>((1:Int):Rat)*x)=id:=funext fun x=>Rat.one_mul x
  rw[this,List.map_id]
 rw[hone]at hQ
 refine Zab (Zxj (l:=(Zq1 n 0 ((1:Int):Rat)).map Zas) (hd.keep kk3) hvu (hP.keep kk3) hF.sh (hub.2.1 (by omega))) ?_
 rintro y H4 n4 k4 hy
 rw[hQ]at hy
 have hcb:=Zoe (fun q hq=>D.col 0 q hq) (by decide) (by decide)
 rw[Zgy]at hcb
 rcases hy with⟨h0,_⟩|⟨_,⟨h0,_⟩|⟨_,vs,rfl,hvs⟩⟩
 ·exact absurd hE h0
 ·rw[hcb.2.2]at h0;cases h0
 have kk4:=kk3.trans k4
 have le4:=kk4.le
 simp(disch:=first|(simp;done)|omega|rfl) [-getElem?_pos,a0,a2,a7,a8,ld,Zae]
 refine Zab (Zqv (n:=m.length) (l:=(Zib (Zeb m) 0).map Zas) hvs (by rw[Yvn,Zgy];omega) (fun s hs=>by
  obtain⟨q,hq,rfl⟩:=Yvb.1 hs
  have:=(Zod (D.col 0 q hq) (by decide) (by decide)).1
  omega)) ?_
 rintro _ H5 n5 k5 rfl
 have kk5:=kk4.trans k5
 have le5:=k5.le
 have hcz:=hcb.1
 rw[←lm]at hcz
 rw[hcz]
 have hv5:=hvs.keep k5
 have cl:(Zib (Zeb m) 0).length=m.length:=by rw[Zgy,lm]
 have c0:0<(Zib (Zeb m) 0).length:=by omega
 obtain⟨c,ec⟩:∃c,Zib (Zeb m) 0=c:=⟨_,rfl⟩
 have hcbd:∀q∈c,Bnd 9999 9999 q:=by rw[←ec];exact D.col 0
 rw[ec]at hv5 cl c0
 obtain⟨y0,hy0⟩:=Zaf c0
 have hyb:=hcbd y0 (Yux hy0)
 have qb:∀q:Rat,Bnd 9999 9999 q→Qb 14 q:=fun q h=>⟨Yvl h.num (by decide),Yvl h.den (by decide)⟩
 have hA:=Ykf (N:=n5+1) (q:=n5) (w:=W) (h:=H5.set n5 (.cells [] 24 true)) (hv5.keep (Keeps.refl.new _)) c0 (by omega) (by rw[T.get_set,Yuu rfl])
 obtain⟨X1,hX1⟩:∃X,(H5.set n5 (.cells [] 24 true)).set (n5+1) (.cells (tx c) 24 true)=X:=⟨_,rfl⟩
 rw[hX1]at hA
 have kX1:Keeps H5 n5 X1 (n5+1+1):=by rw[←hX1];exact(Keeps.refl.new _).new _
 have gX1:X1.get (n5+1)=some (.cells (tx c) 24 true):=by rw[←hX1,T.get_set,Yuu rfl]
 have hB:=Ykf (N:=n5+1+1+1) (q:=n5+1+1) (w:=W) (h:=X1.set (n5+1+1) (.cells [] 24 true)) (hv5.keep (kX1.new _)) c0 (by omega) (by rw[T.get_set,Yuu rfl])
 obtain⟨X2,hX2⟩:∃X,(X1.set (n5+1+1) (.cells [] 24 true)).set (n5+1+1+1) (.cells (tx c) 24 true)=X:=⟨_,rfl⟩
 rw[hX2]at hB
 have kX2:Keeps X1 (n5+1+1) X2 (n5+1+1+1+1):=by rw[←hX2];exact(Keeps.refl.new _).new _
 have g20:X2.get (n5+1)=some (.cells (tx c) 24 true):=(kX2.get (n5+1) (by omega)).trans gX1
 have g21:X2.get (n5+1+1+1)=some (.cells (tx c) 24 true):=by rw[←hX2,T.get_set,Yuu rfl]
 have ty0:(tx c)[0]?=some (.str (Zas y0)):=Yap hy0
 rw[eof]at a2
 have lt20:n5+1<n5+1+1+1+1:=by omega
 have lt21:n5+1+1+1<n5+1+1+1+1:=by omega
 have c0':(0:Int)<(c.length:Int):=by omega
 have hxl:(Zas x).length<1000000000:=by rw[←eof];omega
 simp(disch:=first|(simp;done)|omega|rfl) [-getElem?_pos, -V.cells, -V.one,a0,a2,a7,a8,ld,Zae,hA,hB,Zbs,c0,c0',g20,g21,ty0,lt20,lt21]
 refine Zab (Ygd (qb y0 hyb) (qb x o3) (by decide) (by decide) hxl) ?_
 rintro _ H6 n6 k6 rfl
 have le6:=k6.le
 have g6:=(k6.get _ lt21).trans g21
 have lt6:n5+1+1+1<n6:=by omega
 simp(disch:=first|(simp;done)|omega|rfl) [-getElem?_pos, -V.cells, -V.one,a0,a2,a7,a8,c0,c0',g6,ty0,lt6]
 refine Zab (Ye1 (qb y0 hyb) (qb x o3) (by decide) (by decide)) ?_
 rintro _ H7 n7 k7 rfl
 have le7:=k7.le
 have h20:=((k6.trans k7).get _ lt20).trans g20
 have h21:=((k6.trans k7).get _ lt21).trans g21
 have e20:RwS H7 n7 (n5+1) c:=⟨by omega,h20⟩
 have e21:RwS H7 n7 (n5+1+1+1) c:=⟨by omega,h21⟩
 obtain⟨p1,p2⟩:=e20.put (j:=0) (q:=y0-x) c0
 obtain⟨p3,p4⟩:=e21.put (j:=0) (q:=y0+x) c0
 have lt7:n5+1<n7:=by omega
 have lt8:n5+1+1+1<n7:=by omega
 have wa:¬n5+1<nB:=by omega
 have wb:¬n5+1+1+1<nB:=by omega
 have ne1:¬n5+1+1+1=n5+1:=by omega
 have hcs:∀s:Str,(V.str s).cells=[V.str s]:=fun _=>rfl
 have hco:∀s:Str,V.one (V.str s)=true:=fun _=>rfl
 have htl:0+1≤(tx c).length:=by rw[Zfe];omega
 have htl1:1≤(tx c).length:=htl
 simp(disch:=first|(simp;done)|omega|rfl) [-getElem?_pos, -V.cells, -V.one,a0,a2,a7,a8,c0,c0',h20,h21,lt7,lt8,Zak,p1,p3,hcs,hco,htl,htl1,wa,wb,ne1,hW,Zam.chk]
 have q0:Zhb c (-x)=c.set 0 (y0-x):=by unfold Zhb;rw[hy0,Rat.sub_eq_add_neg];rfl
 have q1:Zhb c x=c.set 0 (y0+x):=by unfold Zhb;rw[hy0];rfl
 obtain⟨X3,hX3⟩:∃X,(H7.set (n5+1) (.cells (tx (c.set 0 (y0-x))) 24 true)).set (n5+1+1+1) (.cells (tx (c.set 0 (y0+x))) 24 true)=X:=⟨_,rfl⟩
 rw[hX3]
 have kx3:Keeps H n1 X3 n7:=by
  rw[←hX3]
  exact((((((kk5.trans kX1).trans kX2).trans k6).trans k7).set (by omega)).set (by omega))
 have d20:X3.get (n5+1)=some (.cells (tx (Zhb c (-x))) 24 true):=by rw[←hX3,T.get_set,Yur (by omega),T.get_set,Yuu rfl,q0]
 have d21:X3.get (n5+1+1+1)=some (.cells (tx (Zhb c x)) 24 true):=by rw[←hX3,T.get_set,Yuu rfl,q1]
 obtain⟨P1,eP1⟩:∃P,pkD (Zeb m) (-x)=P:=⟨_,rfl⟩
 obtain⟨P2,eP2⟩:∃P,pkD (Zeb m) x=P:=⟨_,rfl⟩
 have cP:∀u y,pkC (pkD (Zeb m) y) u=[.int .i64 0,.str [49],u]:=fun u y=>by
  unfold pkD pkR pkC
  simp only
  rw[show Zas ((1:Int):Rat)=[49] from Yow]
  rfl
 have slP:∀y,(pkD (Zeb m) y).sl=(Zhb c y).map Zas:=fun y=>by unfold pkD pkR;rw[ec]
 have hL7:=hL.keep (kx3.new (.cells (pkC P1 (.slice (n5+1) 0 c.length none 1)++pkC P2 (.slice (n5+1+1+1) 0 c.length none 1)) 38 true))
 have leB:=hK.le
 obtain⟨v',h',n',w',t1,t2,t3,t4⟩:=Yn1 (M:=n1) (N0:=nB) (N:=n7+1) (q:=n7) (w:=(n5+1+1+1)::(n5+1)::W) (h:=X3.set n7 (.cells (pkC P1 (.slice (n5+1) 0 c.length none 1)++pkC P2 (.slice (n5+1+1+1) 0 c.length none 1)) 38 true)) (v:=v) (l:=pkL (Zeb m) n am (n+am.length)) (u1:=.slice (n5+1) 0 c.length none 1) (u2:=.slice (n5+1+1+1) 0 c.length none 1) (p1:=P1) (p2:=P2) (by rw[T.get_set,Yuu rfl]) (by omega) (by omega) (by omega) (PkF.at hL fun i hi=>by rw[T.get_set,Yur (by omega)];exact kx3.get i hi) (by omega) (by
  rw[←eP1,slP]
  exact Sl.row (cp:=none) (by omega) (by rw[T.get_set,Yur (by omega)];exact d20) (by rw[Zbl,Yvn,Zjv]) (by simp)) (by
  rw[←eP2,slP]
  exact Sl.row (cp:=none) (by omega) (by rw[T.get_set,Yur (by omega)];exact d21) (by rw[Zbl,Yvn,Zjv]) (by simp)) (fun i hi=>by simp[Zci]at hi;omega) (fun i hi=>by simp[Zci]at hi;omega) (by rw[Zm2];omega) (by rw[Zm2];omega)
 have hW2:oldIds nB w'=[]:=by rw[t3];simp[oldIds,wa,wb,hW]
 have e1:pkC P1 (.slice (n5+1) 0 c.length none 1)++pkC P2 (.slice (n5+1+1+1) 0 c.length none 1)=[.int .i64 0,.str [49],.slice (n5+1) 0 c.length none 1,.int .i64 0,.str [49],.slice (n5+1+1+1) 0 c.length none 1]:=by rw[←eP1,←eP2,cP,cP];rfl
 rw[e1]at t1
 have hsc:∀i,(V.slice i 0 c.length none 1).cells=[.slice i 0 c.length none 1]:=fun _=>rfl
 have hso:∀i,V.one (V.slice i 0 c.length none 1)=true:=fun _=>rfl
 have hco2:V.one (.int .i64 0)=true:=rfl
 have b1:(splice [V.int .i64 0,.str [],.nilslice] 1 [.str [49]]).length=3:=rfl
 have b2:∀u,splice (splice [V.int .i64 0,.str [],.nilslice] 1 [.str [49]]) 2 [u]=[.int .i64 0,.str [49],u]:=fun _=>rfl
 have b3:∀u,(splice [V.int .i64 0,V.str [],V.nilslice,V.int .i64 0,V.str [],V.nilslice] 0 [.int .i64 0,.str [49],u]).length=6:=fun _=>rfl
 have b4:∀u u',splice (splice [V.int .i64 0,V.str [],V.nilslice,V.int .i64 0,V.str [],V.nilslice] 0 [.int .i64 0,.str [49],u]) 3 [.int .i64 0,.str [49],u']=[.int .i64 0,.str [49],u,.int .i64 0,.str [49],u']:=fun _ _=>rfl
 have hcg:∀x,(V.agg x).cells=x:=fun _=>rfl
 simp(disch:=first|(simp;done)|omega|rfl) [-getElem?_pos, -V.cells, -V.one,a0,a2,a7,a8,hsc,hso,hco2,hcs,hco,hcg,b1,b2,b3,b4,Zbs,t1,ld]
 rw[eP1.symm,eP2.symm]at t4
 have D2:FwD (Zeb m) n:=by rw[hn];exact D
 have kN:Keeps B nB h' n':=((hK.trans kx3).new _).then t2
 obtain⟨hk,hsc2⟩:=Yrk (x:=x) D2 hal o3
 have hkc:=hk.chk
 have hki:=hk.int
 rw[←lm]at hkc hki hsc2
 refine Zab (Zwq (S:=(m.length:Nat)) (Z:=(n:Nat)) t4 (hP0.keep kN) hk.sh) ?_
 rintro _ H8 n8 k8 ⟨vI,cI,rfl,hI⟩
 have kN8:=kN.trans k8
 rw[hkc,Int.toNat_natCast,Int.toNat_natCast,hki]at hI
 rcases hI with⟨h0,_⟩|⟨_,⟨h0,_⟩|⟨_,rfl,hI⟩⟩
 ·exact absurd rfl h0
 ·rw[Yqv D]at h0;cases h0
 simp(disch:=first|(simp;done)|omega|rfl) [-getElem?_pos,a0,a2,a7,a8,ld]
 refine Zab (Ybc (S:=(m.length:Nat)) (Z:=(n:Nat)) (t4.keep k8) (hP0.keep kN8) hk.sh) ?_
 rintro _ H9 n9 k9 ⟨vS,cS,rfl,hS⟩
 have kN9:=kN8.trans k9
 have xx:Bnd 199960002 99980001 (2*(x*x)):=((Bnd.int (z:=2)).mul (o3.mul o3)).mono (by decide) (by decide)
 rw[hkc,Int.toNat_natCast,Int.toNat_natCast,hsc2]at hS
 rcases hS with⟨h0,_⟩|⟨_,⟨h0,_⟩|⟨_,rfl,hS⟩⟩
 ·exact absurd rfl h0
 ·rw[Ybd (A:=199960002) (B:=99980001) (fun k=>by split;exact xx;exact⟨by decide,by decide⟩) (Yyn (by decide)) (Yyn (by decide))]at h0;cases h0
 have hd9:TxM H9 n9 vd (Zeb m):=MtS.txm (by rw[←hF.t];exact hd0.keep kN9)
 have hsame:=fun w=>Ybf (w:=w) (hI.keep k9) hd9 (by omega) (fun r hr=>by rw[D.rc r hr];omega)
 have lS:=Sl.len hS
 rw[Zfe]at lS
 simp only[Yvn,List.length_range]at lS
 have hS0:((List.range n).map fun k=>if k=0 then 2*(x*x) else 0)[0]?=some (2*(x*x)):=by
  rw[Yvd,Yxr d1];rfl
 obtain⟨iS,oS,cS,eS,rwS,z1,z2,z3,z4⟩:=Sl.at hS (Yap hS0)
 rw[Yv7]at z4
 have d1':(0:Int)<(n:Int):=by omega
 simp(disch:=first|(simp;done)|omega|rfl) [-getElem?_pos,a0,a2,a7,a8,ld,Zae,hsame,lS,d1,d1',z1,z2,z3,z4]
 refine Zab (Ycd (qb x o3) (qb x o3) (by decide) (by decide)) ?_
 rintro _ H10 n10 k10 rfl
 have xxb:Qb 28 (x*x):=(qb x o3).mul (qb x o3)
 have hm2:∀{h':T O} {N':Nat},Fn A.C 18 [.str [50],.str (Zas (x*x))] h' N' (fun u _ _=>u=.str (Zas (2*(x*x)))):=fun {h' N'}=>by
  have:=Ycd (h:=h') (N:=N') (Qb.int (z:=2) (k:=2) (by decide) (by decide)) xxb (by decide) (by decide)
  rwa [show Zas ((2:Int):Rat)=[50] from Yrb]at this
 simp(disch:=first|(simp;done)|omega|rfl) [-getElem?_pos,a0,a2,a7,a8]
 refine Zab hm2 ?_
 rintro _ H11 n11 k11 rfl
 have kF:=(kN9.trans k10).trans k11
 have haw:=fun w=>Zko (w:=w) (hP0.keep kF)
 simp(disch:=first|(simp;done)|omega|rfl) [-getElem?_pos,a0,a2,a7,a8,Zae,haw,Zam.chk]
 exact⟨hW2,kF⟩
set_option maxHeartbeats 16000000
def PkF.lowN{N0 N1 M:Nat}{h:T O}{v:V}{l:List Pk}(s:PkF N0 M h v l)(hN:N1≤N0):PkF N1 M h v l:=by
 rcases s with s|⟨i,c,cs,h1,h2,h3,h4⟩
 ·exact .inl s
 ·exact .inr ⟨i,c,cs,h1,h2,by omega,h4⟩
def Zvh{h:T O}{N:Nat}{vd va:V}{m:List (List Str)}{ys:List Int}{off:Str}(hd:MtS h N vd m)(ha:Sl h N va (ys.map fun z=>.int .i8 z))(hP:P10 h N)(hml:m.length<9223372036854775808)(hmx:∀x∈m,x.length<9223372036854775808)(hyl:ys.length<9223372036854775808):Fn A.C 3 [vd,va,.str off] h N (fun x _ _=>x=.bool true):=by
 intro w
 have haw:=fun w=>Zko (w:=w) hP
 have la:=ha.len
 rw[Yvn]at la
 rw[Zaa,A.k3 (by simp)]
 simp(disch:=first|(simp;done)|omega|rfl) [-getElem?_pos,A.b3]
 refine Zab (Ym4 (r0:=5) (c:=4) (d:=4) hd hml hmx (by decide) (by decide) (by decide)) ?_
 rintro _ h1 n1 k1 rfl
 have haw1:=fun w=>Zko (w:=w) (hP.keep k1)
 cases hf:Yfb m 5 4 4 with
 |false=>
  simp(disch:=first|(simp;done)|omega|rfl) [-getElem?_pos,haw1,Ret]
  exact k1
 |true=>
  have hF:=Ysn hf
  by_cases c1:ys.length≤8
  ·have c1':¬(8:Int)<(ys.length:Int):=by omega
   simp(disch:=first|(simp;done)|omega|rfl) [-getElem?_pos,la,c1']
   refine Zab (Yjz (s:=off) (d:=4) (by decide)) ?_
   rintro _ h2 n2 k2 rfl
   have kk2:=k1.trans k2
   have le2:=kk2.le
   have haw2:=fun w=>Zko (w:=w) (hP.keep kk2)
   cases hof:Zsp off 4 with
   |false=>
    simp(disch:=first|(simp;done)|omega|rfl) [-getElem?_pos,haw2,Ret]
    exact kk2
   |true=>
    have D:=hF.D
    have d1:=D.n1
    have d4:=D.n4
    have s1:=D.s1
    have s5:=D.s5
    have lm:m.length=(Zeb m).length:=by simp[Zeb]
    have ld:=hd.len
    obtain⟨l0,hl0,h0⟩:∃l0,m[0]?=some l0∧hdL m=l0.length:=by
     obtain⟨l0,hl0⟩:=Zaf (l:=m) (k:=0) (by omega)
     exact⟨l0,hl0,by unfold hdL;rw[hl0];rfl⟩
    obtain⟨i,o,cc,e,rw,u0,q1,q2,q3,q4,q5⟩:=(hd.keep kk2).at hl0
    have l5:=q5.len
    rw[Zbl,←h0]at l5
    rw[Yv7]at q4
    have m0:0<m.length:=by omega
    have m0':(0:Int)<(m.length:Int):=by omega
    obtain⟨n,hn⟩:∃n,n=hdL m:=⟨_,rfl⟩
    rw[←hn]at l5 d1 d4
    obtain⟨am,ham⟩:∃am,am=ys.map (Zao .i64):=⟨_,rfl⟩
    have hal:am.length=ys.length:=by rw[ham,Yvn]
    have hsum:(n:Int)+(ys.length:Int)=((n+am.length:Nat):Int):=by omega
    simp(disch:=first|(simp;done)|omega|rfl) [-getElem?_pos,ld,m0,m0',q1,q3,q4,l5,la,hsum]
    refine Zag [(6,6),(8,13),(48,98)] (fun e r st=>e=.exit 0∧oldIds N st.w=[]∧Keeps h2 n2 st.h st.n∧∃v,r.get 8=some v∧PkF n2 st.n st.h v (pkL (Zeb m) n am (n+am.length))) (fun j r st=>oldIds N st.w=[]∧Keeps h2 n2 st.h st.n∧∃k,k+j=n+am.length∧r.get 48=some (.int .i64 (k:Nat))∧∃v,r.get 8=some v∧PkF n2 st.n st.h v (pkL (Zeb m) n am k)) (n+am.length) ?_ (Ynz (nB:=N) (vd:=vd) (va:=va) (by omega) hF hn (hd.keep kk2) ham (ha.keep kk2) (by omega) (hP.keep kk2) (by simp) (by simp) (by simp) (by simp)) ?_
    ·exact⟨by simp,Keeps.refl,0,by omega,by simp,.nilslice,by simp,.inl ⟨rfl,rfl⟩⟩
    ·rintro _ r ⟨H,n3,W⟩ hr ⟨rfl,hW,hK,v,h8,hL⟩
     simp only at hW hK hL
     have kk3:=kk2.trans hK
     have le3:=kk3.le
     have D2:FwD (Zeb m) n:=by rw[hn];exact D
     obtain⟨hk,hsc⟩:=Yrj (am:=am) D2 (by omega)
     have hkc:=hk.chk
     have hki:=hk.int
     rw[←lm]at hkc hki hsc
     simp(disch:=first|(simp;done)|omega|rfl) [-getElem?_pos,hr,h8,ld]
     refine Zab (Zwq (S:=(m.length:Nat)) (Z:=(n:Nat)) hL.pks (hP.keep kk3) hk.sh) ?_
     rintro _ H8 n8 k8 ⟨vI,cI,rfl,hI⟩
     have kN8:=kk3.trans k8
     rw[hkc,Int.toNat_natCast,Int.toNat_natCast,hki]at hI
     rcases hI with⟨h0,_⟩|⟨_,⟨h0,_⟩|⟨_,rfl,hI⟩⟩
     ·exact absurd rfl h0
     ·rw[Yqv D]at h0;cases h0
     simp(disch:=first|(simp;done)|omega|rfl) [-getElem?_pos,hr,h8,ld]
     refine Zab (Ybc (S:=(m.length:Nat)) (Z:=(n:Nat)) (hL.pks.keep k8) (hP.keep kN8) hk.sh) ?_
     rintro _ H9 n9 k9 ⟨vS,cS,rfl,hS⟩
     have kN9:=kN8.trans k9
     rw[hkc,Int.toNat_natCast,Int.toNat_natCast,hsc]at hS
     rcases hS with⟨h0,_⟩|⟨_,⟨h0,_⟩|⟨_,rfl,hS⟩⟩
     ·exact absurd rfl h0
     ·rw[Ybd (A:=0) (B:=1) (fun k=>⟨by decide,by decide⟩) (Yyn (by decide)) (Yyn (by decide))]at h0;cases h0
     have hd9:TxM H9 n9 vd (Zeb m):=MtS.txm (by rw[←hF.t];exact hd.keep kN9)
     have hsame:=fun w=>Ybf (w:=w) (hI.keep k9) hd9 (by omega) (fun r hr=>by rw[D.rc r hr];omega)
     simp(disch:=first|(simp;done)|omega|rfl) [-getElem?_pos,hr,h8,ld,Zae,hsame]
     refine Zab (Yjb (n:=n) (by omega)) ?_
     rintro vz H10 n10 k10 hz
     have kN10:=kN9.trans k10
     have hsr:=fun w=>Yaz (w:=w) (l:=((List.range n).map fun _=>(0:Rat)).map Zas) (hS.keep k10) hz (by simp;omega)
     simp(disch:=first|(simp;done)|omega|rfl) [-getElem?_pos,hr,h8,ld,Zae,hsr]
     have kX:Keeps H n3 H10 n10:=(k8.trans k9).trans k10
     refine Zbn (Yqm (nB:=N) (B:=h) (vd:=vd) (off:=off) (am:=am) hF hn hd (by omega) hP hof hW kN10 (PkF.lowN (hL.keep kX) (by omega)) (by simp[hr]) (by simp[hr]) (by simp[hr]) (by simp[hr,h8])) ?_
     rintro _ _ ⟨H11,n11,W11⟩ ⟨rfl,r3,rfl,h6,hWx,hKx⟩
     simp only at hWx hKx
     simp(disch:=first|(simp;done)|omega|rfl) [-getElem?_pos,h6,Ret]
     exact⟨hWx,hKx⟩
  ·have c1':(8:Int)<(ys.length:Int):=by omega
   simp(disch:=first|(simp;done)|omega|rfl) [-getElem?_pos,la,c1',haw1,Ret]
   exact k1
open Go
inductive Zmg where
 |nil
 |emp (b:Addr)
 |sl (b:Addr) (l c:Nat) (f:Nat→ByteArray)
def Zmg.val:Zmg→Value
 |.nil=>.slice none 0 0
 |.emp b=>.slice (some b) 0 0
 |.sl b l c f=>.slice (some b) l c
def Zmg.ok(W:World):Zmg→Prop
 |.sl b l c f=>l≤c∧0<c∧∀i,i<c→W.cell? (b.add i)=some (.string (f i))
 |_=>True
def Zmg.strs:Zmg→List Str
 |.sl b l c f=>(List.range l).map fun i=>(f i).data.toList
 |_=>[]
def eOf(W:World)(a:Addr):TypeId:=match W.heap[a.block]? with
 |some (.cells _ e _)=>e
 |_=>0
def Zxa{W:World}{a:Addr}{n:Nat}{f:Nat→Value}(hn:0<n)(hc:∀i,i<n→W.cell? (a.add i)=some (f i)):
  ∃c' lo hi,W.heap[a.block]?=some (.cells c' (eOf W a) (lo,hi))∧a.spot=none∧(∀i,i<n→c'[a.off+i]?=some (f i))∧a.off+n≤c'.size∧a.block<W.heap.size:=by
 have h0:=hc 0 hn
 have ha0:a.add 0=a:=by simp[Addr.add]
 rw[ha0]at h0
 obtain⟨c',e,fr,hb⟩:∃c' e fr,W.heap[a.block]?=some (.cells c' e fr):=by
  unfold World.cell? at h0
  split at h0
  ·rename_i c' e fr hb;exact⟨c',e,fr,hb⟩
  ·cases h0
 have hs:a.spot=none:=by
  unfold World.cell? at h0
  rw[hb]at h0
  simp only at h0
  split at h0
  ·cases h0
  ·rename_i h;simpa using h
 have hcell:∀i,i<n→c'[a.off+i]?=some (f i):=fun i hi=>by
  have:=hc i hi
  unfold World.cell? at this
  have e1:(a.add i).block=a.block:=by unfold Addr.add;split<;>rfl
  have e2:(a.add i).off=a.off+i:=by unfold Addr.add;split<;>simp_all
  have e3:(a.add i).spot=none:=by unfold Addr.add;split<;>simp_all
  rw[e1,hb]at this
  simp only[e2,e3,Option.isSome_none,Yu5,if_false]at this
  exact this
 have hlt:a.block<W.heap.size:=by
  rcases Nat.lt_or_ge a.block W.heap.size with h|h
  ·exact h
  ·rw[Array.getElem?_eq_none h]at hb;cases hb
 have hend:a.off+n≤c'.size:=by
  have:=hcell (n-1) (by omega)
  have h2:=(Array.getElem?_eq_some_iff.1 this).1
  omega
 obtain⟨lo,hi⟩:=fr
 exact⟨c',lo,hi,by rw[hb];simp[eOf,hb],hs,hcell,hend,hlt⟩
structure Yq8 where
 a:Addr
 n:Nat
 f:Nat→Value
 g:Nat→V
def Yq8.ok(W:World)(r:Yq8):Prop:=0<r.n∧(∀i,i<r.n→W.cell? (r.a.add i)=some (r.f i))∧∀i,i<r.n→(r.f i).oneCell'=true
def Zrk{P:Program}{tbl:Nat→Option Zem}{G:Nat}(hP:Zlq P tbl G){x:Za1}(hx:Zbx P x){F d:Nat}{f:FuncId}{mf:Zem}(hf:Zlx P f=some mf){args:List V}{xs:List Value}{v:V}{y:Value}{S:St}{μ:Mu}{W:World}
  (h:Yqu (Zgs mf (Zbg (Zg3 x tbl F d) F) args S) v) (hh:Zbc P μ W S) (hS:S.w=[]) (hargs:VRs μ args xs) (hv:∀μ z,VR μ v z→z=y):
  Calls P f ⟨xs⟩ W fun e W'=>e=.returned y∧RowKit.Below W.heap.size W W':=by
 obtain⟨s,hrun,hw⟩:=h.ex
 obtain⟨fn,hfn,_⟩:=Zxc hf
 have ih:=Zj4 hP.m hP.e hP.t hx F d
 have:=Ydl (Yeh ih hP.e (Ydz hP.m hP.e ih) (Yja ih hP.e) (Zv4 ih) F) hfn hf hh hargs hrun
 refine callsIn_wide.1 (CallsIn.mono (F:=Fence.wide) this fun e W' he=>?_)
 cases e with
 |returned z=>
  obtain⟨μ',ws,h1,h2⟩:=he
  have hws:ws=[]:=by have:=h2.wl;rw[hw,hS]at this;simpa using this.symm
  subst hws
  exact⟨by rw[hv _ _ h1],h2.chg.os,h2.chg.tape,h2.chg.output,h2.chg.size,fun k hk=>h2.chg.block k hk fun i hi=>by cases hi⟩
 |panicked _=>exact he.elim
 |outgrown=>exact he.elim
def Cx.calls{P:Program}{C:Cx}{G:Nat}(hP:Zlq P C.tbl G)(hx:Zbx P C.x){f:Nat}{mf:Zem}(hf:Zlx P f=some mf)(ht:C.tbl f=some mf){args:List V}{xs:List Value}{v:V}{y:Value}{S:St}{μ:Mu}{W:World}
  (hn:∀st,C.x (.func f [] []) args st=none) (h:Fn C f args S.h S.n (fun u _ _=>u=v)) (hh:Zbc P μ W S) (hS:S.w=[]) (hargs:VRs μ args xs) (hv:∀μ z,VR μ v z→z=y):
  Calls P f ⟨xs⟩ W fun e W'=>e=.returned y∧RowKit.Below W.heap.size W W':=by
 obtain⟨u,st',hc,hw,hk,hu⟩:=(h []).ex
 subst hu
 have hS':(⟨S.h,S.n,[]⟩:St)=S:=by obtain⟨a,b,c⟩:=S;simp only at hS;subst hS;rfl
 rw[hS']at hc
 rw[Cx.call_eq]at hc
 unfold Zeh at hc
 rw[hn]at hc
 simp only at hc
 obtain⟨n,hn'⟩:=Zkm (q:=fun n=>Zbg (C.at n) n) (fun n m hnm=>Zb5 (Cx.at_mono hnm) n m hnm) (fun _ _ _ _ _ e=>Cx.code_need e) hc
 unfold Zcr at hn'
 simp only[ht,List.nil_append,Ywo]at hn'
 exact Zrk (F:=n) (d:=n) hP hx hf ⟨_,hn',hw⟩ hh hS hargs hv
variable {P:Program} {S:St} {W:World} {μ:Mu}
def gTot(tb:List (Nat×O))(i:Nat):Nat:=match lk tb i with
 |some (.cells c _ _)=>c.length
 |_=>0
def TabsIn(P:Program)(W:World)(tb:List (Nat×O)):Prop:=∀i o,lk tb i=some o→∀μ,OM P μ W o ⟨i,0,gTot tb i⟩
def TabsIn.one{g:Nat}{k:IntKind}{zs:List Int}{e:TypeId}{f:Nat×Nat}(h:W.heap[g]?=some (.cells (zs.map fun z=>Value.int k z).toArray e f)):TabsIn P W [(g,.cells (zs.map fun z=>V.int k z) e false)]:=by
 intro i o ho μ
 obtain⟨lo,hi⟩:=f
 simp only[lk]at ho
 split at ho
 ·rename_i hb
  have:=Za2 hb
  subst this
  simp only[Yup]at ho
  subst ho
  have hl:gTot [(g,O.cells (zs.map fun z=>V.int k z) e false)] g=zs.length:=by simp[gTot,lk,hb]
  rw[hl]
  refine⟨_,lo,hi,h,by simp,by simp,fun j v hv=>?_,fun j x hj hx=>?_,fun h=>by cases h⟩
  ·rw[Yvd]at hv
   cases hz:zs[j]? with
   |none=>rw[hz]at hv;cases hv
   |some z=>
    rw[hz]at hv
    simp only[Yw4,Yup]at hv
    subst hv
    exact⟨.int k z,by simp[hz],by simp[VR]⟩
  ·simp only[Ywn,List.getElem?_toArray,Yvd,Yu2]at hx
   obtain⟨z,_,rfl⟩:=hx
   rfl
 ·cases ho
structure Zor (P:Program) (W:World) (μ:Mu) (S:St):Prop where
 hr:Zbc P μ W S
 w:S.w=[]
 ro:∀i l o,μ i=some l→S.h.get i=some o→o.wr=false
structure Zg1 (μ:Mu) (S:St) (μ':Mu) (S':St):Prop where
 mu:∀i l,μ i=some l→μ' i=some l
 keep:Keeps S.h S.n S'.h S'.n
def Zg1.refl:Zg1 μ S μ S:=⟨fun _ _ h=>h,Keeps.refl⟩
def Zg1.trans{μ1 μ2:Mu}{S1 S2:St}(a:Zg1 μ S μ1 S1)(b:Zg1 μ1 S1 μ2 S2):Zg1 μ S μ2 S2:=⟨fun i l h=>b.mu i l (a.mu i l h),a.keep.trans b.keep⟩
def Yld{tb:List (Nat×O)}{G:Nat}(hG:P.globals.size=G)(hW:G≤W.heap.size)(hok:Zra G tb=true)(hin:TabsIn P W tb):∃μ,Zor P W μ (Zs3 G tb):=by
 subst hG
 have get:∀i,i<P.globals.size→(Zs3 P.globals.size tb).h.get i=some (match lk tb i with|some o=>o|none=>.dead):=fun i hi=>by
  show (Zef (Zlw P.globals.size) tb).get i=_
  rw[Zcf]
  cases lk tb i with
  |some o=>rfl
  |none=>exact Zkf _ _ hi
 have hwr:∀i o,i<P.globals.size→(Zs3 P.globals.size tb).h.get i=some o→o.wr=false:=fun i o hi ho=>by
  rw[get i hi]at ho
  simp only[Yup]at ho
  cases hl:lk tb i with
  |none=>rw[hl]at ho;subst ho;rfl
  |some o'=>
   rw[hl]at ho
   simp only at ho
   subst ho
   have:=(Zmq hok hl).2
   cases o' with
   |cells c e rw=>cases rw with
    |true=>cases this
    |false=>rfl
   |_=>cases this
 have hmu:∀i l,(fun i=>if i<P.globals.size then some (⟨i,0,gTot tb i⟩:L) else none) i=some l→i<P.globals.size∧l=⟨i,0,gTot tb i⟩:=fun i l h=>by
  simp only at h
  split at h
  ·rename_i hi;simp only[Yup]at h;exact⟨hi,h.symm⟩
  ·cases h
 refine⟨fun i=>if i<P.globals.size then some ⟨i,0,gTot tb i⟩ else none,⟨fun i l hl=>?_,fun i l hl=>?_,fun i j l l' o o' hi hj hne ho ho' hw hlv=>?_,fun g hg=>⟨gTot tb g,by simp[hg]⟩⟩,rfl,fun i l o hl ho=>?_⟩
 ·obtain⟨h,rfl⟩:=hmu i l hl
  exact⟨h,by simp only;omega⟩
 ·obtain⟨h,rfl⟩:=hmu i l hl
  refine⟨_,get i h,?_⟩
  cases hlk:lk tb i with
  |none=>trivial
  |some o=>exact hin i o hlk _
 ·rw[hwr i o (hmu i l hi).1 ho]at hw;cases hw
 ·exact hwr i o (hmu i l hl).1 ho
def Ykx{tb:List (Nat×O)}{G g:Nat}{o:O}(h:lk tb g=some o):(Zs3 G tb).h.get g=some o:=by
 show (Zef (Zlw G) tb).get g=_
 rw[Zcf,h]
def Zor.row(s:Zor P W μ S){r:Yq8}(hok:r.ok W)(hv:∀i,i<r.n→VR μ (r.g i) (r.f i)):
  ∃μ' S',Zor P W μ' S'∧Zg1 μ S μ' S'∧S'.n=S.n+1∧μ' S.n=some ⟨r.a.block,r.a.off,r.n⟩∧S'.h.get S.n=some (.cells ((List.range r.n).map r.g) (eOf W r.a) false):=by
 obtain⟨g1,g2,g3⟩:=hok
 obtain⟨c',lo,hi,hb,hs,hcell,hend,hlt⟩:=Zxa g1 g2
 have hmono:∀i l,μ i=some l→(fun i=>if i=S.n then some (⟨r.a.block,r.a.off,r.n⟩:L) else μ i) i=some l:=fun i l hl=>by
  have:=(s.hr.dom i l hl).1
  simp only
  rw[Yur (by omega)];exact hl
 have hsplit:∀i l,(fun i=>if i=S.n then some (⟨r.a.block,r.a.off,r.n⟩:L) else μ i) i=some l→(i=S.n∧l=⟨r.a.block,r.a.off,r.n⟩)∨(i≠S.n∧μ i=some l):=fun i l h=>by
  simp only at h
  split at h
  ·rename_i e;simp only[Yup]at h;exact .inl ⟨e,h.symm⟩
  ·rename_i e;exact .inr ⟨e,h⟩
 have hnew:(S.h.set S.n (.cells ((List.range r.n).map r.g) (eOf W r.a) false)).get S.n=some (.cells ((List.range r.n).map r.g) (eOf W r.a) false):=by simp[T.get_set]
 have hold:∀i,i≠S.n→(S.h.set S.n (.cells ((List.range r.n).map r.g) (eOf W r.a) false)).get i=S.h.get i:=fun i hi=>by simp[T.get_set,hi]
 have hro:∀i l o,(fun i=>if i=S.n then some (⟨r.a.block,r.a.off,r.n⟩:L) else μ i) i=some l→(S.h.set S.n (.cells ((List.range r.n).map r.g) (eOf W r.a) false)).get i=some o→o.wr=false:=fun i l o hl ho=>by
  rcases hsplit i l hl with⟨rfl,rfl⟩|⟨h1,h2⟩
  ·rw[hnew]at ho;simp only[Yup]at ho;subst ho;rfl
  ·rw[hold i h1]at ho;exact s.ro i l o h2 ho
 refine⟨_,⟨S.h.set S.n (.cells ((List.range r.n).map r.g) (eOf W r.a) false),S.n+1,[]⟩,⟨⟨fun i l hl=>?_,fun i l hl=>?_,fun i j l l' o o' hi' hj hne ho ho' hw hlv=>?_,fun g hg=>?_⟩,rfl,hro⟩,⟨hmono,by simp,fun i hi=>hold i (by omega)⟩,rfl,by simp,hnew⟩
 ·rcases hsplit i l hl with⟨rfl,rfl⟩|⟨h1,h2⟩
  ·exact⟨by simp,hlt⟩
  ·obtain⟨q1,q2⟩:=s.hr.dom i l h2
   exact⟨by simp only;omega,q2⟩
 ·rcases hsplit i l hl with⟨rfl,rfl⟩|⟨h1,h2⟩
  ·refine⟨_,hnew,c',lo,hi,hb,hend,by simp,fun j v hvj=>?_,fun j x hj hx=>?_,fun h=>by cases h⟩
   ·have hj:j<r.n:=by have:=(Ywc.1 hvj).1;simpa using this
    have hv':v=r.g j:=by simpa[hj]using hvj.symm
    subst hv'
    exact⟨_,hcell j hj,VR.mono hmono _ _ (hv j hj)⟩
   ·have hj:j<r.n:=hj
    rw[hcell j hj]at hx
    simp only[Yup]at hx
    subst hx
    exact g3 j hj
  ·obtain⟨o,q1,q2⟩:=s.hr.obj i l h2
   exact⟨o,by rw[hold i h1];exact q1,q2.mono hmono⟩
 ·rw[hro i l o hi' ho]at hw;cases hw
 ·obtain⟨t,ht⟩:=s.hr.glob g hg
  exact⟨t,hmono _ _ ht⟩
def Zor.slice(s:Zor P W μ S){r:Yq8}(hok:r.ok W)(hv:∀i,i<r.n→VR μ (r.g i) (r.f i)){len cap z:Nat}(hn:r.n=cap*z)(hl:len≤cap)(hz:0<z):
  ∃μ' S' i,Zor P W μ' S'∧Zg1 μ S μ' S'∧VR μ' (.slice i 0 len (some cap) z) (.slice (some r.a) len cap)∧i<S'.n∧S'.h.get i=some (.cells ((List.range r.n).map r.g) (eOf W r.a) false):=by
 obtain⟨μ',S',q1,q2,q3,q4,q5⟩:=s.row hok hv
 refine⟨μ',S',S.n,q1,q2,?_,by omega,q5⟩
 obtain⟨⟨b,off,sp⟩,n,f,g⟩:=r
 obtain⟨g1,g2,_⟩:=hok
 obtain⟨_,_,_,_,hs,_,_,_⟩:=Zxa g1 g2
 simp only at hs hn q4
 subst hs
 simp only[VR]
 exact⟨⟨b,off,n⟩,cap,q4,by simp,hl,by simp[hn],fun k hk=>by simpa using hk,fun h=>by cases h⟩
def Zor.list{P:Program}{W:World}{μ:Mu}{S:St}(s:Zor P W μ S){i:Zmg}(hi:i.ok W):
  ∃μ' S' v,Zor P W μ' S'∧Zg1 μ S μ' S'∧VR μ' v i.val∧Sl S'.h S'.n v (strs i.strs):=by
 cases i with
 |nil=>exact⟨μ,S,.nilslice,s,Zg1.refl,by simp[Zmg.val,VR],Sl.nil⟩
 |emp b=>exact⟨μ,S,.empty,s,Zg1.refl,by simp[Zmg.val,VR],.inl ⟨rfl,.inr rfl⟩⟩
 |sl b l c f=>
  obtain⟨h1,h2,h3⟩:=hi
  obtain⟨μ',S',k,q1,q2,q3,q4,q5⟩:=s.slice (r:=⟨b,c,fun i=>.string (f i),fun i=>.str (f i).data.toList⟩) ⟨h2,h3,fun _ _=>rfl⟩ (fun i _=>by simp[VR]) (len:=l) (cap:=c) (z:=1) (by simp) h1 (by decide)
  refine⟨μ',S',_,q1,q2,q3,.inr ⟨k,0,some c,_,_,false,by simp[strs,Zmg.strs],q4,q5,fun j hj=>?_,by simp[strs,Zmg.strs];omega,fun k hk=>by simp[strs,Zmg.strs]at hk ⊢;omega⟩⟩
  have hj2:j<l:=by simpa[strs,Zmg.strs]using hj
  simp[strs,Zmg.strs,hj2,show j<c by omega]
inductive Yun where
 |nil
 |emp (b:Addr)
 |sl (b:Addr) (l c:Nat) (f:Nat→Int)
def Zor.lists{P:Program}{W:World}{F:Nat→Zmg}:∀(n:Nat),(∀i,i<n→(F i).ok W)→∀{μ:Mu} {S:St},Zor P W μ S→
  ∃μ' S',Zor P W μ' S'∧Zg1 μ S μ' S'∧∀i,i<n→∃v,VR μ' v (F i).val∧Sl S'.h S'.n v (strs (F i).strs)
 |0,_,μ,S,s=>⟨μ,S,s,Zg1.refl,fun i hi=>absurd hi (by omega)⟩
 |n+1,hF,μ,S,s=>by
  obtain⟨μ1,S1,s1,g1,a1⟩:=Zor.lists n (fun i hi=>hF i (by omega)) s
  obtain⟨μ2,S2,v,s2,g2,a2,a3⟩:=s1.list (hF n (by omega))
  refine⟨μ2,S2,s2,g1.trans g2,fun i hi=>?_⟩
  by_cases e:i=n
  ·subst e;exact⟨v,a2,a3⟩
  ·obtain⟨u,b1,b2⟩:=a1 i (by omega)
   exact⟨u,VR.mono g2.mu _ _ b1,b2.keep g2.keep⟩
inductive Zpu where
 |nil
 |emp (b:Addr)
 |sl (b:Addr) (l c:Nat) (F:Nat→Zmg)
def Zpu.val:Zpu→Value
 |.nil=>.slice none 0 0
 |.emp b=>.slice (some b) 0 0
 |.sl b l c f=>.slice (some b) l c
def Zpu.ok(W:World):Zpu→Prop
 |.sl b l c F=>l≤c∧0<c∧∀i,i<c→W.cell? (b.add i)=some (F i).val∧(F i).ok W
 |_=>True
def Zpu.rows:Zpu→List (List Str)
 |.sl b l c F=>(List.range l).map fun i=>(F i).strs
 |_=>[]
def Zmg.one{i:Zmg}:i.val.oneCell'=true:=by cases i<;>rfl
def Zor.mat{P:Program}{W:World}{μ:Mu}{S:St}(s:Zor P W μ S){m:Zpu}(hm:m.ok W):
  ∃μ' S' v,Zor P W μ' S'∧Zg1 μ S μ' S'∧VR μ' v m.val∧∃us:List V,Sl S'.h S'.n v us∧us.length=m.rows.length∧∀(j:Nat) (l:List Str),m.rows[j]?=some l→∃u,us[j]?=some u∧Sl S'.h S'.n u (strs l):=by
 cases m with
 |nil=>exact⟨μ,S,.nilslice,s,Zg1.refl,by simp[Zpu.val,VR],[],Sl.nil,rfl,fun j l h=>by simp[Zpu.rows]at h⟩
 |emp b=>exact⟨μ,S,.empty,s,Zg1.refl,by simp[Zpu.val,VR],[],.inl ⟨rfl,.inr rfl⟩,rfl,fun j l h=>by simp[Zpu.rows]at h⟩
 |sl b l c F=>
  obtain⟨h1,h2,h3⟩:=hm
  obtain⟨μ1,S1,s1,g1,a1⟩:=Zor.lists c (fun i hi=>(h3 i hi).2) s
  have hex:∀i,∃v:V,i<c→VR μ1 v (F i).val∧Sl S1.h S1.n v (strs (F i).strs):=fun i=>by
   by_cases hi:i<c
   ·obtain⟨v,hv⟩:=a1 i hi;exact⟨v,fun _=>hv⟩
   ·exact⟨.nilslice,fun h=>absurd h hi⟩
  obtain⟨g,hg⟩:=Classical.axiomOfChoice hex
  obtain⟨μ',S',k,q1,q2,q3,q4,q5⟩:=s1.slice (r:=⟨b,c,fun i=>(F i).val,g⟩) ⟨h2,fun i hi=>(h3 i hi).1,fun _ _=>Zmg.one⟩ (fun i hi=>(hg i hi).1) (len:=l) (cap:=c) (z:=1) (by simp) h1 (by decide)
  refine⟨μ',S',_,q1,g1.trans q2,q3,(List.range l).map g,.inr ⟨k,0,some c,_,_,false,by simp,q4,q5,fun j hj=>?_,by simp;omega,fun k hk=>by simp at hk ⊢;omega⟩,by simp[Zpu.rows],fun j x hj=>?_⟩
  ·have hj2:j<l:=by simpa using hj
   simp[hj2,show j<c by omega]
  ·have hjl:j<l:=by
    apply Yv5;intro hc
    rw[Yva (by simp[Zpu.rows];omega)]at hj;cases hj
   have hx:x=(F j).strs:=by simpa[Zpu.rows,hjl]using hj.symm
   subst hx
   exact⟨g j,by simp[hjl],((hg j (by omega)).2).keep q2.keep⟩
end Go.Mx
