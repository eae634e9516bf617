/-loop-/
import Derived.Test.YtlbnjhhebffhdaaGreatDoorFwA
set_option linter.all false
set_option maxHeartbeats 8000000
namespace Go.Mx
noncomputable section
open Go Go.Proofs
set_option maxRecDepth 1000000
def A.w13:=A.q Tryz.f13
def A.zhf:=A.ql A.w13 1 []
def A.zhg:=A.ql A.w13 0 []
def A.b13:=(fun x0 x1=>A.qb A.w13 [x0,x1]) A.zhg A.zhf
def A.k13:=@A.kk 13 79 [.cell 4 (some 2),.tmp 5] A.b13 (by kernel_rfl) rfl
def RY(z:Int):Int:=if z<1\/3<z then 3 else 0
def Xcw(x:V)(E:Int)(lo hi:Rat):Prop:=(E≠0/\x=.aX [.agg [.str [],.str []],.int .i64 E])\/(E=0/\x=.aX [.agg [.str (Zao lo),.str (Zao hi)],.int .i64 0])
def Fn.imq{C:Cx}{f:Nat}{args:List V}{h:T O}{n:Nat}{P Q:V->T O->Nat->Prop}(hf:Fn C f args h n P)(hi:∀v h' n',P v h' n'->Q v h' n'):Fn C f args h n Q:=fun w=>(hf w).mono fun v st=>by
 rintro⟨hw,hk,hp⟩
 exact⟨hw,hk,hi _ _ _ hp⟩
def Xdd{h:T O}{N j B:Nat}{u:V}{a:List bj}{z:Int}(hu:Sl h N u (strs a))(hP:j_ h N)(la:a.length<100000)(fa:∀s∈a,s.length<=20000)(hR:Yz7 a (RY z)=0->RdH (ziB a) j B (10^z.toNat) z.toNat/\z=(z.toNat:Int)):Fn A.C 13 [u,.int .i64 z] h N (fun x _ _=>Xcw x (Yz7 a (RY z)) (((Xa5 (ziB a) (10^z.toNat) B).1:Rat)/((10^z.toNat:Nat):Rat)) (((Xa5 (ziB a) (10^z.toNat) B).2:Rat)/((10^z.toNat:Nat):Rat))):=by
 intro w
 generalize hd:z.toNat=dec at*
 generalize hU:10^dec=U at*
 have kB:ah h N (h.set N (.cells [.str [],.str []] 32 true)) (N+1):=ah.refl.new _
 have b0:(h.set N (.cells [.str [],.str []] 32 true)).get N=some (.cells [.str [],.str []] 32 true):=by simp
 have we:∀st,A.C.call (.func 65 [] []) [.int .i64 z,.int .i64 1,.int .i64 3] st=some (.int .i64 (RY z),st):=fun st=>Zm3
 rw[aZ,A.k13 (by simp)]
 simp(disch:=first|(simp;done)|omega|rfl) [-getElem?_pos,A.b13,we]
 generalize h.set N (.cells [.str [],.str []] 32 true)=HB at*
 refine av (Xby (hu.ai kB) la fa) ?_
 rintro _ h1 n1 k1 rfl
 have xF:=k1.le
 have K1:=kB.trans k1
 have b1:=(k1.get N (by omega)).trans b0
 have lN:N<n1:=by omega
 have nn:¬N<N:=by omega
 by_cases c:Yz7 a (RY z)=0
 ·obtain⟨R,hz⟩:=hR c
  obtain⟨c1,c2⟩:ks a=0/\True:=by
   unfold Yz7 at c
   by_cases x:ks a=0
   ·exact⟨x,trivial⟩
   ·rw[cN,aA x]at c;exact absurd c x
  obtain⟨a0,a1,a2,a3⟩:=Yti c1
  have ta:=Ymk a2
  have Il:Sl h1 n1 u (tx (ziB a)):=by rw[<-ta];exact hu.ai K1
  rw[c]
  subst hz
  generalize ziB a=p at*
  have hb:=R.b
  have j1:=R.j1
  have l1:=R.l1
  have l2:=R.l2
  have ub:=R.ub
  have wp:wl ((10^dec:Nat):Int)<1000:=by
   have:=R.qu.eX.1
   rw[uf.1,<-hU]at this
   omega
  have wt:wl ((10:Nat):Int)<1000:=by
   have:=(BM (a:=10) (k:=20) (by omega) (by decide)).eX.1
   rw[uf.1]at this
   omega
  have fp:∀{h':T O} {n':Nat},Fn A.C 67 [.agg [.int .i64 (10:Nat),.ziA,.int .i64 1,.ziA],.int .i64 dec] h' n' (fun v h'' n''=>v=.agg [.int .i64 (U:Nat),.ziA,.int .i64 1,.ziA]):=fun {h'} {n'}=>by
   refine Fn.imq (Yn2 (Yz3 (n:=10) (by decide)) (by decide) (by have:=R.d;omega) wt wp) fun v h2 n2 hv=>?_
   rw[hU]at hv
   exact Yz5 hv (by omega)
  have ffc:∀{n:Nat} {h':T O} {n':Nat},n<4611686018427387904->Fn A.C 66 [.int .i64 (n:Nat)] h' n' (fun v _ _=>v=.agg [.int .i64 (n:Nat),.ziA,.int .i64 1,.ziA]):=fun {n} {h'} {n'} hn=>by
   refine Fn.imq (BI (z:=(n:Int)) (by omega) (by omega)) fun v h2 n2 hv=>?_
   exact Yz5 hv hn
  have e50:2^B<=2^50:=Ywo (by decide) hb
  have c50:(2:Nat)^50=1125899906842624:=by decide
  have wn:∀{n:Nat},n<4611686018427387904->wl (((n:Nat):Rat).num)<=62/\wl ((((n:Nat):Rat).den:Nat):Int)<=62:=fun {n} hn=>(BM (a:=n) (k:=62) (by omega) (by decide)).eX
  have zhX:∀{n:Nat} {h':T O} {n':Nat},n<=2^B->Fn A.C 71 [.agg [.int .i64 (n:Nat),.ziA,.int .i64 1,.ziA],.agg [.int .i64 (2:Nat),.ziA,.int .i64 1,.ziA]] h' n' (fun v _ _=>v=.agg [.int .i64 ((2*n):Nat),.ziA,.int .i64 1,.ziA]):=fun {n} {h'} {n'} hn=>by
   have w1:=wn (n:=n) (by omega)
   have w2:=wn (n:=2) (by decide)
   refine Fn.imq (KZ (Yz3 (n:=n) (by omega)) (Yz3 (n:=2) (by decide)) (by omega) (by omega) (by omega) (by omega)) fun v h2 n2 hv=>?_
   rw[<-Rat.natCast_mul,iz]at hv
   exact Yz5 hv (by omega)
  have zhY:∀{x y:Nat} {h':T O} {n':Nat} {v:V},Fc h' n' v (((x:Nat):Rat)-((y:Nat):Rat))->x<=2^B->y<x->Fn A.C 73 [v,.agg [.int .i64 (1:Nat),.ziA,.int .i64 1,.ziA]] h' n' (fun o _ _=>∃s:Int,o=.int .i64 s/\(0<s↔y+1<x)):=fun {x y} {h'} {n'} {v} hv hx hy=>by
   have e:((x:Nat):Rat)-((y:Nat):Rat)=((x-y:Nat):Rat):=by
    have h1:((x-y:Nat):Rat)+((y:Nat):Rat)=((x:Nat):Rat):=by rw[<-Rat.natCast_add];congr 1;omega
    grind
   rw[e]at hv
   have w1:=wn (n:=x-y) (by omega)
   have w2:=wn (n:=1) (by decide)
   refine Fn.imq (KW hv (Yz3 (n:=1) (by decide)) (by omega) (by omega) (by omega) (by omega)) fun o h2 n2 ho=>⟨_,ho,?_⟩
   rw[Sg,Rat.natCast_lt_natCast]
   omega
  have zhZ:∀{x y:Nat} {h':T O} {n':Nat},x<=2^B->y<=2^B->Fn A.C 75 [.agg [.int .i64 (x:Nat),.ziA,.int .i64 1,.ziA],.agg [.int .i64 (y:Nat),.ziA,.int .i64 1,.ziA]] h' n' (fun v _ _=>v=.agg [.int .i64 ((x+y):Nat),.ziA,.int .i64 1,.ziA]):=fun {x y} {h'} {n'} hx hy=>by
   have w1:=wn (n:=x) (by omega)
   have w2:=wn (n:=y) (by omega)
   refine Fn.imq (Nn (Yz3 (n:=x) (by omega)) (Yz3 (n:=y) (by omega)) (by omega) (by omega) (by omega) (by omega)) fun v h2 n2 hv=>?_
   rw[<-Rat.natCast_add]at hv
   exact Yz5 hv (by omega)
  have zh0:∀{x:Nat} {h':T O} {n':Nat},x<=2^B+2^B->Fn A.C 70 [.agg [.int .i64 (x:Nat),.ziA,.int .i64 1,.ziA],.agg [.int .i64 (2:Nat),.ziA,.int .i64 1,.ziA]] h' n' (fun v h2 n2=>Fc h2 n2 v (((x:Nat):Rat)*(1/2))):=fun {x} {h'} {n'} hx=>by
   have w1:=wn (n:=x) (by omega)
   have w2:=wn (n:=2) (by decide)
   have q2:Qb 10 ((2:Nat):Rat):=BM (by decide) (by decide)
   have n2:((2:Nat):Rat)≠0:=by decide
   have w3:=(q2.inv n2).eX
   refine Fn.imq (Zvr (Yz3 (n:=x) (by omega)) (Yz3 (n:=2) (by decide)) n2 (by omega) (by omega) (by omega) (by omega) (by omega) (by omega)) fun v h2 n2 hv=>?_
   have e:((x:Nat):Rat)/((2:Nat):Rat)=((x:Nat):Rat)*(1/2):=by
    rw[show ((2:Nat):Rat)=2 from rfl]
    grind
   rw[<-e]
   exact hv
  have zh1:∀{x:Nat} {h':T O} {n':Nat} {v:V},x<=2^B+2^B->Fc h' n' v (((x:Nat):Rat)*(1/2))->Fn A.C 76 [v] h' n' (fun v _ _=>v=.agg [.int .i64 (x/2:Nat),.ziA]):=fun {x} {h'} {n'} {v} hx hv=>by
   have qx:=(BM (a:=x) (k:=62) (by omega) (by decide)).mul (show Qb 2 ((1:Rat)/2) from ⟨by decide+kernel,by decide+kernel⟩)
   have w1:=qx.eX
   refine Fn.imq (Xcn hv (by omega) (by omega)) fun v h2 n2 hv=>?_
   rw[Xan]at hv
   rcases hv with⟨e,_⟩|⟨_,_,_,_,_,_,b1⟩
   ·exact e
   ·exfalso
    simp at b1
    omega
  have whc:∀{x:Nat} {h':T O} {n':Nat},x<=2^B->Fn A.C 74 [.agg [.int .i64 (x:Nat),.ziA]] h' n' (fun v _ _=>v=.agg [.int .i64 (x:Nat),.ziA,.int .i64 1,.ziA]):=fun {x} {h'} {n'} hx=>by
   refine Fn.imq (Zp8 (In.small (by omega) (by omega))) fun v h2 n2 hv=>?_
   exact Yz5 (n:=x) hv (by omega)
  simp(disch:=first|(simp;done)|omega|rfl) [-getElem?_pos,a_]
  refine av (Yhs Il (by omega) R.q (by omega)) ?_
  rintro _ h2 n2 k2 ⟨rfl,rq⟩
  simp(disch:=first|(simp;done)|omega|rfl) [-getElem?_pos,]
  refine av (ffc (n:=10) (by decide)) ?_
  rintro _ h3 n3 k3 rfl
  simp(disch:=first|(simp;done)|omega|rfl) [-getElem?_pos,]
  refine av fp ?_
  rintro _ h4 n4 k4 rfl
  have k34:=k3.trans k4
  have le4:=k34.le
  have oH:=k2.le
  have rv:=rq.frt.ai k34
  have K4:=(K1.trans k2).trans k34
  have b4:=((k2.trans k34).get N lN).trans b1
  simp(disch:=first|(simp;done)|omega|rfl) [-getElem?_pos,aj,bM]
  have kC:ah h4 n4 ((((h4.set n4 (.cells [.ziA] 94 true)).set (n4+1) (.cells [.int .i64 0,.ziA,.int .i64 0,.ziA] 102 true)).set n4 (.cells [.slice n1 0 p.length (some p.length) 4] 94 true)).set (n4+1) (.cells [.int .i64 (U:Nat),.ziA,.int .i64 1,.ziA] 102 true)) (n4+1+1):=(((ah.refl.new _).new _).set (by omega)).set (by omega)
  have gC7:((((h4.set n4 (.cells [.ziA] 94 true)).set (n4+1) (.cells [.int .i64 0,.ziA,.int .i64 0,.ziA] 102 true)).set n4 (.cells [.slice n1 0 p.length (some p.length) 4] 94 true)).set (n4+1) (.cells [.int .i64 (U:Nat),.ziA,.int .i64 1,.ziA] 102 true)).get n4=some (.cells [.slice n1 0 p.length (some p.length) 4] 94 true):=by simp
  have gC8:((((h4.set n4 (.cells [.ziA] 94 true)).set (n4+1) (.cells [.int .i64 0,.ziA,.int .i64 0,.ziA] 102 true)).set n4 (.cells [.slice n1 0 p.length (some p.length) 4] 94 true)).set (n4+1) (.cells [.int .i64 (U:Nat),.ziA,.int .i64 1,.ziA] 102 true)).get (n4+1)=some (.cells [.int .i64 (U:Nat),.ziA,.int .i64 1,.ziA] 102 true):=by simp
  have rvC:=rv.ai kC
  generalize (((h4.set n4 (.cells [.ziA] 94 true)).set (n4+1) (.cells [.int .i64 0,.ziA,.int .i64 0,.ziA] 102 true)).set n4 (.cells [.slice n1 0 p.length (some p.length) 4] 94 true)).set (n4+1) (.cells [.int .i64 (U:Nat),.ziA,.int .i64 1,.ziA] 102 true)=HC at*
  refine av (ffc (n:=0) (by decide)) ?_
  rintro _ h5 n5 k5 rfl
  simp(disch:=first|(simp;done)|omega|rfl) [-getElem?_pos,]
  refine av (ffc (n:=1) (by decide)) ?_
  rintro _ h6 n6 k6 rfl
  have k56:=k5.trans k6
  have le6:=k56.le
  have K6:=(K4.trans kC).trans k56
  have rv6:=rvC.ai k56
  have g67:=(k56.get n4 (by omega)).trans gC7
  have g68:=(k56.get (n4+1) (by omega)).trans gC8
  have b6:=((kC.trans k56).get N (by omega)).trans b4
  simp(disch:=first|(simp;done)|omega|rfl) [-getElem?_pos,aj,bM]
  have kD:ah h6 n6 ((((h6.set n6 (.cells [.int .i64 0,.ziA,.int .i64 0,.ziA] 102 true)).set (n6+1) (.cells [.int .i64 0,.ziA,.int .i64 0,.ziA] 102 true)).set n6 (.cells [.int .i64 (0:Nat),.ziA,.int .i64 1,.ziA] 102 true)).set (n6+1) (.cells [.int .i64 (1:Nat),.ziA,.int .i64 1,.ziA] 102 true)) (n6+1+1):=(((ah.refl.new _).new _).set (by omega)).set (by omega)
  have gD0:((((h6.set n6 (.cells [.int .i64 0,.ziA,.int .i64 0,.ziA] 102 true)).set (n6+1) (.cells [.int .i64 0,.ziA,.int .i64 0,.ziA] 102 true)).set n6 (.cells [.int .i64 (0:Nat),.ziA,.int .i64 1,.ziA] 102 true)).set (n6+1) (.cells [.int .i64 (1:Nat),.ziA,.int .i64 1,.ziA] 102 true)).get n6=some (.cells [.int .i64 (0:Nat),.ziA,.int .i64 1,.ziA] 102 true):=by simp
  have gD1:((((h6.set n6 (.cells [.int .i64 0,.ziA,.int .i64 0,.ziA] 102 true)).set (n6+1) (.cells [.int .i64 0,.ziA,.int .i64 0,.ziA] 102 true)).set n6 (.cells [.int .i64 (0:Nat),.ziA,.int .i64 1,.ziA] 102 true)).set (n6+1) (.cells [.int .i64 (1:Nat),.ziA,.int .i64 1,.ziA] 102 true)).get (n6+1)=some (.cells [.int .i64 (1:Nat),.ziA,.int .i64 1,.ziA] 102 true):=by simp
  have zic:=kC.le
  have m4:¬n4<N:=by omega
  have m41:¬n4+1<N:=by omega
  have m6:¬n6<N:=by omega
  have m61:¬n6+1<N:=by omega
  generalize (((h6.set n6 (.cells [.int .i64 0,.ziA,.int .i64 0,.ziA] 102 true)).set (n6+1) (.cells [.int .i64 0,.ziA,.int .i64 0,.ziA] 102 true)).set n6 (.cells [.int .i64 (0:Nat),.ziA,.int .i64 1,.ziA] 102 true)).set (n6+1) (.cells [.int .i64 (1:Nat),.ziA,.int .i64 1,.ziA] 102 true)=HD at*
  refine Zal [(31,38)] (fun e r st=>e=.exit 0/\aL N st.w=[]/\ah h6 n6 st.h st.n/\n6+2<=st.n/\st.h.get n6=some (.cells [.int .i64 ((zge p U B 0 1).1:Nat),.ziA,.int .i64 1,.ziA] 102 true)/\st.h.get (n6+1)=some (.cells [.int .i64 ((zge p U B 0 1).2:Nat),.ziA,.int .i64 1,.ziA] 102 true)) (fun m r st=>aL N st.w=[]/\ah h6 n6 st.h st.n/\n6+2<=st.n/\m<=B/\∃l b:Nat,(b<=2^(B-m)/\2^(B-m)<=b)/\l<=2^B/\zge p U m l b=zge p U B 0 1/\st.h.get n6=some (.cells [.int .i64 (l:Nat),.ziA,.int .i64 1,.ziA] 102 true)/\st.h.get (n6+1)=some (.cells [.int .i64 (b:Nat),.ziA,.int .i64 1,.ziA] 102 true)) B ?_ ?_ ?_
  ·exact⟨by simp[aL,m6,m61,m4,m41],kD,by show n6+2<=n6+1+1;omega,Yv5 _,0,1,by rw[Nat.sub_self];decide,tR _,rfl,gD0,gD1⟩
  ·rintro m r ⟨H,n,W⟩ hr hf ⟨hW,hK,hn6,hm,l,b,vL,lB,yd,EH,Rx⟩
   simp only at hW hK hn6 EH Rx
   have pN:b=2^(B-m):=by omega
   have b1':1<=b:=by rw[pN];exact vu (by decide)
   have bB:b<=2^B:=by rw[pN];exact Ywo (by decide) (by omega)
   have g7:=(hK.get n4 (by omega)).trans g67
   have g8:=(hK.get (n4+1) (by omega)).trans g68
   have i10:n6<n:=by omega
   have i11:n6+1<n:=by omega
   rw[cn]
   simp(disch:=first|(simp;done)|omega|rfl) [-getElem?_pos,A.zhg,hr,hf,EH,Rx,i10,i11,aI,aK]
   refine Ymf (Xbx (rv6.ai hK) R bB b1' g7 (by omega) g8 (by omega)) ?_
   rintro _ hA nA kA rfl
   have zhy:=(kA.get n6 i10).trans EH
   have zhh:=(kA.get (n6+1) i11).trans Rx
   have leA:=kA.le
   have zhI:n6<nA:=by omega
   have zhm:n6+1<nA:=by omega
   have KA:=hK.trans kA
   cases hs:inS p U b with
   |true=>
    have he:zge p U m l b=(l,b):=by
     cases m with
     |zero=>rfl
     |succ m=>rw[zge,aR hs]
    rw[he]at yd
    simp(disch:=first|(simp;done)|omega|rfl) [-getElem?_pos,hr,hf]
    rw[<-yd]
    exact⟨hW,KA,by omega,zhy,zhh⟩
   |false=>
    cases m with
    |zero=>
     rw[R.big b (by rw[pN,Nat.sub_zero];exact Yv5 _)]at hs
     cases hs
    |succ m=>
     rw[zge,aA (by rw[hs];decide)]at yd
     simp(disch:=first|(simp;done)|omega|rfl) [-getElem?_pos,hr,hf,zhy,zhh,zhI,zhm,aI,aK]
     refine av (ffc (n:=2) (by decide)) ?_
     rintro _ hB' nB kB' rfl
     simp(disch:=first|(simp;done)|omega|rfl) [-getElem?_pos,]
     refine av (zhX bB) ?_
     rintro _ hC' nC' kC' rfl
     have e3:2*b=2^(B-m):=by rw[pN,show B-m=B-(m+1)+1 by omega,fV,iz]
     generalize 2*b=b2 at*
     have kBC:=kB'.trans kC'
     have leC:=kBC.le
     have zhi:=(kBC.get n6 zhI).trans zhy
     have zhj:=(kBC.get (n6+1) zhm).trans zhh
     have zhn:n6<nC':=by omega
     have zho:n6+1<nC':=by omega
     simp(disch:=first|(simp;done)|omega|rfl) [-getElem?_pos,aj,bM,hr,hf,zhi,zhj,zhn,zho,aL,m6,m61]
     have kz:=(((hK.trans kA).trans kBC).set (i:=n6) (o:=(.cells [.int .i64 (b:Nat),.ziA,.int .i64 1,.ziA] 102 true)) (Yv5 _)).set (i:=n6+1) (o:=(.cells [.int .i64 (b2:Nat),.ziA,.int .i64 1,.ziA] 102 true)) (by omega)
     exact⟨m,by omega,hW,kz,by omega,by omega,b,b2,by omega,bB,yd,by simp,by simp⟩
  ·rintro _ r ⟨H,n,W⟩ hr ⟨rfl,hW,hK,hn6,EH,Rx⟩
   simp only at hW hK hn6 EH Rx
   obtain⟨RI,hg⟩:=Xay (p:=p) (U:=U) R.big (f:=B) (l:=0) (h:=1) (Yv5 _) (by rw[Nat.sub_self]) (by decide) (by rw[Nat.sub_self];decide) (.inl rfl)
   have er:Xa5 p U B=Xak p U B (zge p U B 0 1).1 (zge p U B 0 1).2:=rfl
   rw[er]
   generalize zge p U B 0 1=LH at*
   obtain⟨L0,H0⟩:=LH
   simp only at RI hg er EH Rx ⊢
   simp(disch:=first|(simp;done)|omega|rfl) [-getElem?_pos,hr]
   refine Zal [(12,12),(39,56)] (fun e r st=>e=.exit 2/\aL N st.w=[]/\ah h6 n6 st.h st.n/\n6+2<=st.n/\∃l b:Nat,Xak p U B L0 H0=(l,b)/\l<=2^B/\b<=2^B/\st.h.get n6=some (.cells [.int .i64 (l:Nat),.ziA,.int .i64 1,.ziA] 102 true)/\st.h.get (n6+1)=some (.cells [.int .i64 (b:Nat),.ziA,.int .i64 1,.ziA] 102 true)) (fun m r st=>aL N st.w=[]/\ah h6 n6 st.h st.n/\n6+2<=st.n/\∃l b:Nat,l<b/\b<=2^B/\b-l<=2^m/\Xak p U m l b=Xak p U B L0 H0/\st.h.get n6=some (.cells [.int .i64 (l:Nat),.ziA,.int .i64 1,.ziA] 102 true)/\st.h.get (n6+1)=some (.cells [.int .i64 (b:Nat),.ziA,.int .i64 1,.ziA] 102 true)) B ?_ ?_ ?_
   ·exact⟨hW,hK,hn6,L0,H0,RI.lt,RI.le,hg,rfl,EH,Rx⟩
   ·rintro m r' ⟨H3,AE,W3⟩ lV rF ⟨JZ,hK3,hn3,l,b,lb,bB,bd,hbi,EH,Rx⟩
    simp only at JZ hK3 hn3 EH Rx
    have lB:l<=2^B:=by omega
    have g7:=(hK3.get n4 (by omega)).trans g67
    have g8:=(hK3.get (n4+1) (by omega)).trans g68
    have i10:n6<AE:=by omega
    have i11:n6+1<AE:=by omega
    have wl1:=wn (n:=l) (by omega)
    have wb1:=wn (n:=b) (by omega)
    rw[cn]
    simp(disch:=first|(simp;done)|omega|rfl) [-getElem?_pos,A.zhf,lV,rF,hr,EH,Rx,i10,i11,aI,aK]
    refine av (Zvo (Yz3 (n:=b) (by omega)) (Yz3 (n:=l) (by omega)) (by omega) (by omega) (by omega) (by omega)) ?_
    rintro v1 hA nA kA f1
    simp(disch:=first|(simp;done)|omega|rfl) [-getElem?_pos,]
    refine av (ffc (n:=1) (by decide)) ?_
    rintro _ hB' nB kB' rfl
    simp(disch:=first|(simp;done)|omega|rfl) [-getElem?_pos,]
    refine av (zhY (f1.ai kB') bB lb) ?_
    rintro _ hC nC kC ⟨sg,rfl,CD⟩
    have kAC:=(kA.trans kB').trans kC
    have leC:=kAC.le
    have KC:=hK3.trans kAC
    have zhi:=(kAC.get n6 i10).trans EH
    have zhj:=(kAC.get (n6+1) i11).trans Rx
    have zhn:n6<nC:=by omega
    have zho:n6+1<nC:=by omega
    by_cases hc:l+1<b
    ·have O4:=CD.2 hc
     cases m with
     |zero=>exfalso;simp at bd;omega
     |succ m=>
      rw[Xak,aA (by omega)]at hbi
      simp(disch:=first|(simp;done)|omega|rfl) [-getElem?_pos,O4,lV,rF,hr,zhi,zhj,zhn,zho,aI,aK]
      refine av (zhZ lB bB) ?_
      rintro _ hD nD kD rfl
      have mB:(l+b)/2<=2^B:=by omega
      have m1:1<=(l+b)/2:=by omega
      have md1:(l+b)/2-l<=2^m:=by rw[fV]at bd;omega
      have md2:b-(l+b)/2<=2^m:=by rw[fV]at bd;omega
      have ml:l<(l+b)/2:=by omega
      have mb:(l+b)/2<b:=by omega
      have sB:l+b<=2^B+2^B:=by omega
      generalize l+b=sm at*
      simp(disch:=first|(simp;done)|omega|rfl) [-getElem?_pos,]
      refine av (ffc (n:=2) (by decide)) ?_
      rintro _ hE nE kE rfl
      simp(disch:=first|(simp;done)|omega|rfl) [-getElem?_pos,]
      refine av (zh0 sB) ?_
      rintro v2 hF nF kF f2
      simp(disch:=first|(simp;done)|omega|rfl) [-getElem?_pos,]
      refine av (zh1 sB f2) ?_
      rintro _ hG nG kG rfl
      generalize sm/2=mid at*
      simp(disch:=first|(simp;done)|omega|rfl) [-getElem?_pos,]
      refine av (whc mB) ?_
      rintro _ hI nI kI rfl
      have kDI:=((((kD.trans kE).trans kF).trans kG).trans kI)
      have leI:=kDI.le
      have KI:=KC.trans kDI
      have kM:ah hI nI ((hI.set nI (.cells [.int .i64 0,.ziA,.int .i64 0,.ziA] 102 true)).set nI (.cells [.int .i64 (mid:Nat),.ziA,.int .i64 1,.ziA] 102 true)) (nI+1):=(ah.refl.new _).set (Yv5 _)
      have gM:((hI.set nI (.cells [.int .i64 0,.ziA,.int .i64 0,.ziA] 102 true)).set nI (.cells [.int .i64 (mid:Nat),.ziA,.int .i64 1,.ziA] 102 true)).get nI=some (.cells [.int .i64 (mid:Nat),.ziA,.int .i64 1,.ziA] 102 true):=by simp
      simp(disch:=first|(simp;done)|omega|rfl) [-getElem?_pos,aj,bM]
      generalize (hI.set nI (.cells [.int .i64 0,.ziA,.int .i64 0,.ziA] 102 true)).set nI (.cells [.int .i64 (mid:Nat),.ziA,.int .i64 1,.ziA] 102 true)=HM at*
      have KM:=KI.trans kM
      have g7M:=(KM.get n4 (by omega)).trans g67
      have g8M:=(KM.get (n4+1) (by omega)).trans g68
      simp(disch:=first|(simp;done)|omega|rfl) [-getElem?_pos,lV,rF,hr,gM,aI,aK]
      refine Ymf (Xbx (rv6.ai KM) R mB m1 g7M (by omega) g8M (by omega)) ?_
      rintro _ hJ nJ kJ rfl
      have kMJ:=kM.trans kJ
      have leJ:=kMJ.le
      have gMJ:=(kJ.get nI (by omega)).trans gM
      have zhz:=((kDI.trans kMJ).get n6 zhn).trans zhi
      have zhA:=((kDI.trans kMJ).get (n6+1) zho).trans zhj
      have iMJ:nI<nJ:=by have:=kJ.le;omega
      have zhJ:n6<nJ:=by omega
      have zhK:n6+1<nJ:=by omega
      have KJ:=KM.trans kJ
      have mI:¬nI<N:=by omega
      cases hs:inS p U mid with
      |true=>
       rw[aR hs]at hbi
       simp(disch:=first|(simp;done)|omega|rfl) [-getElem?_pos,lV,rF,hr,gMJ,zhz,zhA,iMJ,zhJ,zhK,aj,bM,aI,aK,aL,m6,m61,mI]
       exact⟨m,by omega,JZ,KJ.set (i:=n6+1) (o:=(.cells [.int .i64 (mid:Nat),.ziA,.int .i64 1,.ziA] 102 true)) (by omega),by omega,l,mid,ml,mB,by omega,hbi,by simp[zhz],by simp⟩
      |false=>
       rw[aA (by rw[hs];decide)]at hbi
       simp(disch:=first|(simp;done)|omega|rfl) [-getElem?_pos,lV,rF,hr,gMJ,zhz,zhA,iMJ,zhJ,zhK,aj,bM,aI,aK,aL,m6,m61,mI]
       exact⟨m,by omega,JZ,KJ.set (i:=n6) (o:=(.cells [.int .i64 (mid:Nat),.ziA,.int .i64 1,.ziA] 102 true)) (by omega),by omega,mid,b,mb,bB,by omega,hbi,by simp,by simp[zhA]⟩
    ·have O4:=mt CD.1 hc
     have he:Xak p U m l b=(l,b):=by
      cases m with
      |zero=>rfl
      |succ m=>rw[Xak,aR (by omega)]
     rw[he]at hbi
     simp(disch:=first|(simp;done)|omega|rfl) [-getElem?_pos,O4,lV,rF,hr]
     exact⟨JZ,KC,by omega,l,b,hbi.symm,lB,bB,zhi,zhj⟩
   ·rintro _ r' ⟨H3,AE,W3⟩ lV ⟨rfl,JZ,hK3,hn3,l,b,hbi,lB,bB,EH,Rx⟩
    simp only at JZ hK3 hn3 EH Rx
    rw[hbi]
    have g7:=(hK3.get n4 (by omega)).trans g67
    have g8:=(hK3.get (n4+1) (by omega)).trans g68
    have bN:=(hK3.get N (by omega)).trans b6
    have i10:n6<AE:=by omega
    have i11:n6+1<AE:=by omega
    have i8:n4+1<AE:=by omega
    have iN:N<AE:=by omega
    have wl1:=wn (n:=l) (by omega)
    have wb1:=wn (n:=b) (by omega)
    have wu:=wn (n:=U) (by omega)
    have wi:=(R.qu.inv R.u0).eX
    simp only
    generalize fO:(l:Rat)/(U:Rat)=lo at*
    generalize iH:(b:Rat)/(U:Rat)=hi at*
    have ql:Qb (B+11) lo:=by rw[<-fO];exact R.qx lB
    have qh:Qb (B+11) hi:=by rw[<-iH];exact R.qx bB
    simp(disch:=first|(simp;done)|omega|rfl) [-getElem?_pos,lV,hr,EH,g8,i10,i8,aI,aK]
    refine av (Zvr (Yz3 (n:=l) (by omega)) (Yz3 (n:=U) (by omega)) R.u0 (by omega) (by omega) (by omega) (by omega) (by omega) (by omega)) ?_
    rintro _ hA nA kA ⟨y1,x1,y2,x2,rfl,s1,s2⟩
    rw[fO]at s1 s2
    have zhh:=(kA.get (n6+1) i11).trans Rx
    have g8A:=(kA.get (n4+1) i8).trans g8
    have leA:=kA.le
    have zhm:n6+1<nA:=by omega
    have i8A:n4+1<nA:=by omega
    simp(disch:=first|(simp;done)|omega|rfl) [-getElem?_pos,lV,hr,zhh,g8A,zhm,i8A,aI,aK]
    refine av (Zvr (Yz3 (n:=b) (by omega)) (Yz3 (n:=U) (by omega)) R.u0 (by omega) (by omega) (by omega) (by omega) (by omega) (by omega)) ?_
    rintro _ hB' nB kB' ⟨y3,x3,y4,x4,rfl,s3,s4⟩
    rw[iH]at s3 s4
    have leB:=kB'.le
    have q1:=Zaj s1
    have q2:=Zaj s2
    have q3:=Zaj s3
    have q4:=Zaj s4
    unfold V.one at q1 q2 q3 q4
    have kS:ah hB' nB (hB'.set nB (.cells [.int .i64 y1,x1,.int .i64 y2,x2,.int .i64 y3,x3,.int .i64 y4,x4] 102 true)) (nB+1):=ah.refl.new _
    have gS:(hB'.set nB (.cells [.int .i64 y1,x1,.int .i64 y2,x2,.int .i64 y3,x3,.int .i64 y4,x4] 102 true)).get nB=some (.cells [.int .i64 y1,x1,.int .i64 y2,x2,.int .i64 y3,x3,.int .i64 y4,x4] 102 true):=by simp
    have kAS:=kB'.trans kS
    have fr:=mV.Np (by omega) gS ⟨y1,x1,y2,x2,rfl,(s1.ai kAS),(s2.ai kAS)⟩ ⟨y3,x3,y4,x4,rfl,s3.ai kS,s4.ai kS⟩
    simp(disch:=first|(simp;done)|omega|rfl) [-getElem?_pos,aj,q1,q2,q3,q4]
    generalize hB'.set nB (.cells [.int .i64 y1,x1,.int .i64 y2,x2,.int .i64 y3,x3,.int .i64 y4,x4] 102 true)=HS at*
    have kK:∀q∈[lo,hi],Qb (B+11) q:=fun q hq=>by
     simp only[kV,List.not_mem_nil,or_false]at hq
     rcases hq with rfl|rfl
     ·exact ql
     ·exact qh
    have K3:=(((K6.trans hK3).trans kA).trans kAS)
    have zh2:BB [lo,hi]=false:=by
     unfold BB
     rw[List.any_eq_false]
     exact fun q hq=>by rw[(NC (kK q hq) (by omega)).1];decide
    refine av (Yg3 (k:=B+11) fr (hP.ai K3) (by simp) kK (by omega)) ?_
    rintro _ hT nT kT hx
    rcases hx with⟨hx,_⟩|⟨_,y,rfl,hy⟩
    ·rw[zh2]at hx;cases hx
    ·have rO:Sl hT nT y (tx [lo,hi]):=hy.1
     obtain⟨i0,o0,c0,e0,rw0,w1,w2,w3,w4⟩:=rO.at (Ykf (l:=[lo,hi]) (j:=0) rfl)
     obtain⟨i1,o1,c1',e1,rw1,v1,v2,v3,v4⟩:=rO.at (Ykf (l:=[lo,hi]) (j:=1) rfl)
     have ly:=rO.len
     rw[mY]at w4
     rw[show (tx [lo,hi]).length=2 from rfl]at ly
     rw[w1]at v1
     obtain⟨rfl,rfl⟩:i0=i1/\o0=o1:=by simpa using v1
     rw[w3]at v3
     obtain⟨rfl,rfl,rfl⟩:c0=c1'/\e0=e1/\rw0=rw1:=by simpa using v3
     have bT:=(((kA.trans kAS).trans kT).get N iN).trans bN
     have leT:=((kA.trans kAS).trans kT).le
     have iT:N<nT:=by omega
     simp(disch:=first|(simp;done)|omega|rfl) [-getElem?_pos,a_,lV,hr,ly,w1,w2,w3,w4,v4,bT,iT,aj,bM,b_.chk,aI,aK,Ret,aL,nn]
     exact⟨JZ,(K3.trans kT).set (Yv5 _),.inr ⟨rfl,rfl⟩⟩
 ·simp(disch:=first|(simp;done)|omega|rfl) [-getElem?_pos,c,a_,aj,bM,b1,lN,aI,aK,Ret,aL,nn]
  exact⟨K1.set (Yv5 _),.inl ⟨c,rfl⟩⟩
def nC(n:Nat):List V:=[.int .i64 (n:Nat),.ziA,.int .i64 1,.ziA]
def nxQ(p r:List Rat)(k:Nat):Rat:=if k<p.length-1 then pg r (p.length-2)*(-pg p k/pg p (p.length-1))+(if k=0 then 0 else pg r (k-1)) else 0
def nxR(p r:List Rat):List Rat:=(List.range 12).map (nxQ p r)
def abN(l:List Rat):Nat->Rat
 |0=>0
 |k+1=>abN l k+zgb (pg l k)
def unR(i:Nat):List Rat:=(List.range 12).map fun k=>if k=i then 1 else 0
def Ytx(p:List Rat)(i:Nat):Nat->List Rat
 |0=>unR i
 |n+1=>nxR p (Ytx p i n)
def Xb0{q:Rat}:q*((q.den:Nat):Rat)=((q.num:Int):Rat)/\(1:Rat)<=((q.den:Nat):Rat):=by
 have rW:(1:Rat)<=((q.den:Nat):Rat):=by
  have:((1:Nat):Rat)<=((q.den:Nat):Rat):=Rat.natCast_le_natCast.2 q.den_pos
  exact this
 have h0:=AA q
 rw[Rat.divInt_eq_div]at h0
 have hd:((q.den:Nat):Rat)≠0:=fun h=>by
  rw[h]at rW
  exact absurd rW (by decide)
 have h2:=Rat.div_mul_cancel (a:=((q.num:Int):Rat)) hd
 refine⟨?_,rW⟩
 conv=>lhs;lhs;rw[<-h0]
 exact h2
def Xdr{n:Nat}:zgb ((n:Nat):Rat)=((n:Nat):Rat):=by
 have:((0:Nat):Rat)<=((n:Nat):Rat):=Rat.natCast_le_natCast.2 (tR _)
 have z:((0:Nat):Rat)=0:=rfl
 unfold zgb
 rw[aA (by rw[<-z];exact Rat.not_lt.2 this)]
def Xb8{q:Rat}:zgb q*((q.den:Nat):Rat)=((q.num.natAbs:Nat):Rat):=by
 obtain⟨h1,h2⟩:=@Xb0 q
 have h3:zgb (q*((q.den:Nat):Rat))=zgb q*((q.den:Nat):Rat):=by rw[BJ,Xdr]
 rw[<-h3,h1]
 unfold zgb
 by_cases c:q.num<0
 ·have e:((q.num.natAbs:Nat):Int)= -q.num:=by omega
  have e2:((q.num.natAbs:Nat):Rat)=(((q.num.natAbs:Nat):Int):Rat):=rfl
  rw[e2,e,Rat.intCast_neg,aR]
  have:((q.num:Int):Rat)<((0:Int):Rat):=Rat.intCast_lt_intCast.2 c
  exact this
 ·have e:((q.num.natAbs:Nat):Int)=q.num:=by omega
  have e2:((q.num.natAbs:Nat):Rat)=(((q.num.natAbs:Nat):Int):Rat):=rfl
  rw[e2,e,aA]
  have:((0:Int):Rat)<=((q.num:Int):Rat):=Rat.intCast_le_intCast.2 (by omega)
  exact Rat.not_lt.2 this
def Lp{c:Rat}:∀{n:Nat},sR (fun _=>c) n=(n:Rat)*c
 |0=>by
  show (0:Rat)=((0:Nat):Rat)*c
  rw[show ((0:Nat):Rat)=0 from rfl,Rat.zero_mul]
 |n+1=>by
  have ih:=Lp (c:=c) (n:=n)
  show sR (fun _=>c) n+c=_
  rw[ih,Rat.natCast_add,show ((1:Nat):Rat)=1 from rfl]
  grind
def Xcu{p:List Rat}{x:Rat}{k:Nat}(hk:k<p.length):pg (Xae p x) k=pg p k*pwR x k:=by
 have e:=Xag (x:=x) (iy (p:=p) (i:=k) hk)
 unfold pg at e ⊢
 rw[e]
 rfl
structure StH (a:List bj) (n:Int):Prop where
 la:a.length<=15
 fa:∀s∈a,s.length<=40
 f:ks a=0->wO a 6 4=true
 n:n<=8\/32<n
variable {n:Nat}
def Ycj{f g:Nat->Rat}:∀{n:Nat},sR (fun k=>f k+g k) n=sR f n+sR g n
 |0=>by show (0:Rat)=0+0;grind
 |n+1=>by
  have:=Ycj (f:=f) (g:=g) (n:=n)
  unfold sR
  grind
def yZ{f:Nat->Rat}{r:Rat}:∀{n:Nat},sR (fun k=>r*f k) n=r*sR f n
 |0=>by show (0:Rat)=r*0;grind
 |n+1=>by
  have:=yZ (f:=f) (r:=r) (n:=n)
  unfold sR
  grind
def aF(c:Nat->Rat)(n:Nat)(y:Nat->Rat)(m:Nat):Rat:=sR (fun j=>c (n-m+j)*y j) (m+1)
def bF(c:Nat->Rat)(y:Nat->Rat)(m:Nat):Rat:=sR (fun j=>c (m-j)*y j) (m+1)
def VF(c:Nat->Rat)(n:Nat)(y:Nat->Rat):Rat:=sR (fun m=>aF c n y m*aF c n y m-bF c y m*bF c y m) n
def Du(y:Nat->Rat)(j:Nat):Rat:=y (j+1)
def Yo7{c y:Nat->Rat}{m:Nat}(hm:m+1<=n):aF c n y (m+1)=c (n-m-1)*y 0+aF c n (Du y) m:=by
 unfold aF
 rw[<-HW (n:=m+1)]
 have e:sR (fun k=>c (n-(m+1)+(k+1))*y (k+1)) (m+1)=sR (fun j=>c (n-m+j)*Du y j) (m+1):=il fun k hk=>by
  rw[show n-(m+1)+(k+1)=n-m+k by omega]
  rfl
 rw[e,mY,show n-(m+1)=n-m-1 by omega]
 grind
def Yo0{c y:Nat->Rat}{m:Nat}:bF c y (m+1)=c (m+1)*y 0+bF c (Du y) m:=by
 unfold bF
 rw[<-HW (n:=m+1)]
 have e:sR (fun k=>c (m+1-(k+1))*y (k+1)) (m+1)=sR (fun j=>c (m-j)*Du y j) (m+1):=il fun k hk=>by
  rw[show m+1-(k+1)=m-k by omega]
  rfl
 rw[e,Nat.sub_zero]
 grind
def tri{F:Nat->Nat->Rat}:∀{n:Nat},sR (fun m=>sR (fun j=>F m j) (m+1)) n=sR (fun j=>sR (fun i=>F (j+i) j) (n-j)) n
 |0=>rfl
 |n+1=>by
  have ih:=tri (F:=F) (n:=n)
  have e1:sR (fun j=>sR (fun i=>F (j+i) j) (n+1-j)) n=sR (fun j=>sR (fun i=>F (j+i) j) (n-j)+F n j) n:=il fun j hj=>by
   rw[show n+1-j=n-j+1 by omega]
   show sR _ (n-j)+F (j+(n-j)) j=_
   rw[show j+(n-j)=n by omega]
  show sR (fun m=>sR (fun j=>F m j) (m+1)) n+(sR (fun j=>F n j) n+F n n)=sR (fun j=>sR (fun i=>F (j+i) j) (n+1-j)) n+sR (fun i=>F (n+i) n) (n+1-n)
  rw[ih,e1,Ycj,show n+1-n=1 by omega]
  show _=_+(0+F (n+0) n)
  rw[mY]
  grind
def Yvm{c y:Nat->Rat}:sR (fun m=>c (n-m)*aF c n y m) (n+1)=sR (fun m=>c m*bF c y m) (n+1):=by
 have e1:sR (fun m=>c (n-m)*aF c n y m) (n+1)=sR (fun m=>sR (fun j=>c (n-m)*(c (n-m+j)*y j)) (m+1)) (n+1):=il fun m _=>by
  unfold aF
  rw[yZ]
 have e2:sR (fun m=>c m*bF c y m) (n+1)=sR (fun m=>sR (fun j=>c m*(c (m-j)*y j)) (m+1)) (n+1):=il fun m _=>by
  unfold bF
  rw[yZ]
 rw[e1,e2,tri (F:=fun m j=>c (n-m)*(c (n-m+j)*y j)),tri (F:=fun m j=>c m*(c (m-j)*y j))]
 refine il fun j hj=>?_
 rw[<-R9]
 refine il fun i hi=>?_
 show c (n-(j+(n+1-j-1-i)))*(c (n-(j+(n+1-j-1-i))+j)*y j)=c (j+i)*(c (j+i-j)*y j)
 rw[show n-(j+(n+1-j-1-i))=i by omega,show j+i-j=i by omega,show i+j=j+i by omega]
 grind
def Ypb{c y:Nat->Rat}:VF c n (Du y)=VF c n y+aF c n y n*aF c n y n-bF c y n*bF c y n:=by
 have sh:=fun (f:Nat->Rat)=>HW (f:=f) (n:=n)
 have e1:VF c n (Du y)=sR (fun m=>(aF c n y (m+1)*aF c n y (m+1)-bF c y (m+1)*bF c y (m+1))-(2*y 0)*(c (n-(m+1))*aF c n y (m+1)-c (m+1)*bF c y (m+1))+(y 0*y 0)*(c (n-(m+1))*c (n-(m+1))-c (m+1)*c (m+1))) n:=by
  unfold VF
  refine il fun m hm=>?_
  have h1:=Yo7 (c:=c) (y:=y) (n:=n) (m:=m) (by omega)
  have h2:=Yo0 (c:=c) (y:=y) (m:=m)
  rw[show n-(m+1)=n-m-1 by omega]
  generalize aF c n (Du y) m=A at*
  generalize bF c (Du y) m=B at*
  rw[h1,h2]
  grind
 rw[e1,Ycj,yZ,Ay]
 have s1:=sh fun m=>aF c n y m*aF c n y m-bF c y m*bF c y m
 have s2:=sh fun m=>c (n-m)*aF c n y m-c m*bF c y m
 have s3:=sh fun m=>c (n-m)*c (n-m)-c m*c m
 have t1:sR (fun m=>aF c n y m*aF c n y m-bF c y m*bF c y m) (n+1)=VF c n y+(aF c n y n*aF c n y n-bF c y n*bF c y n):=rfl
 have t2:sR (fun m=>c (n-m)*aF c n y m-c m*bF c y m) (n+1)=0:=by
  have e:sR (fun m=>c (n-m)*aF c n y m-c m*bF c y m) (n+1)=sR (fun m=>c (n-m)*aF c n y m-1*(c m*bF c y m)) (n+1):=il fun m _=>by grind
  rw[e,Ay,Yvm]
  grind
 have t3:sR (fun m=>c (n-m)*c (n-m)-c m*c m) (n+1)=0:=by
  have e:sR (fun m=>c (n-m)*c (n-m)-c m*c m) (n+1)=sR (fun m=>c (n-m)*c (n-m)-1*(c m*c m)) (n+1):=il fun m _=>by grind
  have r:=R9 (f:=fun m=>c m*c m) (n:=n+1)
  have e3:sR (fun m=>c (n+1-1-m)*c (n+1-1-m)) (n+1)=sR (fun m=>c (n-m)*c (n-m)) (n+1):=il fun m _=>by rw[Nat.add_sub_cancel]
  rw[e,Ay,<-e3,r]
  grind
 have a0:aF c n y 0=c n*y 0:=by
  show (0:Rat)+c (n-0+0)*y 0=_
  rw[Nat.sub_zero,mY]
  grind
 have b0:bF c y 0=c 0*y 0:=by
  show (0:Rat)+c (0-0)*y 0=_
  grind
 rw[Nat.sub_zero]at s2 s3
 rw[t1,a0,b0]at s1
 rw[t2,a0,b0]at s2
 rw[t3]at s3
 grind
variable {k:Nat}
def qF(c:Nat->Rat)(n j:Nat):Rat:=c (j+1)-c 0/c n*c (n-1-j)
def tj{f:Nat->Rat}{n:Nat}:sR f (n+1)=sR f n+f n:=rfl
def Yub{c y:Nat->Rat}{m:Nat}(hm:m<=k):aF c (k+1) y m-c 0/c (k+1)*bF c y m=aF (qF c (k+1)) k y m:=by
 unfold aF bF
 rw[<-Ay]
 refine il fun j hj=>?_
 unfold qF
 rw[show k-m+j+1=k+1-m+j by omega,show k+1-1-(k-m+j)=m-j by omega]
 grind
def Yua{c y:Nat->Rat}{m:Nat}(h0:c (k+1)≠0)(hm:m+1<=k):bF c y (m+1)-c 0/c (k+1)*aF c (k+1) y (m+1)=bF (qF c (k+1)) y m:=by
 unfold aF bF
 rw[<-Ay,tj]
 have e:c (m+1-(m+1))*y (m+1)-c 0/c (k+1)*(c (k+1-(m+1)+(m+1))*y (m+1))=0:=by
  rw[Nat.sub_self,show k+1-(m+1)+(m+1)=k+1 by omega]
  have:=Rat.div_mul_cancel (a:=c 0) h0
  grind
 rw[e,Rat.add_zero]
 refine il fun j hj=>?_
 unfold qF
 rw[show m-j+1=m+1-j by omega,show k+1-1-(m-j)=k+1-(m+1)+j by omega]
 grind
def Zym{c y:Nat->Rat}(h0:c (k+1)≠0):(1-c 0/c (k+1)*(c 0/c (k+1)))*VF c (k+1) y=VF (qF c (k+1)) k y+sR (fun j=>qF c (k+1) j*y j) (k+1)*sR (fun j=>qF c (k+1) j*y j) (k+1):=by
 have hr:=Rat.div_mul_cancel (a:=c 0) h0
 have ha:=fun m (hm:m<=k)=>Yub (c:=c) (y:=y) hm
 have hb:=fun m (hm:m+1<=k)=>Yua (y:=y) h0 hm
 have hA:aF (qF c (k+1)) k y k=sR (fun j=>qF c (k+1) j*y j) (k+1):=by
  unfold aF
  refine il fun j hj=>?_
  rw[show k-k+j=j by omega]
 generalize c 0/c (k+1)=r at*
 have e1:(1-r*r)*VF c (k+1) y=sR (fun m=>aF (qF c (k+1)) k y m*aF (qF c (k+1)) k y m-1*((bF c y m-r*aF c (k+1) y m)*(bF c y m-r*aF c (k+1) y m))) (k+1):=by
  unfold VF
  rw[<-yZ]
  refine il fun m hm=>?_
  rw[<-ha m (by omega)]
  grind
 have b0:bF c y 0-r*aF c (k+1) y 0=0:=by
  show (0:Rat)+c (0-0)*y 0-r*(0+c (k+1-0+0)*y 0)=0
  rw[Nat.sub_zero,mY]
  grind
 have e2:sR (fun m=>(bF c y m-r*aF c (k+1) y m)*(bF c y m-r*aF c (k+1) y m)) (k+1)=sR (fun m=>bF (qF c (k+1)) y m*bF (qF c (k+1)) y m) k:=by
  rw[<-HW,b0]
  have:sR (fun m=>(bF c y (m+1)-r*aF c (k+1) y (m+1))*(bF c y (m+1)-r*aF c (k+1) y (m+1))) k=sR (fun m=>bF (qF c (k+1)) y m*bF (qF c (k+1)) y m) k:=il fun m hm=>by rw[hb m (by omega)]
  rw[this]
  grind
 have e3:VF (qF c (k+1)) k y=sR (fun m=>aF (qF c (k+1)) k y m*aF (qF c (k+1)) k y m) k-sR (fun m=>bF (qF c (k+1)) y m*bF (qF c (k+1)) y m) k:=by
  have:=Ay (f:=fun m=>aF (qF c (k+1)) k y m*aF (qF c (k+1)) k y m) (g:=fun m=>bF (qF c (k+1)) y m*bF (qF c (k+1)) y m) (r:=1) (n:=k)
  have e:VF (qF c (k+1)) k y=sR (fun m=>aF (qF c (k+1)) k y m*aF (qF c (k+1)) k y m-1*(bF (qF c (k+1)) y m*bF (qF c (k+1)) y m)) k:=by
   unfold VF
   exact il fun m _=>by grind
  rw[e,this]
  grind
 rw[e1,Ay,e2,tj,hA,e3]
 grind
def Zyn{c c' y y':Nat->Rat}{n:Nat}(hc:∀j,j<=n->c j=c' j)(hy:∀j,j<n->y j=y' j):VF c n y=VF c' n y':=by
 unfold VF
 refine il fun m hm=>?_
 have e1:aF c n y m=aF c' n y' m:=il fun j hj=>by rw[hc _ (by omega),hy _ (by omega)]
 have e2:bF c y m=bF c' y' m:=il fun j hj=>by rw[hc _ (by omega),hy _ (by omega)]
 rw[e1,e2]
def lW{x:Rat}:0<=x*x:=by
 by_cases h:0<=x
 ·exact Rat.mul_nonneg h h
 ·have:=Rat.mul_nonneg (show 0<= -x by grind) (show 0<= -x by grind)
  grind
def S3{x:Rat}(h:x≠0):0<x*x:=by
 have h1:=@lW x
 have h2:x*x≠0:=fun e=>by rcases Rat.mul_eq_zero.1 e with h'|h'<;>exact h h'
 grind
def cau{f:Nat->Rat}:∀{k:Nat},sR f k*sR f k<=(k:Rat)*sR (fun j=>f j*f j) k
 |0=>by
  show (0:Rat)*0<=((0:Nat):Rat)*0
  grind
 |k+1=>by
  have ih:=cau (f:=f) (k:=k)
  have key:∀m,2*(sR f m*f k)<=(m:Rat)*(f k*f k)+sR (fun j=>f j*f j) m:=fun m=>by
   induction m with
   |zero=>
    show 2*(0*f k)<=((0:Nat):Rat)*(f k*f k)+0
    rw[show ((0:Nat):Rat)=0 from rfl]
    grind
   |succ m ihm=>
    have h:=@lW (f m-f k)
    rw[tj,tj,Rat.natCast_add,show ((1:Nat):Rat)=1 from rfl]
    grind
  have h:=key k
  rw[tj,tj,Rat.natCast_add,show ((1:Nat):Rat)=1 from rfl]
  grind
def LB(c:Nat->Rat)(n:Nat)(κ:Rat):Prop:=∀(y:Nat->Rat) (j:Nat),j<n->κ*(y j*y j)<=VF c n y
def PD(c:Nat->Rat)(n:Nat):Prop:=∀y:Nat->Rat,(∃j,j<n/\y j≠0)->0<VF c n y
def Ytn{c:Nat->Rat}{κ:Rat}(hκ:0<κ):∀{n:Nat},LB c n κ->∀y,0<=VF c n y
 |0,_,_=>Rat.le_refl
 |n+1,h,y=>by
  have h1:=h y 0 (by omega)
  have h2:=Rat.mul_nonneg (Rat.le_of_lt hκ) (@lW (y 0))
  exact Rat.le_trans h2 h1
def Ykk{r:Rat}(h:zgb r<1):0<1-r*r/\r*r<=1:=by
 have hR:=@Zb2 r
 have rr:r*r=zgb r*zgb r:=by unfold zgb;split<;>grind
 rw[rr]
 generalize zgb r=a at*
 have h1:=Rat.mul_nonneg hR (show (0:Rat)<=1-a by grind)
 constructor<;>grind
def Dv{a b F:Rat}(hF:0<F)(h:a*F<=b*F):a<=b:=by
 apply Rat.not_lt.1
 intro hc
 have:=Rat.mul_pos hF (show (0:Rat)<a-b by grind)
 grind
def SF:Nat->(Nat->Rat)->Prop
 |0,c=>c 0≠0
 |n+1,c=>c (n+1)≠0/\zgb (c 0/c (n+1))<1/\SF n (qF c (n+1))
def Ynp{c:Nat->Rat}{κ:Rat}(h0:c (k+1)≠0)(hr:zgb (c 0/c (k+1))<1)(hκ:0<κ)(h:LB (qF c (k+1)) k κ):∃κ',0<κ'/\LB c (k+1) κ':=by
 obtain⟨r1,r2⟩:=Ykk hr
 have hq:qF c (k+1) k≠0:=by
  have e:qF c (k+1) k=c (k+1)*(1-c 0/c (k+1)*(c 0/c (k+1))):=by
   unfold qF
   rw[show k+1-1-k=0 by omega]
   have:=Rat.div_mul_cancel (a:=c 0) h0
   grind
  rw[e]
  intro hc
  rcases Rat.mul_eq_zero.1 hc with h'|h'
  ·exact h0 h'
  ·grind
 have NN:=fun y=>Zym (y:=y) h0
 have qn:=fun y=>Ytn hκ h y
 generalize hQ:qF c (k+1)=q at*
 generalize c 0/c (k+1)=r at*
 have vn:∀y,VF q k y<=VF c (k+1) y/\sR (fun j=>q j*y j) (k+1)*sR (fun j=>q j*y j) (k+1)<=VF c (k+1) y/\0<=VF c (k+1) y:=fun y=>by
  have h1:=NN y
  have h2:=qn y
  have h3:=@lW (sR (fun j=>q j*y j) (k+1))
  generalize sR (fun j=>q j*y j) (k+1)*sR (fun j=>q j*y j) (k+1)=A at*
  have h4:0<=VF c (k+1) y:=by
   apply Rat.not_lt.1
   intro hc
   have:=Rat.mul_pos r1 (show (0:Rat)< -VF c (k+1) y by grind)
   grind
  have h5:=Rat.mul_nonneg (@lW r) h4
  refine⟨?_,?_,h4⟩<;>grind
 have sQ:0<=sR (fun j=>q j*q j) k:=Dt fun j _=>lW
 have sk:(0:Rat)<=(k:Rat):=by
  have:((0:Nat):Rat)<=(k:Rat):=Rat.natCast_le_natCast.2 (tR _)
  exact this
 obtain⟨D,hD⟩:∃D,(k:Rat)*sR (fun j=>q j*q j) k=D:=⟨_,rfl⟩
 have D0:0<=D:=by rw[<-hD];exact Rat.mul_nonneg sk sQ
 have last:∀y,κ*(q k*q k)*(y k*y k)<=(2*κ+2*D)*VF c (k+1) y:=fun y=>by
  obtain⟨v1,v2,v3⟩:=vn y
  have c1:=cau (f:=fun j=>q j*y j) (k:=k)
  have c2:κ*sR (fun j=>q j*y j*(q j*y j)) k<=sR (fun j=>q j*q j) k*VF c (k+1) y:=by
   rw[<-yZ]
   have e:sR (fun j=>q j*q j) k*VF c (k+1) y=sR (fun j=>VF c (k+1) y*(q j*q j)) k:=by rw[yZ,Rat.mul_comm]
   rw[e]
   refine Lo fun j hj=>?_
   have h1:=Rat.le_trans (h y j hj) v1
   have h2:=iK (@lW (q j)) h1
   grind
  have c3:=iK sk c2
  have c4:=iK (Rat.le_of_lt hκ) c1
  rw[tj]at v2
  have c5:=iK (Rat.le_of_lt hκ) v2
  have c6:=Rat.mul_nonneg (Rat.le_of_lt hκ) (@lW (sR (fun j=>q j*y j) k+sR (fun j=>q j*y j) k+q k*y k))
  rw[<-hD]
  generalize sR (fun j=>q j*y j) k=S at*
  generalize sR (fun j=>q j*y j*(q j*y j)) k=S2 at*
  generalize sR (fun j=>q j*q j) k=Q2 at*
  generalize VF c (k+1) y=V at*
  generalize (k:Rat)=kk at*
  generalize q k=a at*
  generalize y k=b at*
  grind
 have mp:=S3 hq
 obtain⟨m,hm⟩:∃m,q k*q k=m:=⟨_,rfl⟩
 rw[hm]at mp last
 obtain⟨F,hF⟩:∃F,2*κ+2*D+m=F:=⟨_,rfl⟩
 have Fp:0<F:=by rw[<-hF];grind
 obtain⟨κ',hκ'⟩:∃κ',κ*m/F=κ':=⟨_,rfl⟩
 have e:κ'*F=κ*m:=by rw[<-hκ'];exact Rat.div_mul_cancel (by intro hc;rw[hc]at Fp;exact Rat.lt_irrefl Fp)
 have κp:0<κ':=by
  apply Rat.not_le.1
  intro hc
  have h1:=Rat.mul_nonneg (show (0:Rat)<= -κ' by grind) (Rat.le_of_lt Fp)
  have h2:=Rat.mul_pos hκ mp
  grind
 have le:κ'<=κ:=by
  refine Dv Fp ?_
  rw[e,<-hF]
  have h1:=Rat.mul_nonneg (Rat.le_of_lt hκ) (Rat.le_of_lt hκ)
  have h2:=Rat.mul_nonneg (Rat.le_of_lt hκ) D0
  grind
 refine⟨κ',κp,fun y j hj=>?_⟩
 obtain⟨v1,v2,v3⟩:=vn y
 by_cases Az:j=k
 ·subst Az
  refine Dv Fp ?_
  have h1:=last y
  have h2:=Rat.mul_nonneg (Rat.le_of_lt mp) v3
  rw[<-hF]at e ⊢
  have e3:κ'*(y j*y j)*(2*κ+2*D+m)=κ*m*(y j*y j):=by rw[<-e];grind
  rw[e3]
  grind
 ·have h1:=Rat.le_trans (h y j (by omega)) v1
  have h2:=iK (@lW (y j)) le
  exact Rat.le_trans h2 h1
def Yk3:∀{n:Nat} {c:Nat->Rat},SF n c->∃κ,0<κ/\LB c n κ
 |0,_,_=>⟨1,by decide,fun _ j hj=>absurd hj (by omega)⟩
 |n+1,c,h=>by
  obtain⟨h0,hr,hs⟩:=h
  obtain⟨κ,hκ,hl⟩:=Yk3 hs
  exact Ynp h0 hr hκ hl
end
end Go.Mx
