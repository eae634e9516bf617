/-loop-/
import Derived.Test.YtlbnjhhebffhdaaGreatDoorLwC
set_option linter.all false
namespace Go.Mx
noncomputable section
open Go Go.Proofs
set_option maxHeartbeats 8000000
set_option maxRecDepth 1000000
def A.w13:=A.q Tryz.f13
def A.zhf:=A.ql A.w13 1 []
def A.zhg:=A.ql A.w13 0 []
def A.b13:=(fun x0 x1=>A.qb A.w13 [x0,x1]) A.zhg A.zhf
def A.k13:=@A.kk 13 79 [.cell 4 (some 2),.tmp 5] A.b13 (by kernel_rfl) rfl
def RY(z:Int):Int:=if z<1\/3<z then 3 else 0
def Xcw(x:V)(E:Int)(lo hi:Rat):Prop:=(E≠0/\x=.aX [.agg [.str [],.str []],.int .i64 E])\/(E=0/\x=.aX [.agg [.str (Zao lo),.str (Zao hi)],.int .i64 0])
def Fn.imq{C:Cx}{f:Nat}{args:List V}{h:T O}{n:Nat}{P Q:V->T O->Nat->Prop}(hf:Fn C f args h n P)(hi:∀v h' n',P v h' n'->Q v h' n'):Fn C f args h n Q:=fun w=>(hf w).mono fun v st=>by
 rintro⟨hw,hk,hp⟩
 exact⟨hw,hk,hi _ _ _ hp⟩
def Xdd{h:T O}{N j B:Nat}{u:V}{a:List bj}{z:Int}(hu:Sl h N u (strs a))(hP:j_ h N)(la:a.length<100000)(fa:∀s∈a,s.length<=20000)(hR:Yz7 a (RY z)=0->RdH (ziB a) j B (10^z.toNat) z.toNat/\z=(z.toNat:Int)):Fn A.C 13 [u,.int .i64 z] h N (fun x _ _=>Xcw x (Yz7 a (RY z)) (((Xa5 (ziB a) (10^z.toNat) B).1:Rat)/((10^z.toNat:Nat):Rat)) (((Xa5 (ziB a) (10^z.toNat) B).2:Rat)/((10^z.toNat:Nat):Rat))):=by
 intro w;generalize hd:z.toNat=dec at*;generalize hU:10^dec=U at*;have kB:ah h N (h.set N (.cells [.str [],.str []] 32 true)) (N+1):=ah.refl.new _;have b0:(h.set N (.cells [.str [],.str []] 32 true)).get N=some (.cells [.str [],.str []] 32 true):=by simp
 have we:∀st,A.C.call (.func 65 [] []) [.int .i64 z,.int .i64 1,.int .i64 3] st=some (.int .i64 (RY z),st):=fun st=>Zm3;rw[aZ,A.k13 (by simp)];simp(disch:=first|(simp;done)|omega|rfl) [-getElem?_pos,A.b13,we];generalize h.set N (.cells [.str [],.str []] 32 true)=HB at*;refine av (Xby (hu.ai kB) la fa) ?_;rintro _ h1 n1 k1 rfl;have xF:=k1.le;have K1:=kB.trans k1;have b1:=(k1.get N (by omega)).trans b0;have lN:N<n1:=by omega
 have nn:¬N<N:=by omega
 by_cases c:Yz7 a (RY z)=0
 ·obtain⟨R,hz⟩:=hR c;obtain⟨c1,c2⟩:ks a=0/\True:=by
   unfold Yz7 at c;by_cases x:ks a=0
   ·exact⟨x,trivial⟩
   rw[cN,aA x]at c;exact absurd c x
  obtain⟨a0,a1,a2,a3⟩:=Yti c1;have ta:=Ymk a2;have Il:Sl h1 n1 u (tx (ziB a)):=by rw[<-ta];exact hu.ai K1
  rw[c];subst hz;generalize ziB a=p at*;have hb:=R.b;have j1:=R.j1;have l1:=R.l1;have l2:=R.l2;have ub:=R.ub;have wp:wl ((10^dec:Nat):Int)<1000:=by have:=R.qu.eX.1;rw[uf.1,<-hU]at this;omega
  have wt:wl ((10:Nat):Int)<1000:=by have:=(BM (a:=10) (k:=20) (by omega) (by decide)).eX.1;rw[uf.1]at this;omega
  have fp:∀{h':T O} {n':Nat},Fn A.C 67 [.agg [.int .i64 (10:Nat),.ziA,.int .i64 1,.ziA],.int .i64 dec] h' n' (fun v h'' n''=>v=.agg [.int .i64 (U:Nat),.ziA,.int .i64 1,.ziA]):=fun {h'} {n'}=>by refine Fn.imq (Yn2 (Yz3 (n:=10) (by decide)) (by decide) (by have:=R.d;omega) wt wp) fun v h2 n2 hv=>?_;rw[hU]at hv;exact Yz5 hv (by omega)
  have ffc:∀{n:Nat} {h':T O} {n':Nat},n<4611686018427387904->Fn A.C 66 [.int .i64 (n:Nat)] h' n' (fun v _ _=>v=.agg [.int .i64 (n:Nat),.ziA,.int .i64 1,.ziA]):=fun {n} {h'} {n'} hn=>by refine Fn.imq (BI (z:=(n:Int)) (by omega) (by omega)) fun v h2 n2 hv=>?_;exact Yz5 hv hn
  have e50:2^B<=2^50:=Ywo (by decide) hb;have c50:(2:Nat)^50=1125899906842624:=by decide
  have wn:∀{n:Nat},n<4611686018427387904->wl (((n:Nat):Rat).num)<=62/\wl ((((n:Nat):Rat).den:Nat):Int)<=62:=fun {n} hn=>(BM (a:=n) (k:=62) (by omega) (by decide)).eX;have zhX:∀{n:Nat} {h':T O} {n':Nat},n<=2^B->Fn A.C 71 [.agg [.int .i64 (n:Nat),.ziA,.int .i64 1,.ziA],.agg [.int .i64 (2:Nat),.ziA,.int .i64 1,.ziA]] h' n' (fun v _ _=>v=.agg [.int .i64 ((2*n):Nat),.ziA,.int .i64 1,.ziA]):=fun {n} {h'} {n'} hn=>by have w1:=wn (n:=n) (by omega);have w2:=wn (n:=2) (by decide);refine Fn.imq (KZ (Yz3 (n:=n) (by omega)) (Yz3 (n:=2) (by decide)) (by omega) (by omega) (by omega) (by omega)) fun v h2 n2 hv=>?_;rw[<-Rat.natCast_mul,iz]at hv;exact Yz5 hv (by omega)
  have zhY:∀{x y:Nat} {h':T O} {n':Nat} {v:V},Fc h' n' v (((x:Nat):Rat)-((y:Nat):Rat))->x<=2^B->y<x->Fn A.C 73 [v,.agg [.int .i64 (1:Nat),.ziA,.int .i64 1,.ziA]] h' n' (fun o _ _=>∃s:Int,o=.int .i64 s/\(0<s↔y+1<x)):=fun {x y} {h'} {n'} {v} hv hx hy=>by
   have e:((x:Nat):Rat)-((y:Nat):Rat)=((x-y:Nat):Rat):=by
    have h1:((x-y:Nat):Rat)+((y:Nat):Rat)=((x:Nat):Rat):=by rw[<-Rat.natCast_add];congr 1;omega
    grind
   rw[e]at hv;have w1:=wn (n:=x-y) (by omega);have w2:=wn (n:=1) (by decide);refine Fn.imq (KW hv (Yz3 (n:=1) (by decide)) (by omega) (by omega) (by omega) (by omega)) fun o h2 n2 ho=>⟨_,ho,?_⟩;rw[Sg,Rat.natCast_lt_natCast];omega
  have zhZ:∀{x y:Nat} {h':T O} {n':Nat},x<=2^B->y<=2^B->Fn A.C 75 [.agg [.int .i64 (x:Nat),.ziA,.int .i64 1,.ziA],.agg [.int .i64 (y:Nat),.ziA,.int .i64 1,.ziA]] h' n' (fun v _ _=>v=.agg [.int .i64 ((x+y):Nat),.ziA,.int .i64 1,.ziA]):=fun {x y} {h'} {n'} hx hy=>by have w1:=wn (n:=x) (by omega);have w2:=wn (n:=y) (by omega);refine Fn.imq (Nn (Yz3 (n:=x) (by omega)) (Yz3 (n:=y) (by omega)) (by omega) (by omega) (by omega) (by omega)) fun v h2 n2 hv=>?_;rw[<-Rat.natCast_add]at hv;exact Yz5 hv (by omega)
  have zh0:∀{x:Nat} {h':T O} {n':Nat},x<=2^B+2^B->Fn A.C 70 [.agg [.int .i64 (x:Nat),.ziA,.int .i64 1,.ziA],.agg [.int .i64 (2:Nat),.ziA,.int .i64 1,.ziA]] h' n' (fun v h2 n2=>Fc h2 n2 v (((x:Nat):Rat)*(1/2))):=fun {x} {h'} {n'} hx=>by
   have w1:=wn (n:=x) (by omega);have w2:=wn (n:=2) (by decide);have q2:Qb 10 ((2:Nat):Rat):=BM (by decide) (by decide);have n2:((2:Nat):Rat)≠0:=by decide
   have w3:=(q2.inv n2).eX;refine Fn.imq (Zvr (Yz3 (n:=x) (by omega)) (Yz3 (n:=2) (by decide)) n2 (by omega) (by omega) (by omega) (by omega) (by omega) (by omega)) fun v h2 n2 hv=>?_;have e:((x:Nat):Rat)/((2:Nat):Rat)=((x:Nat):Rat)*(1/2):=by rw[show ((2:Nat):Rat)=2 from rfl];grind
   rw[<-e];exact hv
  have zh1:∀{x:Nat} {h':T O} {n':Nat} {v:V},x<=2^B+2^B->Fc h' n' v (((x:Nat):Rat)*(1/2))->Fn A.C 76 [v] h' n' (fun v _ _=>v=.agg [.int .i64 (x/2:Nat),.ziA]):=fun {x} {h'} {n'} {v} hx hv=>by
   have qx:=(BM (a:=x) (k:=62) (by omega) (by decide)).mul (show Qb 2 ((1:Rat)/2) from ⟨by decide+kernel,by decide+kernel⟩);have w1:=qx.eX;refine Fn.imq (Xcn hv (by omega) (by omega)) fun v h2 n2 hv=>?_;rw[Xan]at hv;rcases hv with⟨e,_⟩|⟨_,_,_,_,_,_,b1⟩
   ·exact e
   exfalso;simp at b1;omega
  have whc:∀{x:Nat} {h':T O} {n':Nat},x<=2^B->Fn A.C 74 [.agg [.int .i64 (x:Nat),.ziA]] h' n' (fun v _ _=>v=.agg [.int .i64 (x:Nat),.ziA,.int .i64 1,.ziA]):=fun {x} {h'} {n'} hx=>by refine Fn.imq (Zp8 (In.small (by omega) (by omega))) fun v h2 n2 hv=>?_;exact Yz5 (n:=x) hv (by omega)
  simp(disch:=first|(simp;done)|omega|rfl) [-getElem?_pos,a_];refine av (Yhs Il (by omega) R.q (by omega)) ?_;rintro _ h2 n2 k2 ⟨rfl,rq⟩;simp(disch:=first|(simp;done)|omega|rfl) [-getElem?_pos,];refine av (ffc (n:=10) (by decide)) ?_;rintro _ h3 n3 k3 rfl;simp(disch:=first|(simp;done)|omega|rfl) [-getElem?_pos,];refine av fp ?_;rintro _ h4 n4 k4 rfl;have k34:=k3.trans k4;have le4:=k34.le;have oH:=k2.le;have rv:=rq.frt.ai k34;have K4:=(K1.trans k2).trans k34;have b4:=((k2.trans k34).get N lN).trans b1;simp(disch:=first|(simp;done)|omega|rfl) [-getElem?_pos,aj,bM];have kC:ah h4 n4 ((((h4.set n4 (.cells [.ziA] 94 true)).set (n4+1) (.cells [.int .i64 0,.ziA,.int .i64 0,.ziA] 102 true)).set n4 (.cells [.slice n1 0 p.length (some p.length) 4] 94 true)).set (n4+1) (.cells [.int .i64 (U:Nat),.ziA,.int .i64 1,.ziA] 102 true)) (n4+1+1):=(((ah.refl.new _).new _).set (by omega)).set (by omega);have gC7:((((h4.set n4 (.cells [.ziA] 94 true)).set (n4+1) (.cells [.int .i64 0,.ziA,.int .i64 0,.ziA] 102 true)).set n4 (.cells [.slice n1 0 p.length (some p.length) 4] 94 true)).set (n4+1) (.cells [.int .i64 (U:Nat),.ziA,.int .i64 1,.ziA] 102 true)).get n4=some (.cells [.slice n1 0 p.length (some p.length) 4] 94 true):=by simp
  have gC8:((((h4.set n4 (.cells [.ziA] 94 true)).set (n4+1) (.cells [.int .i64 0,.ziA,.int .i64 0,.ziA] 102 true)).set n4 (.cells [.slice n1 0 p.length (some p.length) 4] 94 true)).set (n4+1) (.cells [.int .i64 (U:Nat),.ziA,.int .i64 1,.ziA] 102 true)).get (n4+1)=some (.cells [.int .i64 (U:Nat),.ziA,.int .i64 1,.ziA] 102 true):=by simp
  have rvC:=rv.ai kC;generalize (((h4.set n4 (.cells [.ziA] 94 true)).set (n4+1) (.cells [.int .i64 0,.ziA,.int .i64 0,.ziA] 102 true)).set n4 (.cells [.slice n1 0 p.length (some p.length) 4] 94 true)).set (n4+1) (.cells [.int .i64 (U:Nat),.ziA,.int .i64 1,.ziA] 102 true)=HC at*;refine av (ffc (n:=0) (by decide)) ?_;rintro _ h5 n5 k5 rfl;simp(disch:=first|(simp;done)|omega|rfl) [-getElem?_pos,];refine av (ffc (n:=1) (by decide)) ?_;rintro _ h6 n6 k6 rfl;have k56:=k5.trans k6;have le6:=k56.le;have K6:=(K4.trans kC).trans k56;have rv6:=rvC.ai k56;have g67:=(k56.get n4 (by omega)).trans gC7;have g68:=(k56.get (n4+1) (by omega)).trans gC8;have b6:=((kC.trans k56).get N (by omega)).trans b4;simp(disch:=first|(simp;done)|omega|rfl) [-getElem?_pos,aj,bM];have kD:ah h6 n6 ((((h6.set n6 (.cells [.int .i64 0,.ziA,.int .i64 0,.ziA] 102 true)).set (n6+1) (.cells [.int .i64 0,.ziA,.int .i64 0,.ziA] 102 true)).set n6 (.cells [.int .i64 (0:Nat),.ziA,.int .i64 1,.ziA] 102 true)).set (n6+1) (.cells [.int .i64 (1:Nat),.ziA,.int .i64 1,.ziA] 102 true)) (n6+1+1):=(((ah.refl.new _).new _).set (by omega)).set (by omega);have gD0:((((h6.set n6 (.cells [.int .i64 0,.ziA,.int .i64 0,.ziA] 102 true)).set (n6+1) (.cells [.int .i64 0,.ziA,.int .i64 0,.ziA] 102 true)).set n6 (.cells [.int .i64 (0:Nat),.ziA,.int .i64 1,.ziA] 102 true)).set (n6+1) (.cells [.int .i64 (1:Nat),.ziA,.int .i64 1,.ziA] 102 true)).get n6=some (.cells [.int .i64 (0:Nat),.ziA,.int .i64 1,.ziA] 102 true):=by simp
  have gD1:((((h6.set n6 (.cells [.int .i64 0,.ziA,.int .i64 0,.ziA] 102 true)).set (n6+1) (.cells [.int .i64 0,.ziA,.int .i64 0,.ziA] 102 true)).set n6 (.cells [.int .i64 (0:Nat),.ziA,.int .i64 1,.ziA] 102 true)).set (n6+1) (.cells [.int .i64 (1:Nat),.ziA,.int .i64 1,.ziA] 102 true)).get (n6+1)=some (.cells [.int .i64 (1:Nat),.ziA,.int .i64 1,.ziA] 102 true):=by simp
  have zic:=kC.le;have m4:¬n4<N:=by omega
  have m41:¬n4+1<N:=by omega
  have m6:¬n6<N:=by omega
  have m61:¬n6+1<N:=by omega
  generalize (((h6.set n6 (.cells [.int .i64 0,.ziA,.int .i64 0,.ziA] 102 true)).set (n6+1) (.cells [.int .i64 0,.ziA,.int .i64 0,.ziA] 102 true)).set n6 (.cells [.int .i64 (0:Nat),.ziA,.int .i64 1,.ziA] 102 true)).set (n6+1) (.cells [.int .i64 (1:Nat),.ziA,.int .i64 1,.ziA] 102 true)=HD at*;refine Zal [(31,38)] (fun e r st=>e=.exit 0/\aL N st.w=[]/\ah h6 n6 st.h st.n/\n6+2<=st.n/\st.h.get n6=some (.cells [.int .i64 ((zge p U B 0 1).1:Nat),.ziA,.int .i64 1,.ziA] 102 true)/\st.h.get (n6+1)=some (.cells [.int .i64 ((zge p U B 0 1).2:Nat),.ziA,.int .i64 1,.ziA] 102 true)) (fun m r st=>aL N st.w=[]/\ah h6 n6 st.h st.n/\n6+2<=st.n/\m<=B/\∃l b:Nat,(b<=2^(B-m)/\2^(B-m)<=b)/\l<=2^B/\zge p U m l b=zge p U B 0 1/\st.h.get n6=some (.cells [.int .i64 (l:Nat),.ziA,.int .i64 1,.ziA] 102 true)/\st.h.get (n6+1)=some (.cells [.int .i64 (b:Nat),.ziA,.int .i64 1,.ziA] 102 true)) B ?_ ?_ ?_
  ·exact⟨by simp[aL,m6,m61,m4,m41],kD,by show n6+2<=n6+1+1;omega,Yv5 _,0,1,by rw[Nat.sub_self];decide,tR _,rfl,gD0,gD1⟩
  ·rintro m r ⟨H,n,W⟩ hr hf ⟨hW,hK,hn6,hm,l,b,vL,lB,yd,EH,Rx⟩;simp only at hW hK hn6 EH Rx;have pN:b=2^(B-m):=by omega
   have b1':1<=b:=by rw[pN];exact vu (by decide)
   have bB:b<=2^B:=by rw[pN];exact Ywo (by decide) (by omega)
   have g7:=(hK.get n4 (by omega)).trans g67;have g8:=(hK.get (n4+1) (by omega)).trans g68;have i10:n6<n:=by omega
   have i11:n6+1<n:=by omega
   rw[cn];simp(disch:=first|(simp;done)|omega|rfl) [-getElem?_pos,A.zhg,hr,hf,EH,Rx,i10,i11,aI,aK];refine Ymf (Xbx (rv6.ai hK) R bB b1' g7 (by omega) g8 (by omega)) ?_;rintro _ hA nA kA rfl;have zhy:=(kA.get n6 i10).trans EH;have zhh:=(kA.get (n6+1) i11).trans Rx;have leA:=kA.le;have zhI:n6<nA:=by omega
   have zhm:n6+1<nA:=by omega
   have KA:=hK.trans kA;cases hs:inS p U b with
   |true=>
    have he:zge p U m l b=(l,b):=by
     cases m with
     |zero=>rfl
     |succ m=>rw[zge,aR hs]
    rw[he]at yd;simp(disch:=first|(simp;done)|omega|rfl) [-getElem?_pos,hr,hf];rw[<-yd];exact⟨hW,KA,by omega,zhy,zhh⟩
   |false=>
    cases m with
    |zero=> rw[R.big b (by rw[pN,Nat.sub_zero];exact Yv5 _)]at hs;cases hs
    |succ m=>
     rw[zge,aA (by rw[hs];decide)]at yd;simp(disch:=first|(simp;done)|omega|rfl) [-getElem?_pos,hr,hf,zhy,zhh,zhI,zhm,aI,aK];refine av (ffc (n:=2) (by decide)) ?_;rintro _ hB' nB kB' rfl;simp(disch:=first|(simp;done)|omega|rfl) [-getElem?_pos,];refine av (zhX bB) ?_;rintro _ hC' nC' kC' rfl;have e3:2*b=2^(B-m):=by rw[pN,show B-m=B-(m+1)+1 by omega,fV,iz]
     generalize 2*b=b2 at*;have kBC:=kB'.trans kC';have leC:=kBC.le;have zhi:=(kBC.get n6 zhI).trans zhy;have zhj:=(kBC.get (n6+1) zhm).trans zhh;have zhn:n6<nC':=by omega
     have zho:n6+1<nC':=by omega
     simp(disch:=first|(simp;done)|omega|rfl) [-getElem?_pos,aj,bM,hr,hf,zhi,zhj,zhn,zho,aL,m6,m61];have kz:=(((hK.trans kA).trans kBC).set (i:=n6) (o:=(.cells [.int .i64 (b:Nat),.ziA,.int .i64 1,.ziA] 102 true)) (Yv5 _)).set (i:=n6+1) (o:=(.cells [.int .i64 (b2:Nat),.ziA,.int .i64 1,.ziA] 102 true)) (by omega);exact⟨m,by omega,hW,kz,by omega,by omega,b,b2,by omega,bB,yd,by simp,by simp⟩
  rintro _ r ⟨H,n,W⟩ hr ⟨rfl,hW,hK,hn6,EH,Rx⟩;simp only at hW hK hn6 EH Rx;obtain⟨RI,hg⟩:=Xay (p:=p) (U:=U) R.big (f:=B) (l:=0) (h:=1) (Yv5 _) (by rw[Nat.sub_self]) (by decide) (by rw[Nat.sub_self];decide) (.inl rfl);have er:Xa5 p U B=Xak p U B (zge p U B 0 1).1 (zge p U B 0 1).2:=rfl;rw[er];generalize zge p U B 0 1=LH at*;obtain⟨L0,H0⟩:=LH;simp only at RI hg er EH Rx ⊢;simp(disch:=first|(simp;done)|omega|rfl) [-getElem?_pos,hr];refine Zal [(12,12),(39,56)] (fun e r st=>e=.exit 2/\aL N st.w=[]/\ah h6 n6 st.h st.n/\n6+2<=st.n/\∃l b:Nat,Xak p U B L0 H0=(l,b)/\l<=2^B/\b<=2^B/\st.h.get n6=some (.cells [.int .i64 (l:Nat),.ziA,.int .i64 1,.ziA] 102 true)/\st.h.get (n6+1)=some (.cells [.int .i64 (b:Nat),.ziA,.int .i64 1,.ziA] 102 true)) (fun m r st=>aL N st.w=[]/\ah h6 n6 st.h st.n/\n6+2<=st.n/\∃l b:Nat,l<b/\b<=2^B/\b-l<=2^m/\Xak p U m l b=Xak p U B L0 H0/\st.h.get n6=some (.cells [.int .i64 (l:Nat),.ziA,.int .i64 1,.ziA] 102 true)/\st.h.get (n6+1)=some (.cells [.int .i64 (b:Nat),.ziA,.int .i64 1,.ziA] 102 true)) B ?_ ?_ ?_
  ·exact⟨hW,hK,hn6,L0,H0,RI.lt,RI.le,hg,rfl,EH,Rx⟩
  ·rintro m r' ⟨H3,AE,W3⟩ lV rF ⟨JZ,hK3,hn3,l,b,lb,bB,bd,hbi,EH,Rx⟩;simp only at JZ hK3 hn3 EH Rx;have lB:l<=2^B:=by omega
   have g7:=(hK3.get n4 (by omega)).trans g67;have g8:=(hK3.get (n4+1) (by omega)).trans g68;have i10:n6<AE:=by omega
   have i11:n6+1<AE:=by omega
   have wl1:=wn (n:=l) (by omega);have wb1:=wn (n:=b) (by omega);rw[cn];simp(disch:=first|(simp;done)|omega|rfl) [-getElem?_pos,A.zhf,lV,rF,hr,EH,Rx,i10,i11,aI,aK];refine av (Zvo (Yz3 (n:=b) (by omega)) (Yz3 (n:=l) (by omega)) (by omega) (by omega) (by omega) (by omega)) ?_;rintro v1 hA nA kA f1;simp(disch:=first|(simp;done)|omega|rfl) [-getElem?_pos,];refine av (ffc (n:=1) (by decide)) ?_;rintro _ hB' nB kB' rfl;simp(disch:=first|(simp;done)|omega|rfl) [-getElem?_pos,];refine av (zhY (f1.ai kB') bB lb) ?_;rintro _ hC nC kC ⟨sg,rfl,CD⟩;have kAC:=(kA.trans kB').trans kC;have leC:=kAC.le;have KC:=hK3.trans kAC;have zhi:=(kAC.get n6 i10).trans EH;have zhj:=(kAC.get (n6+1) i11).trans Rx;have zhn:n6<nC:=by omega
   have zho:n6+1<nC:=by omega
   by_cases hc:l+1<b
   ·have O4:=CD.2 hc;cases m with
    |zero=>exfalso;simp at bd;omega
    |succ m=>
     rw[Xak,aA (by omega)]at hbi;simp(disch:=first|(simp;done)|omega|rfl) [-getElem?_pos,O4,lV,rF,hr,zhi,zhj,zhn,zho,aI,aK];refine av (zhZ lB bB) ?_;rintro _ hD nD kD rfl;have mB:(l+b)/2<=2^B:=by omega
     have m1:1<=(l+b)/2:=by omega
     have md1:(l+b)/2-l<=2^m:=by rw[fV]at bd;omega
     have md2:b-(l+b)/2<=2^m:=by rw[fV]at bd;omega
     have ml:l<(l+b)/2:=by omega
     have mb:(l+b)/2<b:=by omega
     have sB:l+b<=2^B+2^B:=by omega
     generalize l+b=sm at*;simp(disch:=first|(simp;done)|omega|rfl) [-getElem?_pos,];refine av (ffc (n:=2) (by decide)) ?_;rintro _ hE nE kE rfl;simp(disch:=first|(simp;done)|omega|rfl) [-getElem?_pos,];refine av (zh0 sB) ?_;rintro v2 hF nF kF f2;simp(disch:=first|(simp;done)|omega|rfl) [-getElem?_pos,];refine av (zh1 sB f2) ?_;rintro _ hG nG kG rfl;generalize sm/2=mid at*;simp(disch:=first|(simp;done)|omega|rfl) [-getElem?_pos,];refine av (whc mB) ?_;rintro _ hI nI kI rfl;have kDI:=((((kD.trans kE).trans kF).trans kG).trans kI);have leI:=kDI.le;have KI:=KC.trans kDI;have kM:ah hI nI ((hI.set nI (.cells [.int .i64 0,.ziA,.int .i64 0,.ziA] 102 true)).set nI (.cells [.int .i64 (mid:Nat),.ziA,.int .i64 1,.ziA] 102 true)) (nI+1):=(ah.refl.new _).set (Yv5 _);have gM:((hI.set nI (.cells [.int .i64 0,.ziA,.int .i64 0,.ziA] 102 true)).set nI (.cells [.int .i64 (mid:Nat),.ziA,.int .i64 1,.ziA] 102 true)).get nI=some (.cells [.int .i64 (mid:Nat),.ziA,.int .i64 1,.ziA] 102 true):=by simp
     simp(disch:=first|(simp;done)|omega|rfl) [-getElem?_pos,aj,bM];generalize (hI.set nI (.cells [.int .i64 0,.ziA,.int .i64 0,.ziA] 102 true)).set nI (.cells [.int .i64 (mid:Nat),.ziA,.int .i64 1,.ziA] 102 true)=HM at*;have KM:=KI.trans kM;have g7M:=(KM.get n4 (by omega)).trans g67;have g8M:=(KM.get (n4+1) (by omega)).trans g68;simp(disch:=first|(simp;done)|omega|rfl) [-getElem?_pos,lV,rF,hr,gM,aI,aK];refine Ymf (Xbx (rv6.ai KM) R mB m1 g7M (by omega) g8M (by omega)) ?_;rintro _ hJ nJ kJ rfl;have kMJ:=kM.trans kJ;have leJ:=kMJ.le;have gMJ:=(kJ.get nI (by omega)).trans gM;have zhz:=((kDI.trans kMJ).get n6 zhn).trans zhi;have zhA:=((kDI.trans kMJ).get (n6+1) zho).trans zhj;have iMJ:nI<nJ:=by have:=kJ.le;omega
     have zhJ:n6<nJ:=by omega
     have zhK:n6+1<nJ:=by omega
     have KJ:=KM.trans kJ;have mI:¬nI<N:=by omega
     cases hs:inS p U mid with
     |true=> rw[aR hs]at hbi;simp(disch:=first|(simp;done)|omega|rfl) [-getElem?_pos,lV,rF,hr,gMJ,zhz,zhA,iMJ,zhJ,zhK,aj,bM,aI,aK,aL,m6,m61,mI];exact⟨m,by omega,JZ,KJ.set (i:=n6+1) (o:=(.cells [.int .i64 (mid:Nat),.ziA,.int .i64 1,.ziA] 102 true)) (by omega),by omega,l,mid,ml,mB,by omega,hbi,by simp[zhz],by simp⟩
     |false=> rw[aA (by rw[hs];decide)]at hbi;simp(disch:=first|(simp;done)|omega|rfl) [-getElem?_pos,lV,rF,hr,gMJ,zhz,zhA,iMJ,zhJ,zhK,aj,bM,aI,aK,aL,m6,m61,mI];exact⟨m,by omega,JZ,KJ.set (i:=n6) (o:=(.cells [.int .i64 (mid:Nat),.ziA,.int .i64 1,.ziA] 102 true)) (by omega),by omega,mid,b,mb,bB,by omega,hbi,by simp,by simp[zhA]⟩
   have O4:=mt CD.1 hc;have he:Xak p U m l b=(l,b):=by
    cases m with
    |zero=>rfl
    |succ m=>rw[Xak,aR (by omega)]
   rw[he]at hbi;simp(disch:=first|(simp;done)|omega|rfl) [-getElem?_pos,O4,lV,rF,hr];exact⟨JZ,KC,by omega,l,b,hbi.symm,lB,bB,zhi,zhj⟩
  rintro _ r' ⟨H3,AE,W3⟩ lV ⟨rfl,JZ,hK3,hn3,l,b,hbi,lB,bB,EH,Rx⟩;simp only at JZ hK3 hn3 EH Rx;rw[hbi];have g7:=(hK3.get n4 (by omega)).trans g67;have g8:=(hK3.get (n4+1) (by omega)).trans g68;have bN:=(hK3.get N (by omega)).trans b6;have i10:n6<AE:=by omega
  have i11:n6+1<AE:=by omega
  have i8:n4+1<AE:=by omega
  have iN:N<AE:=by omega
  have wl1:=wn (n:=l) (by omega);have wb1:=wn (n:=b) (by omega);have wu:=wn (n:=U) (by omega);have wi:=(R.qu.inv R.u0).eX;simp only;generalize fO:(l:Rat)/(U:Rat)=lo at*;generalize iH:(b:Rat)/(U:Rat)=hi at*;have ql:Qb (B+11) lo:=by rw[<-fO];exact R.qx lB
  have qh:Qb (B+11) hi:=by rw[<-iH];exact R.qx bB
  simp(disch:=first|(simp;done)|omega|rfl) [-getElem?_pos,lV,hr,EH,g8,i10,i8,aI,aK];refine av (Zvr (Yz3 (n:=l) (by omega)) (Yz3 (n:=U) (by omega)) R.u0 (by omega) (by omega) (by omega) (by omega) (by omega) (by omega)) ?_;rintro _ hA nA kA ⟨y1,x1,y2,x2,rfl,s1,s2⟩;rw[fO]at s1 s2;have zhh:=(kA.get (n6+1) i11).trans Rx;have g8A:=(kA.get (n4+1) i8).trans g8;have leA:=kA.le;have zhm:n6+1<nA:=by omega
  have i8A:n4+1<nA:=by omega
  simp(disch:=first|(simp;done)|omega|rfl) [-getElem?_pos,lV,hr,zhh,g8A,zhm,i8A,aI,aK];refine av (Zvr (Yz3 (n:=b) (by omega)) (Yz3 (n:=U) (by omega)) R.u0 (by omega) (by omega) (by omega) (by omega) (by omega) (by omega)) ?_;rintro _ hB' nB kB' ⟨y3,x3,y4,x4,rfl,s3,s4⟩;rw[iH]at s3 s4;have leB:=kB'.le;have q1:=Zaj s1;have q2:=Zaj s2;have q3:=Zaj s3;have q4:=Zaj s4;unfold V.one at q1 q2 q3 q4;have kS:ah hB' nB (hB'.set nB (.cells [.int .i64 y1,x1,.int .i64 y2,x2,.int .i64 y3,x3,.int .i64 y4,x4] 102 true)) (nB+1):=ah.refl.new _;have gS:(hB'.set nB (.cells [.int .i64 y1,x1,.int .i64 y2,x2,.int .i64 y3,x3,.int .i64 y4,x4] 102 true)).get nB=some (.cells [.int .i64 y1,x1,.int .i64 y2,x2,.int .i64 y3,x3,.int .i64 y4,x4] 102 true):=by simp
  have kAS:=kB'.trans kS;have fr:=mV.Np (by omega) gS ⟨y1,x1,y2,x2,rfl,(s1.ai kAS),(s2.ai kAS)⟩ ⟨y3,x3,y4,x4,rfl,s3.ai kS,s4.ai kS⟩;simp(disch:=first|(simp;done)|omega|rfl) [-getElem?_pos,aj,q1,q2,q3,q4];generalize hB'.set nB (.cells [.int .i64 y1,x1,.int .i64 y2,x2,.int .i64 y3,x3,.int .i64 y4,x4] 102 true)=HS at*;have kK:∀q∈[lo,hi],Qb (B+11) q:=fun q hq=>by
   simp only[kV,List.not_mem_nil,or_false]at hq;rcases hq with rfl|rfl
   ·exact ql
   exact qh
  have K3:=(((K6.trans hK3).trans kA).trans kAS);have zh2:BB [lo,hi]=false:=by unfold BB;rw[List.any_eq_false];exact fun q hq=>by rw[(NC (kK q hq) (by omega)).1];decide
  refine av (Yg3 (k:=B+11) fr (hP.ai K3) (by simp) kK (by omega)) ?_;rintro _ hT nT kT hx;rcases hx with⟨hx,_⟩|⟨_,y,rfl,hy⟩
  ·rw[zh2]at hx;cases hx
  have rO:Sl hT nT y (tx [lo,hi]):=hy.1;obtain⟨i0,o0,c0,e0,rw0,w1,w2,w3,w4⟩:=rO.at (Ykf (l:=[lo,hi]) (j:=0) rfl);obtain⟨i1,o1,c1',e1,rw1,v1,v2,v3,v4⟩:=rO.at (Ykf (l:=[lo,hi]) (j:=1) rfl);have ly:=rO.len;rw[mY]at w4;rw[show (tx [lo,hi]).length=2 from rfl]at ly;rw[w1]at v1;obtain⟨rfl,rfl⟩:i0=i1/\o0=o1:=by simpa using v1
  rw[w3]at v3;obtain⟨rfl,rfl,rfl⟩:c0=c1'/\e0=e1/\rw0=rw1:=by simpa using v3
  have bT:=(((kA.trans kAS).trans kT).get N iN).trans bN;have leT:=((kA.trans kAS).trans kT).le;have iT:N<nT:=by omega
  simp(disch:=first|(simp;done)|omega|rfl) [-getElem?_pos,a_,lV,hr,ly,w1,w2,w3,w4,v4,bT,iT,aj,bM,b_.chk,aI,aK,Ret,aL,nn];exact⟨JZ,(K3.trans kT).set (Yv5 _),.inr ⟨rfl,rfl⟩⟩
 simp(disch:=first|(simp;done)|omega|rfl) [-getElem?_pos,c,a_,aj,bM,b1,lN,aI,aK,Ret,aL,nn];exact⟨K1.set (Yv5 _),.inl ⟨c,rfl⟩⟩
variable {N k:Nat} {cs:List (List V)} {h:T O}
def A.w79:=A.q Tryz.f79
def A.zgU:=A.ql A.w79 0 []
def A.b79:=(fun x0=>A.qb A.w79 [x0]) A.zgU
def A.k79:=@A.kk 79 11 [.cell 0 (some 48)] A.b79 (by kernel_rfl) rfl
structure ArC (h:T O) (N:Nat) (cs:List (List V)) (r:List Rat):Prop where
 len:cs.length=r.length
 at_:∀(j:Nat) (q:Rat),r[j]?=some q->∃c,cs[j]?=some c/\fz h N c q
def ArC.ai{h':T O}{N':Nat}{r:List Rat}(s:ArC h N cs r)(k:ah h N h' N'):ArC h' N' cs r:=⟨s.len,fun j q hq=>by
 obtain⟨c,h1,h2⟩:=s.at_ j q hq
 exact⟨c,h1,h2.ai k⟩⟩
def ArC.four{r:List Rat}(s:ArC h N cs r):∀x∈cs,x.length=4:=fun x hx=>by
 obtain⟨j,hj⟩:=Nd hx
 have hl:=yz hj
 obtain⟨c,h1,h2⟩:=s.at_ j _ (iy (by rw[<-s.len];exact hl))
 rw[hj]at h1
 obtain rfl:=rL h1
 exact h2.len.1
def Xav:∀{cs:List (List V)},(∀x∈cs,x.length=4)->cs.flatten.length=cs.length*4
 |[],_=>rfl
 |c::cs,h=>by
  have:=Xav (cs:=cs) fun x hx=>h x (oY _ hx)
  have:=h c (by simp)
  simp only[List.flatten_cons,iJ,bC]
  omega
def Xat:∀{cs:List (List V)},(∀x∈cs,x.length=4)->∀{j:Nat} {c:List V},cs[j]?=some c->aK cs.flatten (j*4) 4=some c
 |[],_,j,c,h=>by simp at h
 |c0::cs,h4,0,c,h=>by
  obtain rfl:c0=c:=by simpa using h
  have h1:=h4 c0 (by simp)
  unfold aK
  simp only[List.flatten_cons,iJ,Nat.zero_mul,oJ,h1,Au]
  rw[aR (by omega),List.take_append_of_le_length (by omega),jP (by omega)]
 |c0::cs,h4,j+1,c,h=>by
  have h1:=h4 c0 (by simp)
  have ih:=Xat (cs:=cs) (fun x hx=>h4 x (oY _ hx)) (j:=j) (c:=c) (by simpa using h)
  unfold aK at ih ⊢
  have hl:=Xav (cs:=cs) fun x hx=>h4 x (oY _ hx)
  split at ih
  ·rename_i hb
   rw[aR (by simp only[List.flatten_cons,iJ];omega)]
   simp only[au]at ih ⊢
   rw[List.flatten_cons,List.drop_append,h1,show (j+1)*4-4=j*4 by omega,List.drop_of_length_le (by omega),List.nil_append]
   exact ih
  ·cases ih
def Xa3{c:List V}{j:Nat}(h4:∀x∈cs,x.length=4)(hj:j<cs.length)(hc:c.length=4):aj cs.flatten (j*4) c=(cs.set j c).flatten:=by have:=Zt8 (cs:=cs) (B:=[]) h4 hj hc;simpa using this
def Xc0{c:List V}(h:c.length=48):aK c 0 48=some c:=by unfold aK;rw[h];simp;exact jP (by omega)
def Xbo{c d:List V}(h:c.length=48)(hd:d.length=48):aj d 0 c=c:=by unfold aj;rw[h];simp[h,hd]
def nC(n:Nat):List V:=[.int .i64 (n:Nat),.ziA,.int .i64 1,.ziA]
def Xd9:∀x∈(List.replicate k (nC 0)++List.replicate (12-k) [.int .i64 0,.ziA,.int .i64 0,.ziA]),x.length=4:=fun x hx=>by
 rcases tg.1 hx with h|h
 ·rw[(LA.1 h).2];rfl
 ·rw[(LA.1 h).2];rfl
def zR(k:Nat):List (List V):=List.replicate k (nC 0)++List.replicate (12-k) [.int .i64 0,.ziA,.int .i64 0,.ziA]
def Xbm(h:k<=12):(zR k).length=12:=by simp[zR];omega
def Xdt(h:k<12):(zR k).set k (nC 0)=zR (k+1):=by unfold zR;obtain⟨m,hm⟩:∃m,12-k=m+1:=⟨12-k-1,by omega⟩;rw[hm,show 12-(k+1)=m by omega,List.set_append_right _ _ (by simp),List.length_replicate,Nat.sub_self,Xee (n:=m),List.set_cons_zero,List.replicate_succ' (n:=k),rB];rfl
def Xb3{n:Nat}(hn:n<4611686018427387904):Fn A.C 66 [.int .i64 (n:Nat)] h N (fun v _ _=>v=.agg (nC n)):=
 Fn.imq (BI (z:=(n:Int)) (by omega) (by omega)) fun v h2 n2 hv=>Yz5 hv hn
def Xa0:Fn A.C 79 [] h N (fun v _ _=>v=.agg (zR 12).flatten):=by
 intro w;have z0:[.int .i64 0,.ziA,.int .i64 0,.ziA,.int .i64 0,.ziA,.int .i64 0,.ziA,.int .i64 0,.ziA,.int .i64 0,.ziA,.int .i64 0,.ziA,.int .i64 0,.ziA,.int .i64 0,.ziA,.int .i64 0,.ziA,.int .i64 0,.ziA,.int .i64 0,.ziA,.int .i64 0,.ziA,.int .i64 0,.ziA,.int .i64 0,.ziA,.int .i64 0,.ziA,.int .i64 0,.ziA,.int .i64 0,.ziA,.int .i64 0,.ziA,.int .i64 0,.ziA,.int .i64 0,.ziA,.int .i64 0,.ziA,.int .i64 0,.ziA,.int .i64 0,.ziA]=(zR 0).flatten:=rfl;have kB:ah h N ((h.set N (.cells [.int .i64 0,.ziA,.int .i64 0,.ziA,.int .i64 0,.ziA,.int .i64 0,.ziA,.int .i64 0,.ziA,.int .i64 0,.ziA,.int .i64 0,.ziA,.int .i64 0,.ziA,.int .i64 0,.ziA,.int .i64 0,.ziA,.int .i64 0,.ziA,.int .i64 0,.ziA,.int .i64 0,.ziA,.int .i64 0,.ziA,.int .i64 0,.ziA,.int .i64 0,.ziA,.int .i64 0,.ziA,.int .i64 0,.ziA,.int .i64 0,.ziA,.int .i64 0,.ziA,.int .i64 0,.ziA,.int .i64 0,.ziA,.int .i64 0,.ziA,.int .i64 0,.ziA] 113 true)).set (N+1) (.cells [.int .i64 0,.ziA,.int .i64 0,.ziA,.int .i64 0,.ziA,.int .i64 0,.ziA,.int .i64 0,.ziA,.int .i64 0,.ziA,.int .i64 0,.ziA,.int .i64 0,.ziA,.int .i64 0,.ziA,.int .i64 0,.ziA,.int .i64 0,.ziA,.int .i64 0,.ziA,.int .i64 0,.ziA,.int .i64 0,.ziA,.int .i64 0,.ziA,.int .i64 0,.ziA,.int .i64 0,.ziA,.int .i64 0,.ziA,.int .i64 0,.ziA,.int .i64 0,.ziA,.int .i64 0,.ziA,.int .i64 0,.ziA,.int .i64 0,.ziA,.int .i64 0,.ziA] 113 true)) (N+1+1):=(ah.refl.new _).new _;have b0:((h.set N (.cells [.int .i64 0,.ziA,.int .i64 0,.ziA,.int .i64 0,.ziA,.int .i64 0,.ziA,.int .i64 0,.ziA,.int .i64 0,.ziA,.int .i64 0,.ziA,.int .i64 0,.ziA,.int .i64 0,.ziA,.int .i64 0,.ziA,.int .i64 0,.ziA,.int .i64 0,.ziA,.int .i64 0,.ziA,.int .i64 0,.ziA,.int .i64 0,.ziA,.int .i64 0,.ziA,.int .i64 0,.ziA,.int .i64 0,.ziA,.int .i64 0,.ziA,.int .i64 0,.ziA,.int .i64 0,.ziA,.int .i64 0,.ziA,.int .i64 0,.ziA,.int .i64 0,.ziA] 113 true)).set (N+1) (.cells [.int .i64 0,.ziA,.int .i64 0,.ziA,.int .i64 0,.ziA,.int .i64 0,.ziA,.int .i64 0,.ziA,.int .i64 0,.ziA,.int .i64 0,.ziA,.int .i64 0,.ziA,.int .i64 0,.ziA,.int .i64 0,.ziA,.int .i64 0,.ziA,.int .i64 0,.ziA,.int .i64 0,.ziA,.int .i64 0,.ziA,.int .i64 0,.ziA,.int .i64 0,.ziA,.int .i64 0,.ziA,.int .i64 0,.ziA,.int .i64 0,.ziA,.int .i64 0,.ziA,.int .i64 0,.ziA,.int .i64 0,.ziA,.int .i64 0,.ziA,.int .i64 0,.ziA] 113 true)).get N=some (.cells (zR 0).flatten 113 true):=by simp[z0]
 have b1:((h.set N (.cells [.int .i64 0,.ziA,.int .i64 0,.ziA,.int .i64 0,.ziA,.int .i64 0,.ziA,.int .i64 0,.ziA,.int .i64 0,.ziA,.int .i64 0,.ziA,.int .i64 0,.ziA,.int .i64 0,.ziA,.int .i64 0,.ziA,.int .i64 0,.ziA,.int .i64 0,.ziA,.int .i64 0,.ziA,.int .i64 0,.ziA,.int .i64 0,.ziA,.int .i64 0,.ziA,.int .i64 0,.ziA,.int .i64 0,.ziA,.int .i64 0,.ziA,.int .i64 0,.ziA,.int .i64 0,.ziA,.int .i64 0,.ziA,.int .i64 0,.ziA,.int .i64 0,.ziA] 113 true)).set (N+1) (.cells [.int .i64 0,.ziA,.int .i64 0,.ziA,.int .i64 0,.ziA,.int .i64 0,.ziA,.int .i64 0,.ziA,.int .i64 0,.ziA,.int .i64 0,.ziA,.int .i64 0,.ziA,.int .i64 0,.ziA,.int .i64 0,.ziA,.int .i64 0,.ziA,.int .i64 0,.ziA,.int .i64 0,.ziA,.int .i64 0,.ziA,.int .i64 0,.ziA,.int .i64 0,.ziA,.int .i64 0,.ziA,.int .i64 0,.ziA,.int .i64 0,.ziA,.int .i64 0,.ziA,.int .i64 0,.ziA,.int .i64 0,.ziA,.int .i64 0,.ziA,.int .i64 0,.ziA] 113 true)).get (N+1)=some (.cells (zR 0).flatten 113 true):=by simp[z0]
 rw[aZ,A.k79 (by simp)];simp(disch:=first|(simp;done)|omega|rfl) [-getElem?_pos,A.b79];generalize (h.set N (.cells [.int .i64 0,.ziA,.int .i64 0,.ziA,.int .i64 0,.ziA,.int .i64 0,.ziA,.int .i64 0,.ziA,.int .i64 0,.ziA,.int .i64 0,.ziA,.int .i64 0,.ziA,.int .i64 0,.ziA,.int .i64 0,.ziA,.int .i64 0,.ziA,.int .i64 0,.ziA,.int .i64 0,.ziA,.int .i64 0,.ziA,.int .i64 0,.ziA,.int .i64 0,.ziA,.int .i64 0,.ziA,.int .i64 0,.ziA,.int .i64 0,.ziA,.int .i64 0,.ziA,.int .i64 0,.ziA,.int .i64 0,.ziA,.int .i64 0,.ziA,.int .i64 0,.ziA] 113 true)).set (N+1) (.cells [.int .i64 0,.ziA,.int .i64 0,.ziA,.int .i64 0,.ziA,.int .i64 0,.ziA,.int .i64 0,.ziA,.int .i64 0,.ziA,.int .i64 0,.ziA,.int .i64 0,.ziA,.int .i64 0,.ziA,.int .i64 0,.ziA,.int .i64 0,.ziA,.int .i64 0,.ziA,.int .i64 0,.ziA,.int .i64 0,.ziA,.int .i64 0,.ziA,.int .i64 0,.ziA,.int .i64 0,.ziA,.int .i64 0,.ziA,.int .i64 0,.ziA,.int .i64 0,.ziA,.int .i64 0,.ziA,.int .i64 0,.ziA,.int .i64 0,.ziA,.int .i64 0,.ziA] 113 true)=HB at*;have lz:∀k,k<=12->(zR k).flatten.length=48:=fun k hk=>by have:=Xav (cs:=zR k) Xd9;rw[Xbm hk]at this;exact this
 have n0:¬N+1<N:=by omega
 refine Zal [(2,9)] (fun e r st=>e=.exit 0/\aL N st.w=[]/\ah HB (N+1) st.h st.n/\N+2<=st.n/\st.h.get (N+1)=some (.cells (zR 12).flatten 113 true)) (fun m r st=>aL N st.w=[]/\ah HB (N+1) st.h st.n/\N+2<=st.n/\∃k:Nat,k+m=12/\r.get 3=some (.int .i64 k)/\st.h.get (N+1)=some (.cells (zR k).flatten 113 true)) 12 ?_ ?_ ?_
 ·exact⟨by simp,ah.refl.up (xS _),by show N+2<=N+1+1;omega,0,by omega,by simp,b1⟩
 ·rintro m r ⟨H,n,W⟩ hr hf ⟨hW,hK,hn,k,hk,h3,g1⟩;simp only at hW hK hn g1;rw[cn];have Nx:=hK.le;by_cases hc:k<12
  ·have Jp:(k:Int)<12:=by omega
   simp(disch:=first|(simp;done)|omega|rfl) [-getElem?_pos,A.zgU,hr,hf,h3,Jp];refine av (Xb3 (n:=0) (by decide)) ?_;rintro _ h4 n4 k4 rfl;have le4:=k4.le;have g14:=(k4.get (N+1) (by omega)).trans g1;have i1:N+1<n4:=by omega
   have sp:=Xa3 (cs:=zR k) (c:=nC 0) (j:=k) Xd9 (by rw[Xbm (by omega)];exact hc) rfl;rw[Xdt hc]at sp;have lk:=lz k (by omega);have sp':aj (zR k).flatten (k*4) [.int .i64 0,.ziA,.int .i64 1,.ziA]=(zR (k+1)).flatten:=sp;have k44:k*4<=44:=by omega
   have k0:(0:Int)<=(k:Int):=by omega
   have kt:(k:Int).toNat=k:=by omega
   simp(disch:=first|(simp;done)|omega|rfl) [-getElem?_pos,hr,hf,h3,Jp,k0,kt,g14,i1,bM,sp',lk,k44,nC,aL,n0];exact⟨m-1,by omega,hW,(hK.trans k4).set (by omega),by omega,k+1,by omega,by simp,by simp⟩
  have Jp:¬(k:Int)<12:=by omega
  obtain rfl:k=12:=by omega
  simp(disch:=first|(simp;done)|omega|rfl) [-getElem?_pos,A.zgU,hr,hf,h3];exact⟨hW,hK,hn,g1⟩
 rintro _ r ⟨H,n,W⟩ hr ⟨rfl,hW,hK,hn,g1⟩;simp only at hW hK hn g1;have g0:=(hK.get N (by omega)).trans b0;have i0:N<n:=by omega
 have i1:N+1<n:=by omega
 have l12:=lz 12 (by decide);have l0:=lz 0 (by decide);have s1:=Xc0 l12;have s2:=Xbo l12 l0;have nn:¬N<N:=by omega
 have oz:(zR 12).flatten.all V.one=true:=by rfl
 have lO:∀c:List V,(V.agg c).cells=c:=fun _=>rfl;clear lz z0;generalize (zR 12).flatten=Z at*;generalize (zR 0).flatten=Z0 at*;simp(disch:=first|(simp;done)|omega|rfl) [-getElem?_pos, -V.cells, -V.one,lO,hr,g0,g1,i0,i1,l12,l0,s1,s2,oz,bM,aI,Ret,aL,nn];have k_:ah HB N H n:=⟨by have:=hK.le;omega,fun i hi=>hK.get i (by omega)⟩;exact⟨hW,(kB.then k_).set (Yv5 _)⟩
end
end Go.Mx
