/-A circle that contains all roots-/
import Derived.Test.YtlbnjhhebffhdaaGreatDoorXbE
set_option linter.all false
set_option maxHeartbeats 8000000
namespace Go.Mx
open Go Go.Proofs
variable {K:Nat} {x:Rat}
set_option maxRecDepth 1000000
def Xb0{q:Rat}:q*((q.den:Nat):Rat)=((q.num:Int):Rat)/\(1:Rat)<=((q.den:Nat):Rat):=by
 have rW:(1:Rat)<=((q.den:Nat):Rat):=by have:((1:Nat):Rat)<=((q.den:Nat):Rat):=Rat.natCast_le_natCast.2 q.den_pos;exact this
 have h0:=AA q;rw[Rat.divInt_eq_div]at h0;have hd:((q.den:Nat):Rat)≠0:=fun h=>by rw[h]at rW;exact absurd rW (by decide)
 have h2:=Rat.div_mul_cancel (a:=((q.num:Int):Rat)) hd;refine⟨?_,rW⟩;conv=>lhs;lhs;rw[<-h0]
 exact h2
def Xdr{n:Nat}:zgb ((n:Nat):Rat)=((n:Nat):Rat):=by have:((0:Nat):Rat)<=((n:Nat):Rat):=Rat.natCast_le_natCast.2 (tR _);have z:((0:Nat):Rat)=0:=rfl;unfold zgb;rw[aA (by rw[<-z];exact Rat.not_lt.2 this)]
def Xb8{q:Rat}:zgb q*((q.den:Nat):Rat)=((q.num.natAbs:Nat):Rat):=by
 obtain⟨h1,h2⟩:=@Xb0 q;have h3:zgb (q*((q.den:Nat):Rat))=zgb q*((q.den:Nat):Rat):=by rw[BJ,Xdr]
 rw[<-h3,h1];unfold zgb;by_cases c:q.num<0
 ·have e:((q.num.natAbs:Nat):Int)= -q.num:=by omega
  have e2:((q.num.natAbs:Nat):Rat)=(((q.num.natAbs:Nat):Int):Rat):=rfl;rw[e2,e,Rat.intCast_neg,aR];have:((q.num:Int):Rat)<((0:Int):Rat):=Rat.intCast_lt_intCast.2 c;exact this
 have e:((q.num.natAbs:Nat):Int)=q.num:=by omega
 have e2:((q.num.natAbs:Nat):Rat)=(((q.num.natAbs:Nat):Int):Rat):=rfl;rw[e2,e,aA];have:((0:Int):Rat)<=((q.num:Int):Rat):=Rat.intCast_le_intCast.2 (by omega);exact Rat.not_lt.2 this
def Xb9{q:Rat}(h:Qb K q):zgb q<=((2^K:Nat):Rat):=by have h1:=@Xb8 q;have h2:=(@Xb0 q).2;have h3:((q.num.natAbs:Nat):Rat)<=((2^K:Nat):Rat):=Rat.natCast_le_natCast.2 (Nat.le_of_lt h.1);have h4:=iK (@Zb2 q) h2;generalize ((2^K:Nat):Rat)=M at*;grind
def Xca{q:Rat}(h:Qb K q)(h0:q≠0):1<=zgb q*((2^K:Nat):Rat):=by have h1:=@Xb8 q;have h3:((q.den:Nat):Rat)<=((2^K:Nat):Rat):=Rat.natCast_le_natCast.2 (Nat.le_of_lt h.2);have h4:=iK (@Zb2 q) h3;have h5:((1:Nat):Rat)<=((q.num.natAbs:Nat):Rat):=Rat.natCast_le_natCast.2 (by have:q.num≠0:=fun hc=>h0 (Rat.num_eq_zero.1 hc);omega);have h6:((1:Nat):Rat)=1:=rfl;generalize ((2^K:Nat):Rat)=M at*;grind
def Xam{x:Rat}(hx:1<=x):∀{k:Nat},0<pwR x k
 |0=>by rw[pwR];decide
 |k+1=>by
  rw[pwR]
  exact Rat.mul_pos (Xam hx) (by grind)
def Xbw{x:Rat}(hx:1<=x):∀{m k:Nat},k<=m->pwR x k<=pwR x m
 |0,k,h=>by
  obtain rfl:k=0:=by omega
  exact Rat.le_refl
 |m+1,k,h=>by
  by_cases e:k=m+1
  ·rw[e];exact Rat.le_refl
  ·have h1:=Xbw hx (m:=m) (k:=k) (by omega)
   have h2:=iK (Rat.le_of_lt (Xam hx (k:=m))) hx
   rw[pwR]
   grind
def Lp{c:Rat}:∀{n:Nat},sR (fun _=>c) n=(n:Rat)*c
 |0=>by
  show (0:Rat)=((0:Nat):Rat)*c
  rw[show ((0:Nat):Rat)=0 from rfl,Rat.zero_mul]
 |n+1=>by
  have ih:=Lp (c:=c) (n:=n)
  show sR (fun _=>c) n+c=_
  rw[ih,Rat.natCast_add,show ((1:Nat):Rat)=1 from rfl]
  grind
def Xcu{p:List Rat}{k:Nat}(hk:k<p.length):pg (Xae p x) k=pg p k*pwR x k:=by have e:=Xag (x:=x) (iy (p:=p) (i:=k) hk);unfold pg at e ⊢;rw[e];rfl
def Xc1{p:List Rat}{d:Nat}(hl:p.length=d+1)(hd:1<=d)(hz:pg p d≠0)(hq:∀y∈p,Qb K y)(x1:1<=x)(hx:(d:Rat)*(((2^K:Nat):Rat)*((2^K:Nat):Rat))<x):mW (d+1) (Xae p x)=true:=by
 obtain⟨e,rfl⟩:∃e,d=e+1:=⟨d-1,by omega⟩;refine Xbb (by rw[Yz1,hl]) ?_;have bz:=Xca (hq _ (eI (iy (p:=p) (i:=e+1) (by omega)))) hz;have hM:(1:Rat)<=((2^K:Nat):Rat):=by have:((1:Nat):Rat)<=((2^K:Nat):Rat):=Rat.natCast_le_natCast.2 (vu (by decide));exact this
 have hP:=Xam x1 (k:=e);have h1:sR (fun k=>zgb (pg (Xae p x) k)) (e+1)<=sR (fun _=>((2^K:Nat):Rat)*pwR x e) (e+1):=Lo fun k hk=>by rw[Xcu (by omega),BJ];have a1:=Xb9 (hq _ (eI (iy (p:=p) (i:=k) (by omega))));have a2:zgb (pwR x k)=pwR x k:=aA (by have:=Xam x1 (k:=k);grind);have a3:=Xbw x1 (m:=e) (k:=k) (by omega);have a4:=iK (Rat.le_of_lt (Xam x1 (k:=k))) a1;have a5:=iK (d:=((2^K:Nat):Rat)) (by grind) a3;rw[a2];generalize ((2^K:Nat):Rat)=M at*;grind
 rw[Lp]at h1;have e2:zgb (pg (Xae p x) (e+1))=zgb (pg p (e+1))*(pwR x e*x):=by have a2:zgb (pwR x (e+1))=pwR x (e+1):=aA (by have:=Xam x1 (k:=e+1);grind);rw[Xcu (by omega),BJ,a2,pwR]
 rw[e2];have hA:=@Zb2 (pg p (e+1));generalize zgb (pg p (e+1))=A at*;generalize ((e+1:Nat):Rat)=D at*;generalize ((2^K:Nat):Rat)=M at*;generalize pwR x e=P at*;have s1:D*M<A*x:=by
  have t1:D*M*M<A*x*M:=by have u1:=iK (d:=x) (by grind) bz;grind
  apply Rat.not_le.1;intro hc;have:=iK (d:=M) (by grind) hc;grind
 have s2:=Rat.mul_pos (show (0:Rat)<A*x-D*M by grind) hP;grind
def Xda{p:List Rat}{B U n:Nat}(l1:2<=p.length)(hz:pg p (p.length-1)≠0)(hq:∀y∈p,Qb K y)(hU:1<=U)(hB:(p.length-1)*(2^K*2^K)*U<2^B)(hn:2^B<=n):inS p U n=true:=by
 obtain⟨d,hd⟩:∃d,p.length=d+1:=⟨p.length-1,by omega⟩;unfold inS;rw[hd,Nat.add_sub_cancel]at hz hB;rw[hd];have u0:(0:Rat)<((U:Nat):Rat):=by have:((0:Nat):Rat)<((U:Nat):Rat):=Rat.natCast_lt_natCast.2 hU;exact this
 have hx:(d:Rat)*(((2^K:Nat):Rat)*((2^K:Nat):Rat))<(n:Rat)/(U:Rat):=by have h1:((d*(2^K*2^K)*U:Nat):Rat)<((n:Nat):Rat):=Rat.natCast_lt_natCast.2 (by omega);rw[Rat.natCast_mul,Rat.natCast_mul,Rat.natCast_mul]at h1;have h2:=Rat.div_mul_cancel (a:=((n:Nat):Rat)) (b:=((U:Nat):Rat)) (by grind);apply Rat.not_le.1;intro hc;have:=iK (Rat.le_of_lt u0) hc;grind
 have zK:(1:Rat)<=(n:Rat)/(U:Rat):=by have h3:((1:Nat):Rat)<=((d*(2^K*2^K):Nat):Rat):=Rat.natCast_le_natCast.2 (xM (by omega) (xM (vu (by decide)) (vu (by decide))));rw[Rat.natCast_mul,Rat.natCast_mul]at h3;have h4:((1:Nat):Rat)=1:=rfl;grind
 exact Xc1 hd (by omega) hz hq zK hx
noncomputable def A.b91:=A.q Tryz.f91
def A.k91:=@A.kk 91 9 [.tmp 2] A.b91 (by kernel_rfl) rfl
noncomputable def A.b22:=A.q Tryz.f22
def A.c22:A.F 22=some ⟨30,[.tmp 8],A.b22⟩:=by kernel_rfl
def A.k22:=@A.kk 22 _ _ _ A.c22 rfl
def Xcm{h:T O}{N:Nat}{lo hi:Rat}(q1:(Zao lo).length<1000000000)(q2:(Zao hi).length<1000000000)(hb:BB [lo,hi]=false):Fn A.C 91 [.agg [.str (Zao lo),.str (Zao hi)]] h N (fun u _ _=>u=.int .i64 0):=by
 intro w;have kB:ah h N ((h.set N (.cells [.str (Zao lo),.str (Zao hi)] 32 true)).set (N+1) (.cells [.str (Zao lo),.str (Zao hi)] 30 true)) (N+1+1):=(ah.refl.new _).new _;have s0:Tx ((h.set N (.cells [.str (Zao lo),.str (Zao hi)] 32 true)).set (N+1) (.cells [.str (Zao lo),.str (Zao hi)] 30 true)) (N+1+1) (.slice (N+1) 0 2 (some 2) 1) [lo,hi]:=Sl.row (e:=30) (rw:=true) (cp:=some 2) (by omega) (by simp[tx,strs]) rfl (by simp);have hL:=fun w=>Xdn (w:=w) s0 (by simp) (fun q hq=>by
  simp at hq
  rcases hq with rfl|rfl
  ·exact q1
  ·exact q2);simp only[hb,gj,if_false]at hL;rw[aZ,A.k91 (by simp)];simp(disch:=first|(simp;done)|omega|rfl) [-getElem?_pos,A.b91,aj,hL,Ret];exact kB
def Xd1{a b:bj}:tC false (.node [(0,none,.zgf .str),(1,none,.zgf .str)]) (.agg [.str a,.str b]) (.agg [.str a,.str b])=some true:=by simp[tC,NZ,aI,a_]
def Xbp{h:T O}{N:Nat}{m e:V}{E:Int}{lo hi:Rat}{a b:bj}(hx:Xcw (.aX [m,e]) E lo hi)(hw:E=0->a=Zao lo/\b=Zao hi/\BB [lo,hi]=false/\(Zao lo).length<1000000000/\(Zao hi).length<1000000000):Fn A.C 22 [m,e,.int .i64 E,.agg [.str a,.str b]] h N (fun u _ _=>u=.bool true):=by
 intro w;rw[aZ,A.k22 (by simp)];rcases hx with⟨c,hx⟩|⟨c,hx⟩
 ·simp only[V.aX.injEq,iA,and_true]at hx;obtain⟨rfl,rfl⟩:=hx;simp(disch:=first|(simp;done)|omega|rfl) [-getElem?_pos,A.b22,c,a_,Xd1,aI,aK,Ret];exact(ah.refl.new _).new _
 simp only[V.aX.injEq,iA,and_true]at hx;obtain⟨rfl,rfl⟩:=hx;obtain⟨rfl,rfl,hb,q1,q2⟩:=hw c;subst c;simp(disch:=first|(simp;done)|omega|rfl) [-getElem?_pos,A.b22,a_,aI,aK];refine av (Xcm q1 q2 hb) ?_;rintro _ h1 n1 k1 rfl;have kB:ah h N ((h.set N (.cells [.str (Zao lo),.str (Zao hi)] 32 true)).set (N+1) (.cells [.str (Zao lo),.str (Zao hi)] 32 true)) (N+1+1):=(ah.refl.new _).new _;have xF:=k1.le;have g0:=k1.get N (by omega);have g1:=k1.get (N+1) (by omega);simp at g0 g1;have i0:N<n1:=by omega
 have i1:N+1<n1:=by omega
 simp(disch:=first|(simp;done)|omega|rfl) [-getElem?_pos,a_,g0,g1,i0,i1,Xd1,aI,aK,Ret];exact kB.trans k1
noncomputable def A.b21:=A.q Tryz.f21
def A.c21:A.F 21=some ⟨25,[.tmp 8],A.b21⟩:=by kernel_rfl
def A.k21:=@A.kk 21 _ _ _ A.c21 rfl
def Xdp{a e:V}{E:Int}{b c:Bool}{st:St}(hx:V.aX [a,e]=Dl E b)(hc:E=0->c=b):A.C.call (.func 21 [] []) [a,e,.int .i64 E,.bool c] st=some (.bool true,st):=by
 apply Call.eq;unfold Dl at hx;rw[aZ,A.k21 (by simp)];by_cases h:E=0
 ·subst h;obtain rfl:=hc rfl;simp only[V.aX.injEq,iA,and_true,ne_eq,not_true_eq_false,if_false]at hx;obtain⟨rfl,rfl⟩:=hx;simp(disch:=first|(simp;done)|omega|rfl) [-getElem?_pos,A.b21,a_]
 rw[aR h]at hx;simp only[V.aX.injEq,iA,and_true]at hx;obtain⟨rfl,rfl⟩:=hx;simp(disch:=first|(simp;done)|omega|rfl) [-getElem?_pos,A.b21,a_,h]
def Dl.two{x:V}{E:Int}{b:Bool}(h:x=Dl E b):∃a e,x=.aX [a,e]:=by unfold Dl at h;split at h<;>exact⟨_,_,h⟩
variable {H:T O} {M:Nat} {a:List bj} {n:Int}
def A.zg6:cC:=.seq (sr [mv 91 16,ei 92 91 0] (cd 92 (.fk [mv 93 0,mv 94 2,c2 95 20 93 94,mv 18 95]) (.skip))) (sr [mv 96 8,mv 97 9,mv 98 7,mv 99 14,ge 100 (.call (fq 21) [tq 96,tq 97,tq 98,tq 99]),mv 101 100,gy 102 101 (.load (some 2) (tq 10)),mg 103 11 101,mg 104 15 101,gy 105 101 (.load (some 2) (tq 17)),gy 106 101 (.call (fq 22) [tq 102,tq 103,tq 104,tq 105]),pf 107 101 106,mv 108 107,mg 109 12 108,mg 110 13 108,mg 111 16 108,mg 112 18 108,gy 113 108 (.call (fq 23) [tq 109,tq 110,tq 111,tq 112]),pf 114 108 113,mv 6 114] (.ret))
def A.zg7:cC:=sr [ge 17 (.alloc [(.str []),(.str [])] 32)] (sr [ge 18 (.kv (.const (.str [])))] (.seq (sr [mv 86 15,ei 87 86 0] (cd 87 (.fk [mv 88 0,mv 89 1,c2 90 19 88 89,gn (.store 2 (tq 17) (tq 90))]) (.skip)))
 A.zg6))
def A.zhk:cC:=sr [mv 68 7,mv 69 1,ge 70 (.call (fq 17) [tq 69,.const (.int .i64 1),.const (.int .i64 3)]),mv 71 0,ln 72 71,ei 73 72 1,ge 74 (.call (fq 18) [tq 73,.const (.int .i64 7)]),ge 75 (.kb 3 1 3 [.int .i64 0,.int .i64 0,.int .i64 0] [(0,1,(tq 68)),(1,1,(tq 70)),(2,1,(tq 74))]),c1 76 16 75,mv 15 76] (sr [mv 77 7,mv 78 2,ge 79 (.call (fq 17) [tq 78,.const (.int .i64 0),.const (.int .i64 32)]),mv 80 0,ln 81 80,ei 82 81 1,ge 83 (.call (fq 18) [tq 82,.const (.int .i64 7)]),ge 84 (.kb 3 1 3 [.int .i64 0,.int .i64 0,.int .i64 0] [(0,1,(tq 77)),(1,1,(tq 79)),(2,1,(tq 83))]),c1 85 16 84,mv 16 85]
 A.zg7)
def A.zg8:cC:=sr [ge 14 (.kv (.const (.bool false)))] (.seq (sr [mv 64 7,ei 65 64 0] (cd 65 (.fk [mv 66 0,c1 67 15 66,mv 14 67]) (.skip)))
 A.zhk)
def A.zhl:cC:=sr [mv 45 0,c1 46 12 45,c1 47 11 46,mv 44 47,xt 48 44 0,xt 49 44 1,mv 8 48,mv 9 49] (sr [mv 51 0,c1 52 12 51,mv 53 1,c2 54 13 52 53,mv 50 54,xt 55 50 0,xt 56 50 1,ge 10 (.alloc [(.str []),(.str [])] 32),gn (.store 2 (tq 10) (tq 55)),mv 11 56] (sr [mv 58 0,c1 59 12 58,mv 60 2,c2 61 14 59 60,mv 57 61,xt 62 57 0,xt 63 57 1,mv 12 62,mv 13 63]
 A.zg8))
def A.b3:cC:=sr [ge 6 (.kv (.const (.bool false)))] (.seq (sr [ge 19 (.call (fq 7) []),ge 20 (.un .not (tq 19)),mv 21 20,mh 22 0 21,gz 23 21 (.call (fq 8) [tq 22,.const (.int .i64 6),.const (.int .i64 13)]),gz 24 21 (.un .not (tq 23)),pt 25 21 24,mv 26 25,mh 27 2 26,gz 28 26 (.bin .gtr (.node []) false (tq 27) (kq 8)),mh 29 28 26,mg 30 2 29,gy 31 29 (.bin .leq (.node []) false (tq 30) (kq 32)),gz 32 26 (.pick (tq 29) (tq 31) (.const (.bool false))),pt 33 26 32] (cd 33 (sr [ge 34 (.call (fq 7) []),mv 6 34] (.ret)) (.skip))) (sr [mv 35 0,c1 36 9 35,mv 7 36] (.seq (sr [mv 37 7,ei 38 37 0,mv 39 38,mg 40 0 39,gy 41 39 (.call (fq 10) [tq 40,.const (.int .i64 6),.const (.int .i64 4)]),gy 42 39 (.un .not (tq 41)),pf 43 39 42] (cd 43 (sr [ge 6 (.kv (.const (.bool true)))] (.ret)) (.skip)))
 A.zhl)))
def A.c3:A.F 3=some ⟨115,[.tmp 6],A.b3⟩:=by kernel_rfl
def A.k3:=@A.kk 3 _ _ _ A.c3 rfl
def Xcx(M:Nat)(e:Ex)(fr:Fr)(st:St)(H:T O)(n:Nat):Prop:=e=.ret/\∃r,fr=⟨r,115,[]⟩/\r.get 6=some (.bool true)/\aL M st.w=[]/\ah H n st.h st.n
def Xcx.trans{H2:T O}{n n2:Nat}{e:Ex}{fr:Fr}{st:St}(s:Xcx M e fr st H2 n2)(k:ah H n H2 n2):Xcx M e fr st H n:=by obtain⟨h1,r,h2,h3,h4,h5⟩:=s;exact⟨h1,r,h2,h3,h4,k.trans h5⟩
structure StH (a:List bj) (n:Int):Prop where
 la:a.length<=15
 fa:∀s∈a,s.length<=40
 f:ks a=0->wO a 6 4=true
 n:n<=8\/32<n
def Xco{l:List bj}{n:Nat}(h:wO l n 4=true):l.length<=n/\∀q∈ziB l,Qb 14 q:=by simp only[wO,jc,decide_eq_true_eq,uv]at h;refine⟨h.1,fun q hq=>?_⟩;obtain⟨s,hs,rfl⟩:=vo.1 hq;exact(Xea (h.2 s hs)).2.2
def Xd3{e:Int}(c:Yz7 a e=0):ks a=0/\e=0/\a.length≠1:=by
 unfold Yz7 at c;by_cases x:ks a=0
 ·rw[cN,aR x]at c;by_cases y:e=0
  ·rw[cN,aR y]at c;by_cases w:a.length=1
   ·rw[aR w,cN,aA (by decide)]at c;omega
   exact⟨x,y,w⟩
  rw[cN,aA y]at c;exact absurd c y
 rw[cN,aA x]at c;exact absurd c x
def StH.rad{z:Int}(L:StH a n)(c:Yz7 a (RY z)=0):RdH (ziB a) 14 44 (10^z.toNat) z.toNat/\z=(z.toNat:Int):=by
 obtain⟨c1,c2,c3⟩:=Xd3 c;obtain⟨a0,a1,a2,a3⟩:=Yti c1;obtain⟨f1,f2⟩:=Xco (L.f c1);have lra:=@Yht a;have hz:1<=z/\z<=3:=by
  unfold RY at c2;split at c2
  ·omega
  rename_i hc;omega
 have ub:=Ybt (dec:=z.toNat) (by omega);rw[<-lra]at a0 a1 a3 c3 f1;have p5:5^((ziB a).length-1)<=5^5:=Ywo (by decide) (by omega);have e5:(5:Nat)^5=3125:=by decide
 have kk:(14+((ziB a).length*(44+11)+1))*5^((ziB a).length-1)<=345*3125:=tU (by omega) (by omega);have e28:(2:Nat)^14*2^14=268435456:=by decide
 have e44:(2:Nat)^44=17592186044416:=by decide
 refine⟨⟨by omega,by omega,a3,f2,by decide,by omega,by decide,fun m hm=>Xda (K:=14) (by omega) a3 f2 ub.2 ?_ hm,rfl,by omega⟩,by omega⟩;rw[e28,e44];have:=tU (tU (show (ziB a).length-1<=5 by omega) (Yv5 268435456)) ub.1;omega
def StH.dec(L:StH a n)(c:Yz7 a (Xal n)=0):(∀y∈ziB a,Qb 14 y)/\(14:Nat)<=100/\n<=8:=by
 obtain⟨c1,c2,c3⟩:=Xd3 c;refine⟨(Xco (L.f c1)).2,by decide,?_⟩;rcases L.n with h|h
 ·exact h
 unfold Xal at c2;rw[aR (.inr h)]at c2;omega
def Xcb(a:List bj)(z:Int):Rat:=((Xa5 (ziB a) (10^z.toNat) 44).1:Rat)/((10^z.toNat:Nat):Rat)
def Xcc(a:List bj)(z:Int):Rat:=((Xa5 (ziB a) (10^z.toNat) 44).2:Rat)/((10^z.toNat:Nat):Rat)
def StH.rqb{z:Int}(L:StH a n)(c:Yz7 a (RY z)=0):Qb 55 (Xcb a z)/\Qb 55 (Xcc a z):=by obtain⟨R,_⟩:=L.rad c;obtain⟨RI,hl⟩:=Xdz R.big;have h1:=RI.le;have h2:=RI.lt;exact⟨R.qx (by omega),R.qx h1⟩
def Xct{N C P:Nat}{W:List Nat}{r:T V}{u b e m1 m2 e2 d e3:V}{w1 w2:bj}{sb:Bool}{z:Int}(L:StH a n)(hu:Sl H N u (strs a))(hS:V.aX [b,e]=Dl (ks a) (mW a.length (ziB a)))(JF:ks a=0->sb=mW a.length (ziB a))(hR:Xcw (.aX [.agg [m1,m2],e2]) (Yz7 a (RY z)) (Xcb a z) (Xcc a z))(hw:Yz7 a (RY z)=0->w1=Zao (Xcb a z)/\w2=Zao (Xcc a z)/\BB [Xcb a z,Xcc a z]=false/\(Zao (Xcb a z)).length<1000000000/\(Zao (Xcc a z)).length<1000000000)(hD:Yvu (.aX [d,e3]) (Yz7 a (Xal n)) (Xab (ziB a) n.toNat (a.length-1)))(hC:H.get C=some (.cells [m1,m2] 32 true))(hCN:C<N)(hP:H.get P=some (.cells [.str w1,.str w2] 32 true))(hPN:P<N)(hW:aL M W=[])(hMN:M<=N)(r0:r.get 0=some u)(r1:r.get 1=some (.int .i64 z))(r2:r.get 2=some (.int .i64 n))(r7:r.get 7=some (.int .i64 (ks a)))(r8:r.get 8=some b)(r9:r.get 9=some e)(oh:r.get 10=some (.ptr C 0))(r11:r.get 11=some e2)(Qv:r.get 12=some d)(tL:r.get 13=some e3)(ME:r.get 14=some (.bool sb))(r15:r.get 15=some (.int .i64 (Yz7 a (RY z))))(r16:r.get 16=some (.int .i64 (Yz7 a (Xal n))))(r17:r.get 17=some (.ptr P 0))(r18:r.get 18=some (.str [])):
  Code A.C none A.zg6 ⟨r,115,[]⟩ ⟨H,N,W⟩ (fun e fr st=>Xcx M e fr st H N):=by
 rw[cn];have hF:=fun st=>Xdp (st:=st) (c:=sb) hS JF;by_cases c:Yz7 a (Xal n)=0
 ·obtain⟨D1,D2,D3⟩:=L.dec c;obtain⟨c1,c2,c3⟩:=Xd3 c;obtain⟨a0,a1,a2,a3⟩:=Yti c1;have ta:=Ymk a2;have lra:=@Yht a;have NK:pg (ziB a) ((ziB a).length-1)≠0:=by rw[lra];exact a3
  have hut:Tx H N u (ziB a):=by unfold Tx;rw[<-ta];exact hu
  obtain⟨m,rfl⟩:∃m:Nat,n=(m:Int):=⟨n.toNat,by
   unfold Xal at c2
   split at c2
   ·omega
   ·rename_i hc;omega⟩;rw[c,Int.toNat_natCast]at hD;rw[c]at r16;have bD:∃K,K<=10000000/\Qb K (Xab (ziB a) m (a.length-1)):=by
   have h1:=Xbd (j:=14) (n:=m);have h2:(2*14+2)*2^m<=30*2^8:=tU (by omega) (Ywo (by decide) (by omega));have h3:30*2^8=7680:=by decide
   refine⟨1+(a.length-1)*(Yz4 14 m+Yz4 14 m+1),?_,Xax (by omega) fun i'=>?_⟩
   ·have:=tU (show a.length-1<=12 by omega) (show Yz4 14 m+Yz4 14 m+1<=15361 by omega);omega
   unfold Xcl;rw[lra];exact Xaf (Yz9 D1 (by omega) (by omega) NK) (by rw[Yz2];omega)
  obtain⟨K,hK,qD⟩:=bD;have tD:=SN qD;have rd:=fun (h':T O) (n':Nat) (hk:ah H N h' n')=>Xc7 (n:=m) (hut.ai hk) (by omega) (by omega) NK D1 (by decide) (by decide) (by omega);rw[lra]at rd;simp(disch:=first|(simp;done)|omega|rfl) [-getElem?_pos,A.zg6,r0,r2,r16,a_];refine av (rd _ _ ah.refl) ?_;rintro _ h1 n1 k1 rfl;have xF:=k1.le;have gCx:=(k1.get C hCN).trans hC;have gPx:=(k1.get P hPN).trans hP;have iCx:C<n1:=by omega
  have iPx:P<n1:=by omega
  have hN:=fun st=>Xb1 (st:=st) hD (fun _=>rfl) (fun _=>by omega);simp(disch:=first|(simp;done)|omega|rfl) [-getElem?_pos,hF,r7,r8,r9,oh,r11,Qv,tL,ME,r15,r16,r17,gCx,gPx,iCx,iPx,aI,aK];refine av (Xbp hR hw) ?_;rintro _ hZ nZ kZ rfl;simp(disch:=first|(simp;done)|omega|rfl) [-getElem?_pos,hN,Qv,tL,r16];exact⟨rfl,_,rfl,by simp,by simpa using hW,k1.trans kZ⟩
 have gCx:=hC;have gPx:=hP;have iCx:=hCN;have iPx:=hPN;have hN:=fun st=>Xb1 (s:=[]) (st:=st) hD (fun h=>absurd h c) (fun h=>absurd h c);simp(disch:=first|(simp;done)|omega|rfl) [-getElem?_pos,A.zg6,r16,c,a_];simp(disch:=first|(simp;done)|omega|rfl) [-getElem?_pos,hF,r18,r7,r8,r9,oh,r11,Qv,tL,ME,r15,r16,r17,gCx,gPx,iCx,iPx,aI,aK];refine av (Xbp hR hw) ?_;rintro _ hZ nZ kZ rfl;simp(disch:=first|(simp;done)|omega|rfl) [-getElem?_pos,hN,r18,Qv,tL,r16];exact⟨rfl,_,rfl,by simp,by simpa using hW,ah.refl.trans kZ⟩
def Xeb{lo hi:Rat}(q1:Qb 55 lo)(q2:Qb 55 hi):BB [lo,hi]=false/\(Zao lo).length<1000000000/\(Zao hi).length<1000000000:=by
 have t1:=(NC q1 (by decide));have t2:=(NC q2 (by decide));refine⟨?_,by omega,by omega⟩;unfold BB;rw[List.any_eq_false];intro q hq;simp only[kV,List.not_mem_nil,or_false]at hq;rcases hq with rfl|rfl
 ·rw[t1.1];decide
 rw[t2.1];decide
def Xdy{N C:Nat}{W:List Nat}{r:T V}{u b e m1 m2 e2 d e3:V}{sb:Bool}{z:Int}(L:StH a n)(hu:Sl H N u (strs a))(hS:V.aX [b,e]=Dl (ks a) (mW a.length (ziB a)))(JF:ks a=0->sb=mW a.length (ziB a))(hR:Xcw (.aX [.agg [m1,m2],e2]) (Yz7 a (RY z)) (Xcb a z) (Xcc a z))(hD:Yvu (.aX [d,e3]) (Yz7 a (Xal n)) (Xab (ziB a) n.toNat (a.length-1)))(hC:H.get C=some (.cells [m1,m2] 32 true))(hCN:C<N)(hW:aL M W=[])(hMN:M<=N)(r0:r.get 0=some u)(r1:r.get 1=some (.int .i64 z))(r2:r.get 2=some (.int .i64 n))(r7:r.get 7=some (.int .i64 (ks a)))(r8:r.get 8=some b)(r9:r.get 9=some e)(oh:r.get 10=some (.ptr C 0))(r11:r.get 11=some e2)(Qv:r.get 12=some d)(tL:r.get 13=some e3)(ME:r.get 14=some (.bool sb))(r15:r.get 15=some (.int .i64 (Yz7 a (RY z))))(r16:r.get 16=some (.int .i64 (Yz7 a (Xal n)))):
  Code A.C none A.zg7 ⟨r,115,[]⟩ ⟨H,N,W⟩ (fun e fr st=>Xcx M e fr st H N):=by
 rw[cn];have kA:ah H N (H.set N (.cells [.str [],.str []] 32 true)) (N+1):=ah.refl.new _;have gA:(H.set N (.cells [.str [],.str []] 32 true)).get N=some (.cells [.str [],.str []] 32 true):=by simp
 have huA:=hu.ai kA;have mN:¬N<M:=by omega
 by_cases c:Yz7 a (RY z)=0
 ·obtain⟨R,hz⟩:=L.rad c;obtain⟨c1,c2,c3⟩:=Xd3 c;obtain⟨a0,a1,a2,a3⟩:=Yti c1;have ta:=Ymk a2;have hut:Tx (H.set N (.cells [.str [],.str []] 32 true)) (N+1) u (ziB a):=by unfold Tx;rw[<-ta];exact huA
  obtain⟨q1,q2⟩:=L.rqb c;have rr:=Xc3 hut R;rw[<-hz]at rr;rw[show ((Xa5 (ziB a) (10^z.toNat) 44).1:Rat)/((10^z.toNat:Nat):Rat)=Xcb a z from rfl,show ((Xa5 (ziB a) (10^z.toNat) 44).2:Rat)/((10^z.toNat:Nat):Rat)=Xcc a z from rfl]at rr;simp(disch:=first|(simp;done)|omega|rfl) [-getElem?_pos,A.zg7,r0,r1,r15,c,a_];refine av rr ?_;rintro _ h1 n1 k1 rfl;have xF:=k1.le;have g1:=(k1.get N (by omega)).trans gA;have i1:N<n1:=by omega
  have KS:=(kA.trans k1).set (i:=N) (o:=.cells [.str (Zao (Xcb a z)),.str (Zao (Xcc a z))] 32 true) (Yv5 _);simp(disch:=first|(simp;done)|omega|rfl) [-getElem?_pos,aj,bM,g1,i1];refine nc (Xct (M:=M) (C:=C) (P:=N) L (hu.ai KS) hS JF hR (fun _=>⟨rfl,rfl,Xeb q1 q2⟩) hD ((KS.get C hCN).trans hC) (by omega) (by simp) (by omega) (by simp[aL,mN,hW]) (by omega) (by simp[r0]) (by simp[r1]) (by simp[r2]) (by simp[r7]) (by simp[r8]) (by simp[r9]) (by simp[oh]) (by simp[r11]) (by simp[Qv]) (by simp[tL]) (by simp[ME]) (by simp[r15]) (by simp[r16]) (by simp) (by simp)) ?_;intro e fr st hq;simp(disch:=first|(simp;done)|omega|rfl) [-getElem?_pos,];exact hq.trans KS
 simp(disch:=first|(simp;done)|omega|rfl) [-getElem?_pos,A.zg7,r15,c,a_];refine nc (Xct (M:=M) (C:=C) (P:=N) L huA hS JF hR (fun h=>absurd h c) hD ((kA.get C hCN).trans hC) (by omega) gA (by omega) (by simpa using hW) (by omega) (by simp[r0]) (by simp[r1]) (by simp[r2]) (by simp[r7]) (by simp[r8]) (by simp[r9]) (by simp[oh]) (by simp[r11]) (by simp[Qv]) (by simp[tL]) (by simp[ME]) (by simp[r15]) (by simp[r16]) (by simp) (by simp)) ?_;intro e fr st hq;simp(disch:=first|(simp;done)|omega|rfl) [-getElem?_pos,];exact hq.trans kA
variable {H:T O} {M N:Nat} {W:List Nat} {a:List bj} {n:Int} {r:T V} {u:V}
def Xcs{C:Nat}{b e m1 m2 e2 d e3:V}{sb:Bool}{z:Int}(L:StH a n)(hu:Sl H N u (strs a))(hS:V.aX [b,e]=Dl (ks a) (mW a.length (ziB a)))(hR:Xcw (.aX [.agg [m1,m2],e2]) (Yz7 a (RY z)) (Xcb a z) (Xcc a z))(hD:Yvu (.aX [d,e3]) (Yz7 a (Xal n)) (Xab (ziB a) n.toNat (a.length-1)))(hC:H.get C=some (.cells [m1,m2] 32 true))(hCN:C<N)(hW:aL M W=[])(hMN:M<=N)(r0:r.get 0=some u)(r1:r.get 1=some (.int .i64 z))(r2:r.get 2=some (.int .i64 n))(r7:r.get 7=some (.int .i64 (ks a)))(r8:r.get 8=some b)(r9:r.get 9=some e)(oh:r.get 10=some (.ptr C 0))(r11:r.get 11=some e2)(Qv:r.get 12=some d)(tL:r.get 13=some e3)(JF:ks a=0->sb=mW a.length (ziB a))(ME:r.get 14=some (.bool sb)):
  Code A.C none A.zhk ⟨r,115,[]⟩ ⟨H,N,W⟩ (fun e fr st=>Xcx M e fr st H N):=by
 rw[cn];have la:=L.la;have lu:=hu.len;rw[HZ]at lu;have w1:∀st,A.C.call (.func 17 [] []) [.int .i64 z,.int .i64 1,.int .i64 3] st=some (.int .i64 (RY z),st):=fun st=>Zy7;have w2:∀st,A.C.call (.func 17 [] []) [.int .i64 n,.int .i64 0,.int .i64 32] st=some (.int .i64 (Xal n),st):=fun st=>Zy7;obtain⟨wv,hwv⟩:∃wv:Int,(if a.length=1 then (7:Int) else 0)=wv:=⟨_,rfl⟩;have w3:∀st,A.C.call (.func 18 [] []) [.bool (decide (a.length=1)),.int .i64 7] st=some (.int .i64 wv,st):=fun st=>by rw[Xcf,<-hwv];simp
 have ci:((a.length:Int)=1)=(a.length=1):=by simp;omega
 have hi0:N<N+1:=by omega
 have yg:N+1<N+1+1:=by omega
 have e2':cN [ks a,RY z,wv]=Yz7 a (RY z):=by rw[Yz7,hwv]
 have e3':cN [ks a,Xal n,wv]=Yz7 a (Xal n):=by rw[Yz7,hwv]
 have kA:ah H N ((H.set N (.cells [.int .i64 (ks a),.int .i64 (RY z),.int .i64 wv] 3 true)).set (N+1) (.cells [.int .i64 (ks a),.int .i64 (Xal n),.int .i64 wv] 3 true)) (N+1+1):=(ah.refl.new _).new _;simp(disch:=first|(simp;done)|omega|rfl) [-getElem?_pos,A.zhk,r0,r1,r2,r7,w1,w2,w3,lu,ci,a_,aj,b_.chk,Xa6 hi0,Xa6 yg,e2',e3'];generalize (H.set N (.cells [.int .i64 (ks a),.int .i64 (RY z),.int .i64 wv] 3 true)).set (N+1) (.cells [.int .i64 (ks a),.int .i64 (Xal n),.int .i64 wv] 3 true)=HA at*;refine nc (Xdy (M:=M) (C:=C) L (hu.ai kA) hS JF hR hD ((kA.get C hCN).trans hC) (by omega) (by simpa using hW) (by omega) (by simp[r0]) (by simp[r1]) (by simp[r2]) (by simp[r7]) (by simp[r8]) (by simp[r9]) (by simp[oh]) (by simp[r11]) (by simp[Qv]) (by simp[tL]) (by simp[ME]) (by simp) (by simp)) ?_;intro e fr st hq;simp(disch:=first|(simp;done)|omega|rfl) [-getElem?_pos,];exact hq.trans kA
def Xdx{C:Nat}{b e m1 m2 e2 d e3:V}{z:Int}(L:StH a n)(hu:Sl H N u (strs a))(hS:V.aX [b,e]=Dl (ks a) (mW a.length (ziB a)))(hR:Xcw (.aX [.agg [m1,m2],e2]) (Yz7 a (RY z)) (Xcb a z) (Xcc a z))(hD:Yvu (.aX [d,e3]) (Yz7 a (Xal n)) (Xab (ziB a) n.toNat (a.length-1)))(hC:H.get C=some (.cells [m1,m2] 32 true))(hCN:C<N)(hW:aL M W=[])(hMN:M<=N)(r0:r.get 0=some u)(r1:r.get 1=some (.int .i64 z))(r2:r.get 2=some (.int .i64 n))(r7:r.get 7=some (.int .i64 (ks a)))(r8:r.get 8=some b)(r9:r.get 9=some e)(oh:r.get 10=some (.ptr C 0))(r11:r.get 11=some e2)(Qv:r.get 12=some d)(tL:r.get 13=some e3):
  Code A.C none A.zg8 ⟨r,115,[]⟩ ⟨H,N,W⟩ (fun e fr st=>Xcx M e fr st H N):=by
 rw[cn];by_cases c:ks a=0
 ·obtain⟨a0,a1,a2,a3⟩:=Yti c;obtain⟨f1,f2⟩:=Xco (L.f c);have ta:=Ymk a2;have lra:=@Yht a;have hut:Tx H N u (ziB a):=by unfold Tx;rw[<-ta];exact hu
  have p5:5^(a.length-1)<=5^5:=Ywo (by decide) (by omega);have e5:(5:Nat)^5=3125:=by decide
  have rs:=Xad (k:=14) hut (by rw[lra];omega) (by rw[lra];omega) (by rw[lra];exact a3) f2 (by decide) (by rw[lra];omega);rw[lra]at rs;have c':=c;simp(disch:=first|(simp;done)|omega|rfl) [-getElem?_pos,A.zg8,r0,r7,c,a_];refine av rs ?_;rintro _ h1 n1 k1 rfl;have xF:=k1.le;simp(disch:=first|(simp;done)|omega|rfl) [-getElem?_pos,];refine nc (Xcs (M:=M) (C:=C) L (hu.ai k1) hS hR hD ((k1.get C hCN).trans hC) (by omega) (by simpa using hW) (by omega) (by simp[r0]) (by simp[r1]) (by simp[r2]) (by simp[r7]) (by simp[r8]) (by simp[r9]) (by simp[oh]) (by simp[r11]) (by simp[Qv]) (by simp[tL]) (fun _=>rfl) (by simp)) ?_;intro e fr st hq;simp(disch:=first|(simp;done)|omega|rfl) [-getElem?_pos,];exact hq.trans k1
 simp(disch:=first|(simp;done)|omega|rfl) [-getElem?_pos,A.zg8,r7,c,a_];refine nc (Xcs (M:=M) (C:=C) (sb:=false) L hu hS hR hD hC hCN (by simpa using hW) hMN (by simp[r0]) (by simp[r1]) (by simp[r2]) (by simp[r7]) (by simp[r8]) (by simp[r9]) (by simp[oh]) (by simp[r11]) (by simp[Qv]) (by simp[tL]) (fun h=>absurd h c) (by simp)) ?_;intro e fr st hq;simp(disch:=first|(simp;done)|omega|rfl) [-getElem?_pos,];exact hq
def Xcw.two{x:V}{E:Int}{lo hi:Rat}(h:Xcw x E lo hi):∃a b e,x=.aX [.agg [.str a,.str b],e]:=by rcases h with⟨_,h⟩|⟨_,h⟩<;>exact⟨_,_,_,h⟩
def Xa2{z:Int}(L:StH a n)(hu:Sl H N u (strs a))(hP:j_ H N)(hW:aL M W=[])(hMN:M<=N)(r0:r.get 0=some u)(r1:r.get 1=some (.int .i64 z))(r2:r.get 2=some (.int .i64 n))(r7:r.get 7=some (.int .i64 (ks a))):
  Code A.C none A.zhl ⟨r,115,[]⟩ ⟨H,N,W⟩ (fun e fr st=>Xcx M e fr st H N):=by
 rw[cn];have la:=L.la;have fa:∀s∈a,s.length<=20000:=fun s hs=>by have:=L.fa s hs;omega
 simp(disch:=first|(simp;done)|omega|rfl) [-getElem?_pos,A.zhl,r0];refine av (Xaj hu (by omega)) ?_;rintro v1 h1 n1 k1 s1;simp(disch:=first|(simp;done)|omega|rfl) [-getElem?_pos,];refine av (Zza (k:=14) s1 (by omega) fa (by decide) (by decide) fun c=>?_) ?_
 ·obtain⟨f1,f2⟩:=Xco (L.f c);have p5:5^(a.length-1)<=5^5:=Ywo (by decide) (by omega);have e5:(5:Nat)^5=3125:=by decide
  exact⟨f2,by omega⟩
 rintro x2 h2 n2 k2 Mh;obtain⟨b,e,rfl⟩:=Dl.two Mh;have K2:=k1.trans k2;simp(disch:=first|(simp;done)|omega|rfl) [-getElem?_pos,r0];refine av (Xaj (hu.ai K2) (by omega)) ?_;rintro v3 h3 n3 k3 s3;have K3:=K2.trans k3;simp(disch:=first|(simp;done)|omega|rfl) [-getElem?_pos,r1];refine av (Xdd (j:=14) (B:=44) s3 (hP.ai K3) (by omega) fa L.rad) ?_;rintro x4 h4 n4 k4 hx4;obtain⟨m1,m2,e2,rfl⟩:=hx4.two;have K4:=K3.trans k4;have le4:=K4.le;have kS:ah h4 n4 ((h4.set n4 (.cells [.str [],.str []] 32 true)).set n4 (.cells [.str m1,.str m2] 32 true)) (n4+1):=(ah.refl.new _).set (Yv5 _);have gS:((h4.set n4 (.cells [.str [],.str []] 32 true)).set n4 (.cells [.str m1,.str m2] 32 true)).get n4=some (.cells [.str m1,.str m2] 32 true):=by simp
 have KS:=K4.trans kS;simp(disch:=first|(simp;done)|omega|rfl) [-getElem?_pos,r0,aj,bM];generalize (h4.set n4 (.cells [.str [],.str []] 32 true)).set n4 (.cells [.str m1,.str m2] 32 true)=HS at*;refine av (Xaj (hu.ai KS) (by omega)) ?_;rintro v5 h5 n5 k5 s5;have K5:=KS.trans k5;simp(disch:=first|(simp;done)|omega|rfl) [-getElem?_pos,r2];refine av (Xde (j:=14) s5 (hP.ai K5) (by omega) fa L.dec) ?_;rintro x6 h6 n6 k6 hx6;obtain⟨d,e3,rfl⟩:=hx6.two;have K6:=K5.trans k6;have le6:=(k5.trans k6).le;have mn4:¬n4<M:=by omega
 have g6:=((k5.trans k6).get n4 (by omega)).trans gS;simp(disch:=first|(simp;done)|omega|rfl) [-getElem?_pos,];refine nc (Xdx (M:=M) (C:=n4) L (hu.ai K6) Mh hx4 hx6 g6 (by omega) (by simp[aL,mn4,hW]) (by have:=K6.le;omega) (by simp[r0]) (by simp[r1]) (by simp[r2]) (by simp[r7]) (by simp) (by simp) (by simp) (by simp) (by simp) (by simp)) ?_;intro e fr st hq;simp(disch:=first|(simp;done)|omega|rfl) [-getElem?_pos,];exact hq.trans K6
def Xbg{l:List bj}{n k:Nat}(h:Xac n k l=true)(hn:n<=k+2):l.length<=k+2/\∀s∈l,s.length<=40:=by simp only[Xac,jc,uv]at h;refine⟨?_,fun s hs=>by simpa[Xbq]using h.2 s hs⟩;have:=h.1;simp[Xcv]at this;omega
def Xbe{h:T O}{z:Int}(hu:Sl h N u (strs a))(hP:j_ h N)(hla:a.length<9223372036854775808):Fn A.C 3 [u,.int .i64 z,.int .i64 n] h N (fun x _ _=>x=.bool true):=by
 intro w;rw[aZ,A.k3 (by simp)];have hA:=fun w=>Nf (w:=w) hP;have hS1:∀w,A.C.call (.func 8 [] []) [u,.int .i64 6,.int .i64 13] ⟨h,N,w⟩=some (.bool (Xac 6 13 a),⟨h,N,w⟩):=fun w=>Xbh (n:=6) (lim:=13) hu hla (by decide);by_cases ca:Xac 6 13 a=true
 ·obtain⟨x1,x2⟩:=Xbg ca (by decide);by_cases h8:8<n
  ·by_cases h32:n<=32
   ·simp(disch:=first|(simp;done)|omega|rfl) [-getElem?_pos,A.b3,hA,hS1,ca,h8,h32,Ret];exact ah.refl
   simp(disch:=first|(simp;done)|omega|rfl) [-getElem?_pos,A.b3,hA,hS1,ca,h8,h32,Ret];refine av (Yp9 hu (by omega) (fun s hs=>by have:=x2 s hs;omega)) ?_;rintro _ h1 n1 k1 rfl;by_cases c0:ks a=0
   ·simp(disch:=first|(simp;done)|omega|rfl) [-getElem?_pos,c0,a_];refine av (Yn4 (d:=4) (n:=6) (hu.ai k1) (by omega) (by decide) (by decide)) ?_;rintro _ h2 n2 k2 rfl;have K2:=k1.trans k2;by_cases cf:wO a 6 4=true
    ·rw[cf];simp(disch:=first|(simp;done)|omega|rfl) [-getElem?_pos,];refine nc (Xa2 (M:=N) (a:=a) (z:=z) (n:=n) ⟨x1,x2,fun _=>cf,.inr (by omega)⟩ (hu.ai K2) (hP.ai K2) (by simp) K2.le (by simp) (by simp) (by simp) (by simp[c0])) ?_;rintro _ _ ⟨H,nn,WW⟩ ⟨rfl,r6',rfl,h6,hw,hk⟩;simp only at hw hk;simp(disch:=first|(simp;done)|omega|rfl) [-getElem?_pos,h6,hw,Ret];exact K2.trans hk
    have cf':wO a 6 4=false:=by simpa using cf
    rw[cf'];simp(disch:=first|(simp;done)|omega|rfl) [-getElem?_pos,Ret];exact K2
   simp(disch:=first|(simp;done)|omega|rfl) [-getElem?_pos,c0,a_];refine nc (Xa2 (M:=N) (a:=a) (z:=z) (n:=n) ⟨x1,x2,fun h=>absurd h c0,.inr (by omega)⟩ (hu.ai k1) (hP.ai k1) (by simp) k1.le (by simp) (by simp) (by simp) (by simp)) ?_;rintro _ _ ⟨H,nn,WW⟩ ⟨rfl,r6',rfl,h6,hw,hk⟩;simp only at hw hk;simp(disch:=first|(simp;done)|omega|rfl) [-getElem?_pos,h6,hw,Ret];exact k1.trans hk
  simp(disch:=first|(simp;done)|omega|rfl) [-getElem?_pos,A.b3,hA,hS1,ca,h8,Ret];refine av (Yp9 hu (by omega) (fun s hs=>by have:=x2 s hs;omega)) ?_;rintro _ h1 n1 k1 rfl;by_cases c0:ks a=0
  ·simp(disch:=first|(simp;done)|omega|rfl) [-getElem?_pos,c0,a_];refine av (Yn4 (d:=4) (n:=6) (hu.ai k1) (by omega) (by decide) (by decide)) ?_;rintro _ h2 n2 k2 rfl;have K2:=k1.trans k2;by_cases cf:wO a 6 4=true
   ·rw[cf];simp(disch:=first|(simp;done)|omega|rfl) [-getElem?_pos,];refine nc (Xa2 (M:=N) (a:=a) (z:=z) (n:=n) ⟨x1,x2,fun _=>cf,.inl (by omega)⟩ (hu.ai K2) (hP.ai K2) (by simp) K2.le (by simp) (by simp) (by simp) (by simp[c0])) ?_;rintro _ _ ⟨H,nn,WW⟩ ⟨rfl,r6',rfl,h6,hw,hk⟩;simp only at hw hk;simp(disch:=first|(simp;done)|omega|rfl) [-getElem?_pos,h6,hw,Ret];exact K2.trans hk
   have cf':wO a 6 4=false:=by simpa using cf
   rw[cf'];simp(disch:=first|(simp;done)|omega|rfl) [-getElem?_pos,Ret];exact K2
  simp(disch:=first|(simp;done)|omega|rfl) [-getElem?_pos,c0,a_];refine nc (Xa2 (M:=N) (a:=a) (z:=z) (n:=n) ⟨x1,x2,fun h=>absurd h c0,.inl (by omega)⟩ (hu.ai k1) (hP.ai k1) (by simp) k1.le (by simp) (by simp) (by simp) (by simp)) ?_;rintro _ _ ⟨H,nn,WW⟩ ⟨rfl,r6',rfl,h6,hw,hk⟩;simp only at hw hk;simp(disch:=first|(simp;done)|omega|rfl) [-getElem?_pos,h6,hw,Ret];exact k1.trans hk
 simp(disch:=first|(simp;done)|omega|rfl) [-getElem?_pos,A.b3,hA,hS1,ca,Ret];exact ah.refl
variable {n:Nat}
def Ycj{f g:Nat->Rat}:∀{n:Nat},sR (fun k=>f k+g k) n=sR f n+sR g n
 |0=>by show (0:Rat)=0+0;grind
 |n+1=>by
  have:=Ycj (f:=f) (g:=g) (n:=n)
  unfold sR
  grind
def yZ{f:Nat->Rat}{r:Rat}:∀{n:Nat},sR (fun k=>r*f k) n=r*sR f n
 |0=>by show (0:Rat)=r*0;grind
 |n+1=>by
  have:=yZ (f:=f) (r:=r) (n:=n)
  unfold sR
  grind
def aF(c:Nat->Rat)(n:Nat)(y:Nat->Rat)(m:Nat):Rat:=sR (fun j=>c (n-m+j)*y j) (m+1)
def bF(c:Nat->Rat)(y:Nat->Rat)(m:Nat):Rat:=sR (fun j=>c (m-j)*y j) (m+1)
def VF(c:Nat->Rat)(n:Nat)(y:Nat->Rat):Rat:=sR (fun m=>aF c n y m*aF c n y m-bF c y m*bF c y m) n
def Du(y:Nat->Rat)(j:Nat):Rat:=y (j+1)
def Yo7{c y:Nat->Rat}{m:Nat}(hm:m+1<=n):aF c n y (m+1)=c (n-m-1)*y 0+aF c n (Du y) m:=by
 unfold aF;rw[<-HW (n:=m+1)];have e:sR (fun k=>c (n-(m+1)+(k+1))*y (k+1)) (m+1)=sR (fun j=>c (n-m+j)*Du y j) (m+1):=il fun k hk=>by rw[show n-(m+1)+(k+1)=n-m+k by omega];rfl
 rw[e,mY,show n-(m+1)=n-m-1 by omega];grind
def Yo0{c y:Nat->Rat}{m:Nat}:bF c y (m+1)=c (m+1)*y 0+bF c (Du y) m:=by
 unfold bF;rw[<-HW (n:=m+1)];have e:sR (fun k=>c (m+1-(k+1))*y (k+1)) (m+1)=sR (fun j=>c (m-j)*Du y j) (m+1):=il fun k hk=>by rw[show m+1-(k+1)=m-k by omega];rfl
 rw[e,Nat.sub_zero];grind
def tri{F:Nat->Nat->Rat}:∀{n:Nat},sR (fun m=>sR (fun j=>F m j) (m+1)) n=sR (fun j=>sR (fun i=>F (j+i) j) (n-j)) n
 |0=>rfl
 |n+1=>by
  have ih:=tri (F:=F) (n:=n)
  have e1:sR (fun j=>sR (fun i=>F (j+i) j) (n+1-j)) n=sR (fun j=>sR (fun i=>F (j+i) j) (n-j)+F n j) n:=il fun j hj=>by
   rw[show n+1-j=n-j+1 by omega]
   show sR _ (n-j)+F (j+(n-j)) j=_
   rw[show j+(n-j)=n by omega]
  show sR (fun m=>sR (fun j=>F m j) (m+1)) n+(sR (fun j=>F n j) n+F n n)=sR (fun j=>sR (fun i=>F (j+i) j) (n+1-j)) n+sR (fun i=>F (n+i) n) (n+1-n)
  rw[ih,e1,Ycj,show n+1-n=1 by omega]
  show _=_+(0+F (n+0) n)
  rw[mY]
  grind
def Yvm{c y:Nat->Rat}:sR (fun m=>c (n-m)*aF c n y m) (n+1)=sR (fun m=>c m*bF c y m) (n+1):=by
 have e1:sR (fun m=>c (n-m)*aF c n y m) (n+1)=sR (fun m=>sR (fun j=>c (n-m)*(c (n-m+j)*y j)) (m+1)) (n+1):=il fun m _=>by unfold aF;rw[yZ]
 have e2:sR (fun m=>c m*bF c y m) (n+1)=sR (fun m=>sR (fun j=>c m*(c (m-j)*y j)) (m+1)) (n+1):=il fun m _=>by unfold bF;rw[yZ]
 rw[e1,e2,tri (F:=fun m j=>c (n-m)*(c (n-m+j)*y j)),tri (F:=fun m j=>c m*(c (m-j)*y j))];refine il fun j hj=>?_;rw[<-R9];refine il fun i hi=>?_;show c (n-(j+(n+1-j-1-i)))*(c (n-(j+(n+1-j-1-i))+j)*y j)=c (j+i)*(c (j+i-j)*y j);rw[show n-(j+(n+1-j-1-i))=i by omega,show j+i-j=i by omega,show i+j=j+i by omega];grind
def Ypb{c y:Nat->Rat}:VF c n (Du y)=VF c n y+aF c n y n*aF c n y n-bF c y n*bF c y n:=by
 have sh:=fun (f:Nat->Rat)=>HW (f:=f) (n:=n);have e1:VF c n (Du y)=sR (fun m=>(aF c n y (m+1)*aF c n y (m+1)-bF c y (m+1)*bF c y (m+1))-(2*y 0)*(c (n-(m+1))*aF c n y (m+1)-c (m+1)*bF c y (m+1))+(y 0*y 0)*(c (n-(m+1))*c (n-(m+1))-c (m+1)*c (m+1))) n:=by unfold VF;refine il fun m hm=>?_;have h1:=Yo7 (c:=c) (y:=y) (n:=n) (m:=m) (by omega);have h2:=Yo0 (c:=c) (y:=y) (m:=m);rw[show n-(m+1)=n-m-1 by omega];generalize aF c n (Du y) m=A at*;generalize bF c (Du y) m=B at*;rw[h1,h2];grind
 rw[e1,Ycj,yZ,Ay];have s1:=sh fun m=>aF c n y m*aF c n y m-bF c y m*bF c y m;have s2:=sh fun m=>c (n-m)*aF c n y m-c m*bF c y m;have s3:=sh fun m=>c (n-m)*c (n-m)-c m*c m;have t1:sR (fun m=>aF c n y m*aF c n y m-bF c y m*bF c y m) (n+1)=VF c n y+(aF c n y n*aF c n y n-bF c y n*bF c y n):=rfl;have t2:sR (fun m=>c (n-m)*aF c n y m-c m*bF c y m) (n+1)=0:=by
  have e:sR (fun m=>c (n-m)*aF c n y m-c m*bF c y m) (n+1)=sR (fun m=>c (n-m)*aF c n y m-1*(c m*bF c y m)) (n+1):=il fun m _=>by grind
  rw[e,Ay,Yvm];grind
 have t3:sR (fun m=>c (n-m)*c (n-m)-c m*c m) (n+1)=0:=by
  have e:sR (fun m=>c (n-m)*c (n-m)-c m*c m) (n+1)=sR (fun m=>c (n-m)*c (n-m)-1*(c m*c m)) (n+1):=il fun m _=>by grind
  have r:=R9 (f:=fun m=>c m*c m) (n:=n+1);have e3:sR (fun m=>c (n+1-1-m)*c (n+1-1-m)) (n+1)=sR (fun m=>c (n-m)*c (n-m)) (n+1):=il fun m _=>by rw[Nat.add_sub_cancel]
  rw[e,Ay,<-e3,r];grind
 have a0:aF c n y 0=c n*y 0:=by show (0:Rat)+c (n-0+0)*y 0=_;rw[Nat.sub_zero,mY];grind
 have b0:bF c y 0=c 0*y 0:=by show (0:Rat)+c (0-0)*y 0=_;grind
 rw[Nat.sub_zero]at s2 s3;rw[t1,a0,b0]at s1;rw[t2,a0,b0]at s2;rw[t3]at s3;grind
end Go.Mx
