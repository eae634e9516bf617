/-num-/
import Derived.Test.YtfeehbdhikiikaaGreatDoorNaG
set_option linter.all false
namespace Go.Mx
variable{n1 n2:Int}{i k:Nat}{H h1:T O}{r0:T V}{u u1 u2 v:V}
noncomputable section
open Go Go.Proofs
variable {N n:Nat} {h:T O} {x:V} {z:Int}
set_option maxRecDepth 1000000
def A.b180:=A.q Tryz.f180
def A.k180:=@A.kk 180 5 [.cell 2 (some 2)] A.b180 (by kernel_rfl) rfl
def A.b184:=A.q Tryz.f184
def A.k184:=@A.kk 184 7 [.tmp 2] A.b184 (by kernel_rfl) rfl
def A.b227:=A.q Tryz.f227
def A.k227:=@A.kk 227 9 [.cell 2 (some 2)] A.b227 (by kernel_rfl) rfl
def A.b206:=A.q Tryz.f206
def A.k206:=@A.kk 206 10 [.tmp 2] A.b206 (by kernel_rfl) rfl
def A.b203:=A.q Tryz.f203
def A.k203:=@A.kk 203 26 [.cell 2 (some 2)] A.b203 (by kernel_rfl) rfl
def A.b198:=A.q Tryz.f198
def A.k198:=@A.kk 198 24 [.tmp 2,.tmp 3] A.b198 (by kernel_rfl) rfl
def A.b199:=A.q Tryz.f199
def A.k199:=@A.kk 199 50 [.cell 4 (some 2)] A.b199 (by kernel_rfl) rfl
def Ap(z:Int):Int:=if z<0 then -1 else 1
def In(h:T O)(N:Nat)(x:V)(z:Int):Prop:=
 (x=.agg [.int .i64 z,.aa]/\ -9223372036854775808<=z/\z<9223372036854775808)\/
 ∃i o l c,x=.agg [.int .i64 (Ap z),.slice i o l c 1]/\Wn h N (.slice i o l c 1) z.natAbs/\9223372036854775808<=z.natAbs
def In.ad{h':T O}{N':Nat}(s:In h N x z)(k:ab h N h' N'):In h' N' x z:=by
 rcases s with s|⟨i,o,l,c,s1,s2,s3⟩
 ·exact .inl s
 exact .inr ⟨i,o,l,c,s1,s2.ad k,s3⟩
def In.small(h1: -9223372036854775808<=z)(h2:z<9223372036854775808):In h N (.agg [.int .i64 z,.aa]) z:=.inl ⟨rfl,h1,h2⟩
def In.cells(s:In h N x z):∃n u,x=.agg [.int .i64 n,u]/\V.one u=true:=by
 rcases s with⟨rfl,_⟩|⟨i,o,l,c,rfl,_⟩
 ·exact⟨_,_,rfl,rfl⟩
 exact⟨_,_,rfl,rfl⟩
def In.nu{n:Int}(s:In h N (.agg [.int .i64 n,u]) z):∀x∈[V.int .i64 n,u],∀m,x≠.int .u64 m:=by
 intro x hx m hc;simp only[iP,List.not_mem_nil,or_false]at hx;rcases hx with rfl|rfl
 ·cases hc
 subst hc;rcases s with⟨e,_⟩|⟨_,_,_,_,e,_⟩
 ·simp at e
 simp at e
def aQ{n1:Nat}(k:ab h n h1 n1)(o:O):ab h n (h1.set n1 o) (n1+1):=(k.set k.le).up (vY _)
def wl(z:Int):Nat:=(aJ z.natAbs).length
def Ki:Fn A.C 180 [.int .i64 z] h N (fun v _ _=>v=.agg [.int .i64 z,.aa]):=by intro w;rw[aP,A.k180 (by simp)];simp[A.b180,aS,aO,ae,ay];exact(((ab.refl.set (aN N)).set (aN N)).up (vY N))
def dB(z:Int):Int:=if z<0 then -1 else if z=0 then 0 else 1
def Kj(hx:In h N x z):Fn A.C 184 [x] h N (fun v _ _=>v=.int .i64 (dB z)):=by
 intro w;rw[aP,A.k184 (by simp)];rcases hx with⟨rfl,_⟩|⟨i,o,l,c,rfl,_,hz⟩
 ·obtain h1|h1|h1:z<0\/z=0\/0<z:=by omega
  ·have e1:z<1:=by omega
   have e2:¬ -1<z:=by omega
   simp[A.b184,aS,ay,AP,tG,EA,Af,Dl,AN,h1,e1,e2,dB];exact aQ ab.refl _
  ·subst h1;simp[A.b184,aS,ay,AP,tG,EA,Af,Dl,AN,dB];exact aQ ab.refl _
  have e1:¬z<1:=by omega
  have e2:¬z<0:=by omega
  have e3:¬z=0:=by omega
  simp[A.b184,aS,ay,AP,tG,EA,Af,Dl,AN,e1,e2,e3,dB];exact aQ ab.refl _
 by_cases h1:z<0
 ·simp[A.b184,aS,ay,AP,tG,EA,Af,Dl,AN,Ap,dB,h1];exact aQ ab.refl _
 have e3:¬z=0:=by omega
 simp[A.b184,aS,ay,AP,tG,EA,Af,Dl,AN,Ap,dB,h1,e3];exact aQ ab.refl _
def Zww(hz: -9223372036854775808<=z)(hm:z<9223372036854775808){st:St}:A.C.call (.func 206 [] []) [.int .i64 z] st=some (.int .u64 (z.natAbs:Nat),st):=by
 apply Call.eq;rw[aP,A.k206 (by simp)];by_cases e1:z<0
 ·have e2:bn .u64 (IntKind.wrap .i64 (0-z))=(z.natAbs:Nat):=by
   rw[M5];by_cases e3:z= -9223372036854775808
   ·subst e3;decide
   rw[O4 (by omega) (by omega)];omega
  rw[Int.zero_sub]at e2;simp[A.b206,e1,e2]
 have e2:bn .u64 z=(z.natAbs:Nat):=by rw[HG (by omega) (by omega)];omega
 simp[A.b206,e1,e2]
def Kk(h:n<B)(h0:n≠0):aJ n=[n]:=by rw[oJ h0,BN h,tP,Ad h]
def Fw(hx:In h N x z):Fn A.C 198 [x] h N (fun v h' n'=>∃u,v=.aU [.bool (decide (z<0)),u]/\Wn h' n' u z.natAbs):=by
 intro w;rw[aP,A.k198 (by simp)];rcases hx with⟨rfl,h1,h2⟩|⟨i,o,l,c,rfl,hw,hz⟩
 ·by_cases h0:z=0
  ·subst h0;simp[A.b198,aS,bz,ay];refine⟨aQ ab.refl _,?_⟩;unfold Wn;rw[tP];exact Sl.nil
  have hs:=fun st=>Zww h1 h2 (st:=st);have d1:¬N=N+1:=by omega
  simp[A.b198,aS,ae,bz,h0,hs,ay,c9.c_];refine⟨aQ (aQ ab.refl _) _,?_⟩;unfold Wn;rw[Kk (by unfold B;omega) (by omega)];exact Sl.row (e:=205) (rw:=true) (L:=1) (by omega) (by simp[dg]) (by simp) (by simp)
 have e1:(Ap z<0)=(z<0):=by unfold Ap;split<;>simp_all
 simp[A.b198,aS,bz,ay,e1,c9.c_];refine⟨aQ ab.refl _,hw.ad (aQ ab.refl _)⟩
def HM{b:Bool}(hu:Wn h N u n)(hl:(aJ n).length<1099511627776):Fn A.C 199 [.bool b,u] h N (fun v h' n'=>In h' n' v (if b=true then -(n:Int) else n)):=by
 intro w;have lu:=hu.len;rw[bu]at lu;rw[aP,A.k199 (by simp)];have kk:∀o1 o2:O,ab h N ((h.set N o1).set N o2) (N+1):=fun o1 o2=>(aQ ab.refl o1).set (aN N);by_cases h0:n=0
 ·subst h0;rw[tP]at lu;simp[A.b199,lu,aS,aO,ae,ay];refine⟨kk _ _,?_⟩;have:(if b=true then -((0:Nat):Int) else ((0:Nat):Int))=0:=by split<;>rfl
  exact In.small (by omega) (by omega)
 by_cases h1:n<18446744073709551616
 ·rw[Kk h1 h0]at lu;obtain⟨i,o,c,e,rw,p1,p2,p3,p4⟩:=hu.at (gw (l:=aJ n) (j:=0) (n:=n) (by rw[Kk h1 h0];rfl));rw[iX]at p4;have lu:oe u=some 1:=lu;have aX:¬i=N:=by omega
  by_cases h2:n<=9223372036854775807
  ·have mX:(n:Int)<=9223372036854775807:=by omega
   have w1:bn .i64 (n:Int)=n:=cN (by omega) (by omega);have w2:IntKind.wrap .i64 (-(n:Int))= -(n:Int):=O4 (by omega) (by omega);cases b
   ·simp[A.b199,lu,p1,p3,p4,aX,mX,w1,aS,aO,ae,ay];exact⟨kk _ _,In.small (by omega) (by omega)⟩
   simp[A.b199,lu,p1,p3,p4,aX,mX,w1,w2,aS,aO,ae,ay];exact⟨kk _ _,In.small (by omega) (by omega)⟩
  have mX:¬(n:Int)<=9223372036854775807:=by omega
  obtain⟨i2,o2,l2,c2,rfl⟩:∃i o l c,u=.slice i o l c 1:=by
   rcases hu with⟨hu,_⟩|⟨i,o,cp,c,e,rw,hu,_⟩
   ·rw[Kk h1 h0]at hu;simp[dg]at hu
   exact⟨_,_,_,_,hu⟩
  cases b
  ·simp[A.b199,lu,p1,p3,p4,aX,mX,aS,aO,ae,ay];refine⟨kk _ _,.inr ⟨i2,o2,l2,c2,?_,hu.ad (kk _ _),?_⟩⟩
   ·simp[Ap]
   omega
  simp[A.b199,lu,p1,p3,p4,aX,mX,aS,aO,ae,ay];refine⟨kk _ _,.inr ⟨i2,o2,l2,c2,?_,?_,?_⟩⟩
  ·simp[Ap];omega
  ·simpa using hu.ad (kk _ _)
  omega
 have JR:2<=(aJ n).length:=by rw[oJ h0,oJ (by unfold B;omega)];simp
 have c0:¬((aJ n).length:Int)=0:=by omega
 have c1:¬((aJ n).length:Int)=1:=by omega
 have c2:¬(aJ n).length=1:=by omega
 have c3:¬aJ n=[]:=by intro h;rw[h]at JR;simp at JR
 rcases hu with⟨hu,_⟩|⟨i,o,cp,c,e,rw,rfl,hu⟩
 ·exfalso;have:=congrArg List.length hu;rw[bu]at this;simp at this;exact c3 this
 have hw:Wn h N (.slice i o (dg (aJ n)).length cp 1) n:=.inr ⟨i,o,cp,c,e,rw,rfl,hu⟩;rw[bu]at hw;cases b
 ·simp[A.b199,c1,c3,aS,aO,ae,ay];refine⟨kk _ _,.inr ⟨i,o,(aJ n).length,cp,?_,hw.ad (kk _ _),?_⟩⟩
  ·simp[Ap]
  omega
 simp[A.b199,c1,c3,aS,aO,ae,ay];refine⟨kk _ _,.inr ⟨i,o,(aJ n).length,cp,?_,?_,?_⟩⟩
 ·simp[Ap];omega
 ·simpa using hw.ad (kk _ _)
 omega
def Sl.aG{l:List Nat}{c0 c1:List V}{e0 e1:TypeId}{w0 w1:Bool}(s:Sl h N v (dg l))(hr:h.get i=some (.cells c0 e0 w0))(hn:∀x∈c0,∀n,x≠.int .u64 n)(hc:c1.length=c0.length):Sl (h.set i (.cells c1 e1 w1)) N v (dg l):=by
 rcases s with s|⟨i',o,cp,c,e,rw,rfl,q1,q2,q3,q4,q5⟩
 ·exact .inl s
 by_cases hi:i'=i
 ·subst hi;rw[hr]at q2;simp only[ar,O.cells.injEq]at q2;obtain⟨rfl,rfl,rfl⟩:=q2;cases l with
  |nil=> refine .inr ⟨i',o,cp,c1,e1,w1,rfl,q1,by rw[T.ag,av rfl],?_,by simpa[hc]using q4,q5⟩;intro j hj;simp[dg]at hj
  |cons d l=> exfalso;have:=q3 0 (by simp[dg]);have hm:=cP (l:=c0) (i:=o+0) (a:=.int .u64 d) (by rw[this];simp[dg]);exact hn _ hm _ rfl
 exact .inr ⟨i',o,cp,c,e,rw,rfl,q1,by rw[T.ag,ak hi];exact q2,q3,q4,q5⟩
def In.aG{i:Nat}{c0 c1:List V}{e0 e1:TypeId}{w0 w1:Bool}(s:In h N x z)(hr:h.get i=some (.cells c0 e0 w0))(hn:∀x∈c0,∀n,x≠.int .u64 n)(hc:c1.length=c0.length):In (h.set i (.cells c1 e1 w1)) N x z:=by
 rcases s with s|⟨i',o,l,c,s1,s2,s3⟩
 ·exact .inl s
 exact .inr ⟨i',o,l,c,s1,Sl.aG s2 hr hn hc,s3⟩
def M7(hx:In h N x z)(hl:wl z<500000000000):Fn A.C 203 [x] h N (fun v h' n'=>In h' n' v (-z)):=by
 intro w;rw[aP,A.k203 (by simp)];have rest:∀{x:V},In h N x z->∀(h1:T O) (N1:Nat),ab h N h1 N1->Fn A.C 198 [x] h1 N1 (fun v h' n'=>∃u,v=.aU [.bool (decide (z<0)),u]/\Wn h' n' u z.natAbs):=fun hx h1 N1 k=>Fw (hx.ad k);have fin:∀{v h' n'},In h' n' v (if (!decide (z<0))=true then -(z.natAbs:Int) else z.natAbs)->In h' n' v (-z):=fun {v h' n'} q=>by
  have e:(if (!decide (z<0))=true then -(z.natAbs:Int) else (z.natAbs:Int))= -z:=by by_cases h:z<0<;>simp[h]<;>omega
  rw[e]at q;exact q
 by_cases hz:x=.agg [.int .i64 z,.aa]/\z≠ -9223372036854775808/\ -9223372036854775808<=z/\z<9223372036854775808
 ·obtain⟨rfl,h0,h1,h2⟩:=hz;have w2:IntKind.wrap .i64 (-z)= -z:=O4 (by omega) (by omega);simp[A.b203,aS,aO,ae,bz,h0,w2,ay];exact⟨(aQ (aQ ab.refl _) _).set (by omega),In.small (by omega) (by omega)⟩
 rcases id hx with⟨rfl,h1,h2⟩|⟨i,o,l,c,rfl,_⟩
 ·have h0:z= -9223372036854775808:=by apply Decidable.byContradiction;intro hc;exact hz ⟨rfl,hc,h1,h2⟩
  have hp:=rest hx _ _ (aQ (aQ ab.refl (.cells [.int .i64 z,.aa] 99 true)) (.cells [.int .i64 0,.aa] 99 true));subst h0;simp[A.b203,aS,aO,bz];refine au hp ?_;rintro _ h3 n3 k3 ⟨u,rfl,hu⟩;have xS:=k3.le;have g0:=k3.get (N+1) (by omega);simp at g0;simp[];refine au (HM hu (by unfold wl at hl;omega)) ?_;rintro v h4 n4 k4 hv;have xY:=k4.le;have g1:=(k4.get (N+1) (by omega)).trans g0;obtain⟨n5,u5,rfl,kY⟩:=hv.cells;unfold V.one at kY;simp[g1,aS,aO,ae,bM,ay,kY];have kk:=(((aQ (aQ ab.refl _) _).trans k3).trans k4).set (h:=h) (n:=N) (i:=N+1) (o:=.cells [.int .i64 n5,u5] 99 true) (by omega);exact⟨kk,(fin hv).aG g1 (by simp) rfl⟩
 have hp:=rest hx _ _ (aQ (aQ ab.refl (.cells [.int .i64 (Ap z),.slice i o l c 1] 99 true)) (.cells [.int .i64 0,.aa] 99 true));simp[A.b203,aS,aO,bz];refine au hp ?_;rintro _ h3 n3 k3 ⟨u,rfl,hu⟩;have xS:=k3.le;have g0:=k3.get (N+1) (by omega);simp at g0;simp[];refine au (HM hu (by unfold wl at hl;omega)) ?_;rintro v h4 n4 k4 hv;have xY:=k4.le;have g1:=(k4.get (N+1) (by omega)).trans g0;obtain⟨n5,u5,rfl,kY⟩:=hv.cells;unfold V.one at kY;simp[g1,aS,aO,ae,bM,ay,kY];have kk:=(((aQ (aQ ab.refl _) _).trans k3).trans k4).set (h:=h) (n:=N) (i:=N+1) (o:=.cells [.int .i64 n5,u5] 99 true) (by omega);exact⟨kk,(fin hv).aG g1 (by simp) rfl⟩
def A.b10:=A.q Tryz.f10
def A.k10:=@A.kk 10 13 [.tmp 2] A.b10 (by kernel_rfl) rfl
def A.b161:=A.q Tryz.f161
def A.k161:=@A.kk 161 14 [.tmp 2] A.b161 (by kernel_rfl) rfl
def A.b30:=A.q Tryz.f30
def A.k30:=@A.kk 30 7 [.tmp 2] A.b30 (by kernel_rfl) rfl
def A.b31:=A.q Tryz.f31
def A.k31:=@A.kk 31 14 [.tmp 2] A.b31 (by kernel_rfl) rfl
def A.b29:=A.q Tryz.f29
def A.k29:=@A.kk 29 9 [.tmp 2] A.b29 (by kernel_rfl) rfl
def Tl:aI 0=[48]:=by decide+kernel
def Yp4{q:Rat}:aI q=[48]↔q=0:=⟨fun h=>Yj5 (h.trans Tl.symm),fun h=>by rw[h,Tl]⟩
def Ec{q:Rat}:q.num=0↔q=0:=Rat.num_eq_zero
def Yp3(q:Rat):0<(aI q).length:=by obtain⟨c,t,h,_⟩:=Zy2 q;rw[DP,h];split<;>simp
def Yj3(q:Rat):∃c,(aI q)[0]?=some c/\(aI q).head?=some c/\(cZ c=45↔q.num<0):=by
 obtain⟨c,t,h,h1⟩:=Zy2 q;by_cases hz:q.num<0
 ·refine⟨45,?_,?_,?_⟩
  ·rw[DP,av hz];rfl
  ·rw[DP,av hz];rfl
  exact⟨fun _=>hz,fun _=>rfl⟩
 refine⟨c,?_,?_,?_⟩
 ·rw[DP,ak hz,h];rfl
 ·rw[DP,ak hz,h];rfl
 exact⟨fun h2=>by unfold cZ at h2;omega,fun h2=>absurd h2 hz⟩
def Lp{q:Rat}{st:St}:A.C.call (.func 10 [] []) [.str (aI q)] st=some (.int .i64 (dB q.num),st):=by
 have e:(aI q==[48])=decide (q=0):=by rw[Bool.eq_iff_iff,beq_iff_eq,decide_eq_true_eq];exact Yp4
 obtain⟨c,h1,h2,h3⟩:=Yj3 q;have hp:=Yp3 q;have Tw:(0:Int)<((aI q).length:Int):=by omega
 have aX:aI q≠[]:=fun hc=>by rw[hc]at hp;simp at hp
 apply Call.eq;rw[aP,A.k10 (by simp)];by_cases h0:q=0
 ·have hn:q.num=0:=Ec.2 h0;have hs:dB q.num=0:=by rw[hn];rfl
  have e0:(aI q==[48])=true:=by rw[e];simp[h0]
  rw[hs];simp(disch:=first|(simp;done)|omega|rfl) [-getElem?_pos,A.b10,jJ,e0]
 have hn:q.num≠0:=fun hc=>h0 (Ec.1 hc);by_cases hz:q.num<0
 ·have hs:dB q.num= -1:=by unfold dB;rw[av hz]
  have hc:=h3.2 hz;rw[hs];simp(disch:=first|(simp;done)|omega|rfl) [-getElem?_pos,A.b10,jJ,e,h0,hp,h1,hc]
 have hs:dB q.num=1:=by unfold dB;rw[ak hz,ak hn]
 have hc:¬cZ c=45:=fun hc=>hz (h3.1 hc);rw[hs];simp(disch:=first|(simp;done)|omega|rfl) [-getElem?_pos,A.b10,jJ,e,h0,hp,h1,hc]
def Yyb(q:Rat):QB (-q)=QB q:=by unfold QB;rw[Rat.neg_den,Rat.neg_num,zY]
def Yrv{q:Rat}{st:St}(hl:(aI q).length<1000000000):A.C.call (.func 161 [] []) [.str (aI q)] st=some (.str (aI (-q)),st):=by
 have hs:=fun st=>Lp (q:=q) (st:=st);have dq:IntKind.max .i64=9223372036854775807:=rfl;apply Call.eq;rw[aP,A.k161 (by simp)];have gE:=DP (-q);rw[Yyb,Rat.neg_num]at gE;by_cases hz:q.num<0
 ·have e1:aI q=45::QB q:=by rw[DP,av hz]
  have e2:aI (-q)=QB q:=by rw[gE,ak (by omega)]
  have e3:dB q.num= -1:=by unfold dB;rw[av hz]
  rw[e1,e3]at hs;have a3:∀st:St,uS st (some (.str (45::QB q))) (some (some (.int .i64 1))) (some none)=some (.str (QB q),st):=fun st=>by rw[HJ (by omega) (by simp only[bl];omega)];rfl
  rw[e1,e2];simp[A.b161,hs,aC,a3]
 by_cases h0:q=0
 ·have e3:dB q.num=0:=by rw[Ec.2 h0];rfl
  rw[e3]at hs;have e4: -q=q:=by rw[h0];rfl
  rw[e4];simp[A.b161,hs]
 have hn:q.num≠0:=fun hc=>h0 (Ec.1 hc);have e1:aI q=QB q:=by rw[DP,ak hz]
 have e2:aI (-q)=45::QB q:=by rw[gE,av (by omega)]
 have e3:dB q.num=1:=by unfold dB;rw[ak hz,ak hn]
 rw[e3]at hs;rw[e1]at hs hl;have hb:¬(9223372036854775807:Int)<1+((QB q).length:Int):=by omega
 rw[e2,e1];simp[A.b161,hs,jJ,dq,hb]
def inv_divInt(q:Rat):q⁻¹=Rat.divInt (q.den:Int) q.num:=Rat.inv_def q
def Yrm{q:Rat}{st:St}(hl:(aI q).length<1000000000):A.C.call (.func 30 [] []) [.str (aI q)] st=some (.str (aM q.num),st):=by
 have cv:=fun st=>GQ (s:=aI q) (st:=st) (by omega);have h2:ah (aI q)<=(aI q).length:=by
  rw[MY];unfold aI;split
  ·exact aN _
  rw[iU];omega
 have a4:∀st:St,uS st (some (.str (aI q))) (some none) (some (some (.int .i64 (ah (aI q):Nat))))=some (.str (aM q.num),st):=fun st=>by rw[Zmp (by omega) (by omega),Int.toNat_natCast,Qe]
 apply Call.eq;rw[aP,A.k30 (by simp)];simp[A.b30,cv,aC,a4]
def Ytq{q:Rat}{st:St}(hl:(aI q).length<1000000000):A.C.call (.func 31 [] []) [.str (aI q)] st=some (.str (aq q.den),st):=by
 have cv:=fun st=>GQ (s:=aI q) (st:=st) (by omega);have aD:=Fi q;have h2:ah (aI q)<=(aI q).length:=by
  rw[MY];unfold aI;split
  ·exact aN _
  rw[iU];omega
 apply Call.eq;rw[aP,A.k31 (by simp)];by_cases hd:q.den=1
 ·have c1:(ah (aI q):Int)=((aI q).length:Int):=by omega
  rw[hd,On];simp[A.b31,cv,c1]
 have iC:=aD.2 hd;have c1:¬(ah (aI q):Int)=((aI q).length:Int):=by omega
 have c2:¬ah (aI q)=(aI q).length:=by omega
 have w1:bn .i64 ((ah (aI q):Int)+1)=(ah (aI q):Int)+1:=cN (by omega) (by omega);have zq:=Qf q hd;have a4:∀st:St,uS st (some (.str (aI q))) (some (some (.int .i64 ((ah (aI q):Int)+1)))) (some none)=some (.str (aq q.den),st):=fun st=>by
  rw[HJ (by omega) (by omega)];have:((ah (aI q):Int)+1).toNat=ah (aI q)+1:=by omega
  rw[this,zq]
 simp[A.b31,cv,c1,w1,aC,a4]
def Yp5(z:Int):aI (z:Rat)=aM z:=by unfold aI;rw[av (by simp)];simp
def Yut{st:St}(hl:(aM z).length<1000000000):A.C.call (.func 29 [] []) [.str (aM z)] st=some (.str (aq z.natAbs),st):=by
 have hs:=fun st=>Lp (q:=(z:Rat)) (st:=st);rw[Yp5]at hs;have hn:((z:Rat)).num=z:=by simp
 rw[hn]at hs;apply Call.eq;rw[aP,A.k29 (by simp)];by_cases hz:z<0
 ·have e1:aM z=45::aq z.natAbs:=by unfold aM;rw[av hz]
  have e3:dB z= -1:=by unfold dB;rw[av hz]
  rw[e1,e3]at hs;have a3:∀st:St,uS st (some (.str (45::aq z.natAbs))) (some (some (.int .i64 1))) (some none)=some (.str (aq z.natAbs),st):=fun st=>by rw[HJ (by omega) (by simp only[bl];omega)];rfl
  rw[e1];simp[A.b29,hs,aC,a3]
 have e1:aM z=aq z.natAbs:=by unfold aM;rw[ak hz]
 have e3:¬dB z<0:=by unfold dB;rw[ak hz];split<;>omega
 rw[e1]at hs;rw[e1];simp[A.b29,hs,e3]
variable {N:Nat} {a b:Int} {h:T O} {x y:V}
set_option maxHeartbeats 1000000
def A.QQ:=A.q Tryz.f145
def A.oR:=A.qt A.QQ [] [] [1,1]
def A.b145:=(fun y0=>A.qt A.QQ [] [([1,1],y0)] []) A.oR
def A.k145:=@A.kk 145 67 [.cell 4 (some 2)] A.b145 (by kernel_rfl) rfl
def A.b229:=A.q Tryz.f229
def A.k229:=@A.kk 229 9 [.cell 4 (some 2)] A.b229 (by kernel_rfl) rfl
def A.QR:=A.q Tryz.f147
def A.oS:=A.qt A.QR [] [] [1,1]
def A.b147:=(fun y0=>A.qt A.QR [] [([1,1],y0)] []) A.oS
def A.k147:=@A.kk 147 66 [.cell 4 (some 2)] A.b147 (by kernel_rfl) rfl
def A.b197:=A.q Tryz.f197
def A.k197:=@A.kk 197 29 [.tmp 4] A.b197 (by kernel_rfl) rfl
structure Ko (h:T O) (N q:Nat) (z:Int) (st:St):Prop where
 w:az N st.w=[]
 ad:ab h N st.h st.n
 ex:∃n u,st.h.get q=some (.cells [.int .i64 n,u] 99 true)/\In st.h st.n (.agg [.int .i64 n,u]) z
def Yaa(a b:Int):(a*b<0)↔((a<0)≠(b<0))/\a≠0/\b≠0:=by
 rcases Int.lt_trichotomy a 0 with ha|ha|ha<;>rcases Int.lt_trichotomy b 0 with hb|hb|hb
 ·have:=Int.mul_pos_of_neg_of_neg ha hb;simp[ha,hb];omega
 ·subst hb;simp
 ·have:=Int.mul_neg_of_neg_of_pos ha hb;have h1:¬b<0:=by omega
  simp[ha,h1,this];omega
 ·subst ha;simp
 ·subst ha;simp
 ·subst ha;simp
 ·have:=Int.mul_neg_of_pos_of_neg ha hb;have h1:¬a<0:=by omega
  simp[hb,h1,this];omega
 ·subst hb;simp
 have:=Int.mul_pos ha hb;have h1:¬a<0:=by omega
 have h2:¬b<0:=by omega
 simp[h1,h2];omega
def Zg8(h:n<B^k):(aJ n).length<=k:=by apply AK;intro hc;obtain⟨j,hj⟩:∃j,(aJ n).length=j+1:=⟨(aJ n).length-1,by omega⟩;have:=(JU hj).1;have:=rL (show 0<B by decide) (show k<=j by omega);omega
def Vi(n:Nat):n<B^(aJ n).length:=by have:=Hh (tR n);rwa [oM]at this
def Yet(a b:Int):wl (a+b)<=max (wl a) (wl b)+1:=by unfold wl;apply Zg8;have h1:=Vi a.natAbs;have h2:=Vi b.natAbs;have h3:=rL (show 0<B by decide) (Ey (aJ a.natAbs).length (aJ b.natAbs).length);have h4:=rL (show 0<B by decide) (Ev (aJ a.natAbs).length (aJ b.natAbs).length);rw[iD];generalize B^max (aJ a.natAbs).length (aJ b.natAbs).length=p at*;have:p*2<=p*B:=mZ p (by decide);omega
def QS(a:Int):wl (-a)=wl a:=by unfold wl;rw[zY]
def Kp(a b:Int):wl (a*b)<=wl a+wl b:=by unfold wl;apply Zg8;rw[wg,mT];have h1:=Vi a.natAbs;have h2:=Vi b.natAbs;exact Dh h1 h2
def Nc(h:a.natAbs<=b.natAbs):wl a<=wl b:=HL h
def Ynw(hx:In H (N+3) (.agg [.int .i64 n1,u1]) a)(hy:In H (N+3) (.agg [.int .i64 n2,u2]) b)(la:wl a<500000000000)(lb:wl b<500000000000)(hK:ab h N H (N+3))
  (gx:H.get N=some (.cells [.int .i64 n1,u1] 99 true)) (gy:H.get (N+1)=some (.cells [.int .i64 n2,u2] 99 true)) (gz:H.get (N+2)=some (.cells [.int .i64 0,.aa] 99 true)) (r2:r0.get 2=some (.ptr N 0)) (r3:r0.get 3=some (.ptr (N+1) 0)) (r4:r0.get 4=some (.ptr (N+2) 0)):
  Code A.C none A.oR ⟨r0,67,[]⟩ ⟨H,N+3,[]⟩ (fun e fr st=>e=.ret/\∃r,fr=⟨r,67,[]⟩/\r.get 4=some (.ptr (N+2) 0)/\Ko h N (N+2) (a+b) st):=by
 rw[bG];simp[A.oR,r2,gx,aS,aO];refine au (Fw hx) ?_;rintro _ h1 N1 k1 ⟨ua,rfl,QT⟩;have gT:=k1.le;have QU:=(k1.get (N+1) (by omega)).trans gy;have gz1:=(k1.get (N+2) (by omega)).trans gz;simp[r3,QU,aS,aO];refine au (Fw (hy.ad k1)) ?_;rintro _ h2 N2 k2 ⟨ub,rfl,Kq⟩;have jN:=k2.le;have gz2:=(k2.get (N+2) (by omega)).trans gz1;have ya:=QT.ad k2;have HP:(aJ a.natAbs).length<500000000000:=la;have Vj:(aJ b.natAbs).length<500000000000:=lb;have kA:=(hK.trans k1).trans k2;have QV:=Yet a b;have fin:∀(z:Int) (v:V) (h4:T O) (n4:Nat),ab h2 N2 h4 n4->In h4 n4 v z->z=a+b->∃(n5:Int) (u5:V),v=.agg [.int .i64 n5,u5]/\V.one u5=true/\h4.get (N+2)=some (.cells [.int .i64 0,.aa] 99 true)/\∀W,az N W=[]->Ko h N (N+2) (a+b) ⟨h4.set (N+2) (.cells [.int .i64 n5,u5] 99 true),n4,W⟩:=by intro z v h4 n4 k4 hv hz;obtain⟨n5,u5,rfl,kY⟩:=hv.cells;have zP:=(k4.get (N+2) (by omega)).trans gz2;subst hz;exact⟨n5,u5,rfl,kY,zP,fun W hW=>⟨hW,(kA.trans k4).set (by omega),n5,u5,by simp,hv.aG zP (by simp) rfl⟩⟩
 by_cases hs:(a<0)=(b<0)
 ·have kj:(decide (a<0)==decide (b<0))=true:=by simp[hs]
  simp[bz,kj];refine au (Zy0 ya Kq (by omega) (by omega)) ?_;rintro v h3 N3 k3 hv;have wH:a.natAbs+b.natAbs=(a+b).natAbs:=by
   by_cases h:a<0
   ·have:b<0:=by rw[hs]at h;exact h
    omega
   have:¬b<0:=by rw[hs]at h;exact h
   omega
  rw[wH]at hv;simp[];refine au (HM hv (by unfold wl at QV la lb;omega)) ?_;rintro v h4 N4 k4 hv;obtain⟨n5,u5,rfl,kY,zP,hf⟩:=fin _ _ _ _ (k3.trans k4) hv (by
   by_cases h:a<0
   ·have:b<0:=by rw[hs]at h;exact h
    simp[h];omega
   ·have:¬b<0:=by rw[hs]at h;exact h
    simp[h];omega);unfold V.one at kY;simp[zP,kY,ae,bM,r4];exact hf _ (by simp[az])
 have kj:(decide (a<0)==decide (b<0))=false:=by by_cases h:a<0<;>by_cases h':b<0<;>simp_all
 simp[bz,kj];refine au (Ziw ya Kq (by omega) (by omega)) ?_;rintro _ h3 N3 k3 rfl;have QW:=ya.ad k3;have QX:=Kq.ad k3;by_cases hc:b.natAbs<=a.natAbs
 ·have c1:(0:Int)<=xX a.natAbs b.natAbs:=by unfold xX;split<;>(try split)<;>omega
  simp[c1];refine au (Zoo QW QX hc (by omega) (by omega)) ?_;rintro v h5 N5 k5 hv;simp[];refine au (HM hv (by have:=HL (show a.natAbs-b.natAbs<=a.natAbs by omega);omega)) ?_;rintro v h4 N4 k4 hv;obtain⟨n5,u5,rfl,kY,zP,hf⟩:=fin _ _ _ _ ((k3.trans k5).trans k4) hv (by
   by_cases h:a<0
   ·have:¬b<0:=by intro h2;apply hs;simp[h,h2]
    simp[h];omega
   ·have:b<0:=by apply Decidable.byContradiction;intro h2;apply hs;simp[h,h2]
    simp[h];omega);unfold V.one at kY;simp[zP,kY,ae,bM,r4];exact hf _ (by simp[az])
 have c1:¬(0:Int)<=xX a.natAbs b.natAbs:=by unfold xX;split<;>(try split)<;>omega
 simp[c1];refine au (Zoo QX QW (by omega) (by omega) (by omega)) ?_;rintro v h5 N5 k5 hv;simp[];refine au (HM hv (by have:=HL (show b.natAbs-a.natAbs<=b.natAbs by omega);omega)) ?_;rintro v h4 N4 k4 hv;obtain⟨n5,u5,rfl,kY,zP,hf⟩:=fin _ _ _ _ ((k3.trans k5).trans k4) hv (by
  by_cases h:b<0
  ·have:¬a<0:=by intro h2;apply hs;simp[h,h2]
   simp[h];omega
  ·have:a<0:=by apply Decidable.byContradiction;intro h2;apply hs;simp[h,h2]
   simp[h];omega);unfold V.one at kY;simp[zP,kY,ae,bM,r4];exact hf _ (by simp[az])
def QY(hx:In h N x a)(hy:In h N y b)(la:wl a<500000000000)(lb:wl b<500000000000):Fn A.C 145 [x,y] h N (fun v h' n'=>In h' n' v (a+b)):=by
 intro w;rw[aP,A.k145 (by simp)];obtain⟨n1,u1,rfl,o1⟩:=hx.cells;obtain⟨n2,u2,rfl,o2⟩:=hy.cells;have kk:=aQ (aQ (aQ (ab.refl (h:=h) (n:=N)) (.cells [.int .i64 n1,u1] 99 true)) (.cells [.int .i64 n2,u2] 99 true)) (.cells [.int .i64 0,.aa] 99 true);unfold V.one at o1 o2;have go:∀r:T V,r.get 2=some (.ptr N 0)->r.get 3=some (.ptr (N+1) 0)->r.get 4=some (.ptr (N+2) 0)->bD A.C [.fin [.cell 4 (some 2)] ⟨h,N,w⟩] (fy (A.C.code none A.oR ⟨r,67,[]⟩ ⟨((h.set N (.cells [.int .i64 n1,u1] 99 true)).set (N+1) (.cells [.int .i64 n2,u2] 99 true)).set (N+1+1) (.cells [.int .i64 0,.aa] 99 true),N+1+1+1,[]⟩)) (Fa (ay (fun v h' n'=>In h' n' v (a+b)) h N w)):=by intro r r2 r3 r4;refine qV (Ynw (hx.ad kk) (hy.ad kk) la lb kk (by simp) (by simp) (by simp) r2 r3 r4) ?_;rintro e fr ⟨h5,n5,w5⟩ ⟨rfl,r',rfl,QZ,hW,hK,n6,u6,g6,hi⟩;simp only at hW hK g6 hi;simp[QZ,g6,aS,aO,ay,hW];exact⟨hK,hi⟩
 rcases id hx with⟨e1,s1,s2⟩|⟨i,o,l,c,e1,_⟩
 ·simp only[V.agg.injEq,jW,V.int.injEq,true_and,and_true]at e1;obtain⟨rfl,rfl⟩:=e1;rcases id hy with⟨e2,t1,t2⟩|⟨i,o,l,c,e2,_⟩
  ·simp only[V.agg.injEq,jW,V.int.injEq,true_and,and_true]at e2;obtain⟨rfl,rfl⟩:=e2;by_cases Db: -9223372036854775808<=n1+n2/\n1+n2<9223372036854775808
   ·have w1:bn .i64 (n1+n2)=n1+n2:=cN (by omega) (by omega);by_cases hp:0<n2
    ·have c1:n1<n1+n2:=by omega
     simp[A.b145,aS,aO,ae,bz,w1,hp,c1,ay];exact⟨kk.set (by omega),In.small (by omega) (by omega)⟩
    have c1:¬n1<n1+n2:=by omega
    simp[A.b145,aS,aO,ae,bz,w1,hp,c1,ay];exact⟨kk.set (by omega),In.small (by omega) (by omega)⟩
   obtain⟨y,rS⟩:∃y,bn .i64 (n1+n2)=y:=⟨_,rfl⟩;have zh:y=n1+n2-18446744073709551616/\0<n2\/y=n1+n2+18446744073709551616/\¬0<n2:=by rw[<-rS,BP];simp only[IntKind.wrap,IntKind.bits,IntKind.signed];simp;omega
   by_cases hp:0<n2
   ·have c1:¬n1<y:=by omega
    simp[A.b145,aS,bz,rS,hp,c1];exact go _ (by simp) (by simp) (by simp)
   have c1:n1<y:=by omega
   simp[A.b145,aS,bz,rS,hp,c1];exact go _ (by simp) (by simp) (by simp)
  simp only[V.agg.injEq,jW,V.int.injEq,true_and,and_true]at e2;obtain⟨rfl,rfl⟩:=e2;simp[A.b145,aS,bz];exact go _ (by simp) (by simp) (by simp)
 simp only[V.agg.injEq,jW,V.int.injEq,true_and,and_true]at e1;obtain⟨rfl,rfl⟩:=e1;simp[A.b145,aS,bz,o2];exact go _ (by simp) (by simp) (by simp)
def Yn4(hx:In h N x a)(hy:In h N y b)(la:wl a<500000000000)(lb:wl b<500000000000):Fn A.C 229 [x,y] h N (fun v h' n'=>In h' n' v (a-b)):=by
 intro w;rw[aP,A.k229 (by simp)];obtain⟨n1,u1,rfl,o1⟩:=hx.cells;obtain⟨n2,u2,rfl,o2⟩:=hy.cells;have kk:=aQ (aQ (aQ (ab.refl (h:=h) (n:=N)) (.cells [.int .i64 n1,u1] 99 true)) (.cells [.int .i64 n2,u2] 99 true)) (.cells [.int .i64 0,.aa] 99 true);have P1:=M7 (hy.ad kk) lb;have kO:=hx.ad kk;unfold V.one at o1 o2;simp[A.b229,aS,aO,o1,o2];refine au P1 ?_;rintro v h1 jl k1 hv;simp[];refine au (QY (kO.ad k1) hv la (by rw[QS];exact lb)) ?_;rintro v2 h2 jS k2 l8;obtain⟨n5,u5,rfl,kY⟩:=l8.cells;unfold V.one at kY;have k12:=k1.trans k2;have xS:=k12.le;have g2:=k12.get (N+1+1) (by omega);simp at g2;have aD:N+1+1<jS:=by omega
 have fi:N+1+1<jl:=by have:=k1.le;omega
 simp[g2,kY,ae,bM,aD,fi,c9.c_,ay];have he:a+ -b=a-b:=by omega
 rw[he]at l8;exact⟨(kk.trans k12).set (by omega),l8.aG g2 (by simp) rfl⟩
def Ylm(hx:In H (N+3) (.agg [.int .i64 n1,u1]) a)(hy:In H (N+3) (.agg [.int .i64 n2,u2]) b)(la:wl a<500000000000)(lb:wl b<500000000000)(hK:ab h N H (N+3))
  (gx:H.get N=some (.cells [.int .i64 n1,u1] 99 true)) (gy:H.get (N+1)=some (.cells [.int .i64 n2,u2] 99 true)) (gz:H.get (N+2)=some (.cells [.int .i64 0,.aa] 99 true)) (r2:r0.get 2=some (.ptr N 0)) (r3:r0.get 3=some (.ptr (N+1) 0)) (r4:r0.get 4=some (.ptr (N+2) 0)):
  Code A.C none A.oS ⟨r0,66,[]⟩ ⟨H,N+3,[]⟩ (fun e fr st=>e=.ret/\∃r,fr=⟨r,66,[]⟩/\r.get 4=some (.ptr (N+2) 0)/\Ko h N (N+2) (a*b) st):=by
 rw[bG];simp[A.oS,r2,gx,aS,aO];refine au (Fw hx) ?_;rintro _ h1 N1 k1 ⟨ua,rfl,QT⟩;have gT:=k1.le;have QU:=(k1.get (N+1) (by omega)).trans gy;have gz1:=(k1.get (N+2) (by omega)).trans gz;simp[r3,QU,aS,aO];refine au (Fw (hy.ad k1)) ?_;rintro _ h2 N2 k2 ⟨ub,rfl,Kq⟩;have jN:=k2.le;have gz2:=(k2.get (N+2) (by omega)).trans gz1;have ya:=QT.ad k2;have HP:(aJ a.natAbs).length<500000000000:=la;have Vj:(aJ b.natAbs).length<500000000000:=lb;have kA:=(hK.trans k1).trans k2;have QV:=Kp a b;simp[bz];refine au (Zxn ya Kq (by omega) (by omega)) ?_;rintro v h3 N3 k3 hv;have hmul:a.natAbs*b.natAbs=(a*b).natAbs:=(wg a b).symm;rw[hmul]at hv;simp[];refine au (HM hv (by unfold wl at QV la lb;omega)) ?_;rintro v h4 N4 k4 hv;obtain⟨n5,u5,rfl,kY⟩:=hv.cells;have zP:=((k3.trans k4).get (N+2) (by omega)).trans gz2;have xY:=(k3.trans k4).le;unfold V.one at kY;have hs:=Yaa a b;have he:(if (!decide (a<0)==decide (b<0))=true then -((a*b).natAbs:Int) else (a*b).natAbs)=a*b:=by
  have h0:a=0\/b=0->a*b=0:=by rintro(rfl|rfl)<;>simp
  by_cases h1:a<0<;>by_cases h2:b<0<;>simp[h1,h2]at hs ⊢<;>omega
 rw[he]at hv;simp[zP,kY,ae,bM,r4];exact⟨by simp[az],((kA.trans k3).trans k4).set (by omega),n5,u5,by simp,hv.aG zP (by simp) rfl⟩
def FA(hx:In h N x a)(hy:In h N y b)(la:wl a<500000000000)(lb:wl b<500000000000):Fn A.C 147 [x,y] h N (fun v h' n'=>In h' n' v (a*b)):=by
 intro w;rw[aP,A.k147 (by simp)];obtain⟨n1,u1,rfl,o1⟩:=hx.cells;obtain⟨n2,u2,rfl,o2⟩:=hy.cells;have kk:=aQ (aQ (aQ (ab.refl (h:=h) (n:=N)) (.cells [.int .i64 n1,u1] 99 true)) (.cells [.int .i64 n2,u2] 99 true)) (.cells [.int .i64 0,.aa] 99 true);unfold V.one at o1 o2;have go:∀r:T V,r.get 2=some (.ptr N 0)->r.get 3=some (.ptr (N+1) 0)->r.get 4=some (.ptr (N+2) 0)->bD A.C [.fin [.cell 4 (some 2)] ⟨h,N,w⟩] (fy (A.C.code none A.oS ⟨r,66,[]⟩ ⟨((h.set N (.cells [.int .i64 n1,u1] 99 true)).set (N+1) (.cells [.int .i64 n2,u2] 99 true)).set (N+1+1) (.cells [.int .i64 0,.aa] 99 true),N+1+1+1,[]⟩)) (Fa (ay (fun v h' n'=>In h' n' v (a*b)) h N w)):=by intro r r2 r3 r4;refine qV (Ylm (hx.ad kk) (hy.ad kk) la lb kk (by simp) (by simp) (by simp) r2 r3 r4) ?_;rintro e fr ⟨h5,n5,w5⟩ ⟨rfl,r',rfl,QZ,hW,hK,n6,u6,g6,hi⟩;simp only at hW hK g6 hi;simp[QZ,g6,aS,aO,ay,hW];exact⟨hK,hi⟩
 rcases id hx with⟨e1,s1,s2⟩|⟨i,o,l,c,e1,_⟩
 ·simp only[V.agg.injEq,jW,V.int.injEq,true_and,and_true]at e1;obtain⟨rfl,rfl⟩:=e1;rcases id hy with⟨e2,t1,t2⟩|⟨i,o,l,c,e2,_⟩
  ·simp only[V.agg.injEq,jW,V.int.injEq,true_and,and_true]at e2;obtain⟨rfl,rfl⟩:=e2;have z1:=fun st=>Zww s1 s2 (st:=st);have z2:=fun st=>Zww t1 t2 (st:=st);have hm:n1.natAbs*n2.natAbs=(n1*n2).natAbs:=(wg _ _).symm;have h_:bC (n1.natAbs*n2.natAbs)+18446744073709551616*cC (n1.natAbs*n2.natAbs)=(n1*n2).natAbs:=by rw[<-hm];have:=wy (n1.natAbs*n2.natAbs) 18446744073709551616;unfold bC cC;omega
   have Q0:=Yaa n1 n2;obtain⟨hi,iY⟩:∃x,cC (n1.natAbs*n2.natAbs)=x:=⟨_,rfl⟩;obtain⟨lo,Cq⟩:∃x,bC (n1.natAbs*n2.natAbs)=x:=⟨_,rfl⟩;rw[iY,Cq]at h_;have hz:n1=0\/n2=0->n1*n2=0:=by rintro(rfl|rfl)<;>simp
   simp[A.b147,aS,bz,z1,z2];refine au (PC (x:=n1.natAbs) (y:=n2.natAbs) (by omega) (by omega)) ?_;rintro _ h' N' k ⟨rfl,rfl,rfl⟩;rw[iY,Cq];by_cases h0:hi=0
   ·by_cases h1:lo<=9223372036854775807
    ·have iz:(lo:Int)<=9223372036854775807:=by omega
     have w1:bn .i64 (lo:Int)=lo:=cN (by omega) (by omega);have w2:IntKind.wrap .i64 (-(lo:Int))= -(lo:Int):=O4 (by omega) (by omega);by_cases hs:(n1<0)=(n2<0)
     ·have kj:(decide (n1<0)==decide (n2<0))=true:=by simp[hs]
      have hp:¬n1*n2<0:=by rw[Q0];rintro⟨p,_⟩;exact p hs
      have he:(lo:Int)=n1*n2:=by omega
      simp[aS,aO,ae,bz,h0,iz,kj,w1,ay,c9.c_];exact⟨kk.set (by omega),by rw[<-he];exact In.small (by omega) (by omega)⟩
     have kj:(decide (n1<0)==decide (n2<0))=false:=by by_cases h:n1<0<;>by_cases h':n2<0<;>simp_all
     have he: -(lo:Int)=n1*n2:=by
      by_cases hq:n1=0\/n2=0
      ·have:=hz hq;omega
      have:n1*n2<0:=Q0.2 ⟨hs,fun h=>hq (.inl h),fun h=>hq (.inr h)⟩;omega
     simp[aS,aO,ae,bz,h0,iz,kj,w1,w2,ay,c9.c_];exact⟨kk.set (by omega),by rw[<-he];exact In.small (by omega) (by omega)⟩
    have iz:¬(lo:Int)<=9223372036854775807:=by omega
    simp[h0,iz,c9.c_];exact go _ (by simp) (by simp) (by simp)
   simp[h0,c9.c_];exact go _ (by simp) (by simp) (by simp)
  simp only[V.agg.injEq,jW,V.int.injEq,true_and,and_true]at e2;obtain⟨rfl,rfl⟩:=e2;simp[A.b147,aS,bz];exact go _ (by simp) (by simp) (by simp)
 simp only[V.agg.injEq,jW,V.int.injEq,true_and,and_true]at e1;obtain⟨rfl,rfl⟩:=e1;simp[A.b147,aS,bz,o2];exact go _ (by simp) (by simp) (by simp)
def Yxw(hx:In h N x a)(hy:In h N y b)(la:wl a<100000000000)(lb:wl b<100000000000):Fn A.C 197 [x,y] h N (fun v _ _=>v=.int .i64 (dB (a-b))):=by
 intro w;rw[aP,A.k197 (by simp)];obtain⟨n1,u1,rfl,o1⟩:=hx.cells;obtain⟨n2,u2,rfl,o2⟩:=hy.cells;have kk:=aQ (aQ (ab.refl (h:=h) (n:=N)) (.cells [.int .i64 n1,u1] 99 true)) (.cells [.int .i64 n2,u2] 99 true);have AZ:=Yn4 (hx.ad kk) (hy.ad kk) (by omega) (by omega);have QV:=Yet a (-b);rw[QS]at QV;unfold V.one at o1 o2;rcases id hx with⟨e1,s1,s2⟩|⟨i,o,l,c,e1,_⟩
 ·simp only[V.agg.injEq,jW,V.int.injEq,true_and,and_true]at e1;obtain⟨rfl,rfl⟩:=e1;rcases id hy with⟨e2,t1,t2⟩|⟨i,o,l,c,e2,_⟩
  ·simp only[V.agg.injEq,jW,V.int.injEq,true_and,and_true]at e2;obtain⟨rfl,rfl⟩:=e2;by_cases h1:n1<n2
   ·simp[A.b197,aS,ay,bz,h1];exact⟨kk,by unfold dB;rw[av (by omega)]⟩
   by_cases h2:n2<n1
   ·simp[A.b197,aS,ay,bz,h1,h2];exact⟨kk,by unfold dB;rw[ak (by omega),ak (by omega)]⟩
   simp[A.b197,aS,ay,bz,h1,h2];exact⟨kk,by unfold dB;rw[ak (by omega),av (by omega)]⟩
  simp only[V.agg.injEq,jW,V.int.injEq,true_and,and_true]at e2;obtain⟨rfl,rfl⟩:=e2;simp[A.b197,aS,aO,bz];refine au AZ ?_;rintro v h1 jl k1 hv;simp[];refine au (Kj hv) ?_;rintro _ h2 jS k2 rfl;simp[ay];exact(kk.trans k1).trans k2
 simp only[V.agg.injEq,jW,V.int.injEq,true_and,and_true]at e1;obtain⟨rfl,rfl⟩:=e1;simp[A.b197,aS,aO,bz,o2];refine au AZ ?_;rintro v h1 jl k1 hv;simp[];refine au (Kj hv) ?_;rintro _ h2 jS k2 rfl;simp[ay];exact(kk.trans k1).trans k2
def Ypk(hx:In h N x a)(la:wl a<500000000000):Fn A.C 227 [x] h N (fun v h' n'=>In h' n' v (a.natAbs:Int)):=by
 intro w;rw[aP,A.k227 (by simp)];obtain⟨n1,u1,rfl,o1⟩:=hx.cells;have kk:=aQ (aQ (ab.refl (h:=h) (n:=N)) (.cells [.int .i64 n1,u1] 99 true)) (.cells [.int .i64 0,.aa] 99 true);have P1:=M7 (hx.ad kk) la;have C0:(n1<0)=(a<0):=by
  rcases hx with⟨e1,s1,s2⟩|⟨i,o,l,c,e1,_⟩
  ·simp only[V.agg.injEq,jW,V.int.injEq,true_and,and_true]at e1;rw[e1.1]
  simp only[V.agg.injEq,jW,V.int.injEq,true_and,and_true]at e1;rw[e1.1];unfold Ap;split<;>simp_all
 unfold V.one at o1;by_cases h0:a<0
 ·have h1:n1<0:=by rw[C0];exact h0
  simp[A.b227,aS,aO,o1,h1];refine au P1 ?_;rintro v h2 n2 k2 hv;obtain⟨n5,u5,rfl,kY⟩:=hv.cells;unfold V.one at kY;have g2:=k2.get (N+1) (by omega);simp at g2;have he:(-a)=(a.natAbs:Int):=by omega
  rw[he]at hv;simp[g2,kY,ae,bM,aS,aO,ay];exact⟨(kk.trans k2).set (by omega),hv.aG g2 (by simp) rfl⟩
 have h1:¬n1<0:=by rw[C0];exact h0
 have he:a=(a.natAbs:Int):=by omega
 rw[he]at hx;simp[A.b227,aS,aO,ae,bM,o1,h1,ay];exact⟨kk.set (by omega),(hx.ad kk).aG (i:=N+1) (c0:=[.int .i64 0,.aa]) (e0:=99) (w0:=true) (by simp) (by simp) rfl⟩
end
end Go.Mx
