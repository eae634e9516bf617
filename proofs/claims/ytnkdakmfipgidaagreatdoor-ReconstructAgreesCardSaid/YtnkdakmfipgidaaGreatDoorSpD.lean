/-reconstruct-/
import Derived.Test.YtnkdakmfipgidaaGreatDoorSpA
set_option linter.all false
set_option maxHeartbeats 4000000
namespace Go.Mx
noncomputable section
open Go Go.Proofs
set_option maxRecDepth 1000000
def DO{h:T O}{N:Nat}{v:V}{m:List (List Rat)}(s:gF h N v m){i:Nat}{row:List Rat}(hr:m[i]?=some row):∃j o c e rw u,yo v=some (j,o)/\j<N/\h.get j=some (.cells c e rw)/\c[o+i]?=some u/\ec h N u row:=by obtain⟨us,h1,h2,h3⟩:=s;obtain⟨u,a,b⟩:=h3 i row hr;obtain⟨j,o,c,e,rw,q1,q2,q3,q4⟩:=h1.at a;exact⟨j,o,c,e,rw,u,q1,q2,q3,q4,b⟩
variable {N k:Nat} {h:T O} {u:V}
def A.RN:=A.q Tryz.f135
def A.tE:=A.ql A.RN 0 []
def A.b135:=(fun x0=>A.qb A.RN [x0]) A.tE
def A.k135:=@A.kk 135 32 [.tmp 6] A.b135 (by kernel_rfl) rfl
def A.RO:=A.q Tryz.f137
def A.tF:=A.ql A.RO 0 []
def A.b137:=(fun x0=>A.qb A.RO [x0]) A.tF
def A.k137:=@A.kk 137 32 [.tmp 6] A.b137 (by kernel_rfl) rfl
def A.b138:=A.q Tryz.f138
def A.k138:=@A.kk 138 9 [.tmp 4] A.b138 (by kernel_rfl) rfl
def A.w46:=A.q Tryz.f46
def A.xW:=A.ql A.w46 0 []
def A.b46:=(fun x0=>A.qb A.w46 [x0]) A.xW
def A.k46:=@A.kk 46 29 [.tmp 2,.tmp 3] A.b46 (by kernel_rfl) rfl
def A.b53:=A.q Tryz.f53
def A.k53:=@A.kk 53 8 [.tmp 4] A.b53 (by kernel_rfl) rfl
def A.b136:=A.q Tryz.f136
def A.k136:=@A.kk 136 8 [.tmp 4] A.b136 (by kernel_rfl) rfl
def Yfh{p q:Rat}:p.num*(q.den:Int)-q.num*(p.den:Int)=0↔p=q:=by
 constructor
 ·intro h;have h1:p.num*(q.den:Int)=q.num*(p.den:Int):=by omega
  have a:((p.den:Nat):Int)≠0:=by have:=p.den_nz;omega
  have b:((q.den:Nat):Int)≠0:=by have:=q.den_nz;omega
  rw[<-AO p,<-AO q];exact(Rat.divInt_eq_divInt_iff a b).2 h1
 intro h;subst h;omega
def Yxu{z:Int}:eE z=0↔z=0:=by
 unfold eE;constructor
 ·intro h;split at h
  ·omega
  split at h<;>omega
 intro h;subst h;rfl
def Yl6{c d:List V}{p q:Rat}(hc:fV h N c p)(hd:fV h N d q)(hp:Qb k p)(hq:Qb k q)(hk:k<=400000000):Fn A.C 138 [.agg c,.agg d] h N (fun x _ _=>x=.bool (decide (p=q))):=by
 intro w;obtain⟨c1,c2⟩:=hc.len;obtain⟨d1,d2⟩:=hd.len;have w1:=hp.DF;have w2:=hq.DF;have mW:∀c:List V,(V.agg c).cells=c:=fun _=>rfl;have s0:=MW c1;have s1:=MW d1;have kB:ab h N ((h.set N (.cells c 123 true)).set (N+1) (.cells d 123 true)) (N+1+1):=(ab.refl.new _).new _;have n1:¬N=N+1:=by omega
 rw[aN,A.k138 (by simp)];simp[-V.cells, -V.one,A.b138,mW,c2,d2,s0,s1];refine av (Ysg (hc.ad kB).fc (hd.ad kB).fc (by omega) (by omega) (by omega) (by omega)) ?_;rintro _ H2 n2 k2 rfl;simp[ax];refine⟨kB.trans k2,?_⟩;rw[Yxu];exact Yfh
def Ywe{v:V}{a b:List Rat}(hu:kf h N u a)(hv:kf h N v b)(ha:∀q∈a,Qb k q)(hb:∀q∈b,Qb k q)(hk:k<=400000000)(hl:a.length<100000)(il:b.length<100000):Fn A.C 137 [u,v,.func 138 [] []] h N (fun x _ _=>x=.bool (decide (a=b))):=by
 intro w;have l1:=hu.len;have l2:=hv.len;rw[aN,A.k137 (by simp)];by_cases e:a.length=b.length
 ·have e':(a.length:Int)=(b.length:Int):=by omega
  simp[A.b137,l1,l2,e];refine cm [(6,9),(17,31)] (fun x r st=>ay N st.w=[]/\ab h N st.h st.n/\((x=.exit 0/\a=b)\/(x=.ret/\a≠b/\r.get 6=some (.bool false)))) (fun m r st=>ay N st.w=[]/\ab h N st.h st.n/\∃t,t+m=b.length/\r.get 17=some (.int .i64 t)/\(a=b↔a.drop t=b.drop t)) b.length ?_ ?_ ?_
  ·exact⟨by simp,ab.refl,0,by omega,by simp,by simp⟩
  ·rintro m r ⟨H,n,W⟩ hr hf ⟨hW,hK,t,ht,At,hz⟩;simp only at hW hK;rw[bu];cases m with
   |zero=>
    obtain rfl:t=b.length:=by omega
    have fX:a=b:=hz.2 (by rw[wP (by omega),wP (by omega)]);simp[A.tF,hr,hf,At,hW,hK];exact fX
   |succ m=>
    have aC:t<b.length:=by omega
    have cg:(t:Int)<(b.length:Int):=by omega
    have MF:t<a.length:=by omega
    obtain⟨p,hp⟩:=bj MF;obtain⟨q,hq⟩:=bj aC;obtain⟨i1,o1,x1,e1,w1,c,p1,p2,p3,p4,p5⟩:=(hu.ad hK).at hp;obtain⟨i2,o2,x2,e2,w2,d,q1,q2,q3,q4,q5⟩:=(hv.ad hK).at hq;obtain⟨c1,c2⟩:=p5.len;obtain⟨d1,d2⟩:=q5.len;have mW:∀c:List V,(V.agg c).cells=c:=fun _=>rfl;have s0:=MW c1;have s1:=MW d1;have f0:=VO c1;have f1:=VO d1;have m1:¬i1=n:=by omega
    have m2:¬i2=n:=by omega
    have m3:¬n=n+1:=by omega
    have m4:i2<n+1:=by omega
    have m5:i1<n+1:=by omega
    rw[jN hp,jN hq,iH]at hz;simp[-V.cells, -V.one,A.tF,hr,At,cg,l1,l2,e,p1,p3,p4,q1,q3,q4,bO,mW,c1,c2,d1,d2,s0,s1,f0,f1,m2];have kB:ab H n ((((H.set n (.cells [.int .i64 0,.aa,.int .i64 0,.aa] 123 true)).set n (.cells c 123 true)).set (n+1) (.cells [.int .i64 0,.aa,.int .i64 0,.aa] 123 true)).set (n+1) (.cells d 123 true)) (n+1+1):=(((ab.refl.new _).set (aO _)).new _).set (by omega);generalize (((H.set n (.cells [.int .i64 0,.aa,.int .i64 0,.aa] 123 true)).set n (.cells c 123 true)).set (n+1) (.cells [.int .i64 0,.aa,.int .i64 0,.aa] 123 true)).set (n+1) (.cells d 123 true)=G at*;refine av (Yl6 (p5.ad kB) (q5.ad kB) (ha p (cF hp)) (hb q (cF hq)) hk) ?_;rintro _ H3 n3 k3 rfl;have le:=hK.le;have u1:¬n<N:=by omega
    have u2:¬n+1<N:=by omega
    by_cases y_:p=q
    ·simp(disch:=first|(simp;done)|omega|rfl) [hf,At,y_,hW,u1,u2];exact⟨m,by omega,(hK.trans kB).trans k3,t+1,by omega,by simp,by simpa[y_]using hz⟩
    simp[hf,y_,hW,u1,u2];exact⟨(hK.trans kB).trans k3,fun hc=>y_ (hz.1 hc).1⟩
  rintro x r ⟨H,n,W⟩ hr ⟨hW,hK,⟨rfl,hz⟩|⟨rfl,hz,h6⟩⟩
  ·simp only at hW hK;simp[hz,ax,hW,hK]
  simp only at hW hK;simp[h6,ax,hW,hK,hz]
 have e':¬(a.length:Int)=(b.length:Int):=by omega
 have fX:a≠b:=fun hc=>e (by rw[hc]);simp[A.b137,l1,l2,e',ax];exact⟨ab.refl,fX⟩
def Yp8{v:V}{a b:List (List Rat)}(hu:gF h N u a)(hv:gF h N v b)(ha:bz a k)(hb:bz b k)(hk:k<=400000000)(hl:a.length<100000)(il:b.length<100000)(hx:∀r∈a,r.length<100000)(hy:∀r∈b,r.length<100000):Fn A.C 53 [u,v] h N (fun x _ _=>x=.bool (decide (a=b))):=by
 intro w;have l1:=hu.len;have l2:=hv.len;rw[aN,A.k53 (by simp)];simp[A.b53];have key:Fn A.C 135 [u,v,.func 136 [] []] h N (fun x _ _=>x=.bool (decide (a=b))):=by
  intro w;rw[aN,A.k135 (by simp)];by_cases e:a.length=b.length
  ·have e':(a.length:Int)=(b.length:Int):=by omega
   simp[A.b135,l1,l2,e];refine cm [(6,9),(17,31)] (fun x r st=>ay N st.w=[]/\ab h N st.h st.n/\((x=.exit 0/\a=b)\/(x=.ret/\a≠b/\r.get 6=some (.bool false)))) (fun m r st=>ay N st.w=[]/\ab h N st.h st.n/\∃t,t+m=b.length/\r.get 17=some (.int .i64 t)/\(a=b↔a.drop t=b.drop t)) b.length ?_ ?_ ?_
   ·exact⟨by simp,ab.refl,0,by omega,by simp,by simp⟩
   ·rintro m r ⟨H,n,W⟩ hr hf ⟨hW,hK,t,ht,At,hz⟩;simp only at hW hK;rw[bu];cases m with
    |zero=>
     obtain rfl:t=b.length:=by omega
     have fX:a=b:=hz.2 (by rw[wP (by omega),wP (by omega)]);simp[A.tE,hr,hf,At,hW,hK];exact fX
    |succ m=>
     have aC:t<b.length:=by omega
     have cg:(t:Int)<(b.length:Int):=by omega
     have MF:t<a.length:=by omega
     obtain⟨p,hp⟩:=bj MF;obtain⟨q,hq⟩:=bj aC;obtain⟨i1,o1,x1,e1,w1,c,p1,p2,p3,p4,p5⟩:=DO (hu.ad hK) hp;obtain⟨i2,o2,x2,e2,w2,d,q1,q2,q3,q4,q5⟩:=DO (hv.ad hK) hq;rw[jN hp,jN hq,iH]at hz;have HY:=cF hp;have hqm:=cF hq;simp[A.tE,hr,At,cg,l1,l2,e,p1,p3,p4,q1,q3,q4];have call:Fn A.C 136 [c,d] H n (fun x _ _=>x=.bool (decide (p=q))):=by intro w;rw[aN,A.k136 (by simp)];simp[A.b136];refine av (Ywe p5.1 q5.1 (ha p HY) (hb q hqm) hk (hx p HY) (hy q hqm)) ?_;rintro _ H3 n3 k3 rfl;simp[ax];exact k3
     refine av call ?_;rintro _ H3 n3 k3 rfl;by_cases y_:p=q
     ·simp(disch:=first|(simp;done)|omega|rfl) [hf,At,y_,hW];exact⟨m,by omega,hK.trans k3,t+1,by omega,by simp,by simpa[y_]using hz⟩
     simp[hf,y_,hW];exact⟨hK.trans k3,fun hc=>y_ (hz.1 hc).1⟩
   rintro x r ⟨H,n,W⟩ hr ⟨hW,hK,⟨rfl,hz⟩|⟨rfl,hz,h6⟩⟩
   ·simp only at hW hK;simp[hz,ax,hW,hK]
   simp only at hW hK;simp[h6,ax,hW,hK,hz]
  have e':¬(a.length:Int)=(b.length:Int):=by omega
  have fX:a≠b:=fun hc=>e (by rw[hc]);simp[A.b135,l1,l2,e',ax];exact⟨ab.refl,fX⟩
 refine av key ?_;rintro _ H3 n3 k3 rfl;simp[ax];exact k3
def Tc{m:List (List Rat)}(hu:gF h N u m)(hP:ik h N)(hl:m.length<10000)(hr:∀r∈m,r.length<1000000000)(hq:bz m k)(hk:k<=400000000):Fn A.C 46 [u] h N (fun x h' n'=>(vt m=true/\x=.aV [.aa,.int .i64 4])\/(vt m=false/\∃v,x=.aV [v,.int .i64 0]/\mX h' n' v m)):=by
 intro w;have l1:=hu.len;rw[aN,A.k46 (by simp)];simp[A.b46,l1];refine cm [(2,4),(6,8),(11,27)] (fun e r st=>ay N st.w=[]/\ab h N st.h st.n/\((e=.exit 0/\vt m=false/\∃v,r.get 4=some v/\za N st.h st.n v m)\/(e=.ret/\vt m=true/\r.get 2=some .aa/\r.get 3=some (.int .i64 4)))) (fun i r st=>ay N st.w=[]/\ab h N st.h st.n/\∃t v,t+i=m.length/\r.get 11=some (.int .i64 t)/\vt m=vt (m.drop t)/\r.get 4=some v/\za N st.h st.n v (m.take t)) m.length ?_ ?_ ?_
 ·exact⟨by simp,ab.refl,0,_,by omega,by simp,by simp,by simp,za.nil⟩
 ·rintro i r ⟨H,n,W⟩ fv hf ⟨hW,hK,t,v,ht,mB,hz,h4,hO⟩;simp only at hW hK hO;rw[bu];have le:=hK.le;cases i with
  |zero=>
   obtain rfl:t=m.length:=by omega
   rw[pw]at hz;rw[gp (aO _)]at hO;have FL:vt m=false:=by rw[hz];rfl
   simp[A.xW,fv,hf,mB,h4,FL,hW,hK];exact hO
  |succ i=>
   have aC:t<m.length:=by omega
   have cg:(t:Int)<(m.length:Int):=by omega
   obtain⟨row,az⟩:=bj aC;have hm:=cF az;obtain⟨i1,o1,x1,e1,w1,c,p1,p2,p3,p4,p5⟩:=DO (hu.ad hK) az;rw[jN az]at hz;simp[A.xW,fv,mB,cg,l1,p1,p3,p4];refine av (Zyo p5.1 (hP.ad hK) (hr row hm) (hq row hm) hk) ?_;rintro _ H3 n3 k3 (⟨hb,rfl⟩|⟨hb,x,rfl,tx⟩)
   ·have FL:vt m=true:=by rw[hz];simp[vt,hb]
    simp[hf,hW,FL];exact hK.trans k3
   have FL:vt m=vt (m.drop (t+1)):=by rw[hz];simp[vt,hb]
   have ox:V.one x=true/\V.cells x=[x]:=⟨Sl.Nh tx.1,Sl.AF tx.1⟩;have wc:=k3.le;have kD:ab H3 n3 (H3.set n3 (.cells [x] 23 true)) (n3+1):=ab.refl.new _;have AI:ag [V.aa] 0 [x]=[x]:=rfl;obtain⟨v',h',w',j1,j2,j3,j4⟩:=za.push (N0:=N) (x:=.slice n3 0 1 (some 1) 1) (w:=W) ((hO.ad k3).ad kD) (Ay.ad tx kD) (by omega) (by simp[gb,St.row,aL]) (by rw[iX];omega);have kF:ab h N h' (n3+1+1):=((hK.trans k3).trans kD).then j3;simp(disch:=first|(simp;done)|omega|rfl) [-V.cells, -V.one,hf,mB,h4,FL,ox.1,ox.2,AI,Ie,j1];exact⟨i,by omega,by rw[j2];exact hW,kF,t+1,by omega,by simp,rfl,by rw[DQ,az];exact j4⟩
 rintro e r ⟨H,n,W⟩ fv ⟨hW,hK,⟨rfl,hz,v,h4,hO⟩|⟨rfl,hz,h2,h3⟩⟩
 ·simp only at hW hK hO;simp[h4,ax,hW,hK,hz];exact hO.txm
 simp only at hW hK;simp[h2,h3,ax,hW,hK,hz]
def A.b27:=A.q Tryz.f27
def A.k27:=@A.kk 27 31 [.tmp 4] A.b27 (by kernel_rfl) rfl
def A.w8:=A.q Tryz.f8
def A.Ct:=A.ql A.w8 0 []
def A.b8:=(fun x0=>A.qb A.w8 [x0]) A.Ct
def A.k8:=@A.kk 8 25 [.tmp 6] A.b8 (by kernel_rfl) rfl
def NP(q:Rat)(d:Nat):Bool:=decide ((an q.num.natAbs).length<=d)&&decide ((an q.den).length<=d)
def wF(s:aD)(d:Nat):Bool:=decide (s.length<=2*d+2)&&(decide (aS s=0)&&NP (jh s) d)
def nD(l:List aD)(n d:Nat):Bool:=decide (l.length<=n)&&l.all fun s=>wF s d
def Zv2(q:Rat):(aK q.num).length<=(aP q).length:=by unfold aP;split<;>simp
def Yv8{h:T O}{N d:Nat}{s:aD}(hd:d<=100):Fn A.C 27 [.str s,.int .i64 (d:Nat)] h N (fun u _ _=>u=.bool (wF s d)):=by
 intro w;rw[aN,A.k27 (by simp)];by_cases c1:s.length<=2*d+2
 ·have c1':(s.length:Int)<=2*(d:Int)+2:=by omega
  simp(disch:=omega) [A.b27,c1'];refine av (Zt3 (s:=s) (by omega)) ?_;rintro _ h1 n1 k1 rfl;by_cases c2:aS s=0
  ·have et:=(HW c2).1;obtain⟨q,hq⟩:∃q,jh s=q:=⟨_,rfl⟩;rw[hq]at et;have hl:(aP q).length<1000000000:=by rw[et];omega
   have e1:=fun st=>Yqw (q:=q) (st:=st) hl;have e2:=fun st=>Yst (q:=q) (st:=st) hl;rw[et]at e1 e2;have Hw:(aK q.num).length<1000000000:=by have:=Zv2 q;rw[et]at this;omega
   have e3:=fun st=>Yty (z:=q.num) (st:=st) Hw;by_cases c3:(an q.num.natAbs).length<=d
   ·have c3':((an q.num.natAbs).length:Int)<=(d:Int):=by omega
    by_cases c4:(an q.den).length<=d
    ·have c4':((an q.den).length:Int)<=(d:Int):=by omega
     simp[c2,e1,e2,e3,c3',c4',ax];exact⟨k1,by simp[wF,NP,c1,c2,hq,c3,c4]⟩
    have c4':¬((an q.den).length:Int)<=(d:Int):=by omega
    simp[c2,e1,e2,e3,c3',c4',ax];exact⟨k1,by simp[wF,NP,c1,c2,hq,c3,c4]⟩
   have c3':¬((an q.num.natAbs).length:Int)<=(d:Int):=by omega
   simp[c2,e1,e3,c3',ax];exact⟨k1,by simp[wF,NP,c1,c2,hq,c3]⟩
  have c2':¬((aS s:Nat):Int)=0:=by omega
  simp[c2,ax];exact⟨k1,by simp[wF,c2]⟩
 have c1':¬(s.length:Int)<=2*(d:Int)+2:=by omega
 simp(disch:=omega) [A.b27,c1',ax];exact⟨ab.refl,by simp[wF,c1]⟩
def Tk{h:T O}{N d n:Nat}{v:V}{l:List aD}(hs:Sl h N v (strs l))(hl:l.length<9223372036854775808)(hd:d<=100)(hn:n<=1000):Fn A.C 8 [v,.int .i64 (n:Nat),.int .i64 (d:Nat)] h N (fun u _ _=>u=.bool (nD l n d)):=by
 intro w;have hlen:=hs.len;rw[m7]at hlen;rw[aN,A.k8 (by simp)];by_cases c0:l.length<=n
 ·have c0':¬(n:Int)<(l.length:Int):=by omega
  have e0:nD l n d=l.all fun s=>wF s d:=by simp[nD,c0]
  rw[e0];simp[A.b8,hlen,c0'];refine cm [(6,7),(12,24)] (fun e r st=>ay N st.w=[]/\ab h N st.h st.n/\((e=.exit 0/\(l.all fun s=>wF s d)=true)\/(e=.ret/\(l.all fun s=>wF s d)=false/\r.get 6=some (.bool false)))) (fun m r st=>ay N st.w=[]/\ab h N st.h st.n/\∃k,k+m=l.length/\r.get 7=some (.int .i64 k)/\(l.all fun s=>wF s d)=((l.drop k).all fun s=>wF s d)) l.length ?_ ?_ ?_
  ·exact⟨by simp,ab.refl,0,by omega,by simp,by simp⟩
  ·rintro m r ⟨H,n1,W⟩ hr hf ⟨hW,hK,k,hk,h7,hz⟩;simp only at hW hK;rw[bu];cases m with
   |zero=>
    obtain rfl:k=l.length:=by omega
    rw[pw,List.all_nil]at hz;simp[A.Ct,hr,hf,h7,hlen,hW,hK];simpa using hz
   |succ m=>
    have aC:k<l.length:=by omega
    have cg:(k:Int)<(l.length:Int):=by omega
    obtain⟨s,hsk⟩:=bj aC;obtain⟨i,o,cc,e,rw,q1,q2,q3,q4⟩:=(hs.ad hK).at (GH hsk);rw[jN hsk,List.all_cons]at hz;simp[A.Ct,hr,h7,hlen,cg,q1,q3,q4];refine av (Yv8 (s:=s) hd) ?_;rintro _ h3 n3 k3 rfl;have kk:=hK.trans k3;cases xw:wF s d with
    |true=> rw[xw,Bool.true_and]at hz;simp(disch:=first|(simp;done)|omega|rfl) [hf,h7,hW];exact⟨m,by omega,kk,k+1,by omega,by simp,by simpa using hz⟩
    |false=> rw[xw,Eu]at hz;simp[hf,hW];exact⟨kk,by simpa using hz⟩
  rintro e r ⟨H,n1,W⟩ hr ⟨hW,hK,⟨rfl,hz⟩|⟨rfl,hz,h6⟩⟩
  ·simp only at hW hK;simp[ax,hW,hK];simpa using hz
  simp only at hW hK;simp[h6,ax,hW,hK];simpa using hz
 have c0':(n:Int)<(l.length:Int):=by omega
 simp[A.b8,hlen,c0',ax];exact⟨ab.refl,by simp[nD,c0]⟩
variable {a b:Nat}
def A.w4:=A.q Tryz.f4
def A.Cu:=A.ql A.w4 0 []
def A.b4:=(fun x0=>A.qb A.w4 [x0]) A.Cu
def A.k4:=@A.kk 4 48 [.tmp 8] A.b4 (by kernel_rfl) rfl
def Zzp{k:Nat}(h:qh k a=true)(fX:a<=b):qh k b=true:=by unfold qh at*;have:=of_decide_eq_true h;exact decide_eq_true (by omega)
def Yeo{l:List aD}(h:dJ a l=true)(fX:a<=b):dJ b l=true:=by unfold dJ at*;rw[gI]at*;exact⟨Zzp h.1 fX,h.2⟩
def Za{m:List (List aD)}{c d:Nat}(h:nE a b m=true)(hac:a<=c)(Hx:b<=d):nE c d m=true:=by unfold nE at*;rw[gI]at*;exact⟨Zzp h.1 hac,jY.2 fun x hx=>Yeo (jY.1 h.2 x hx) Hx⟩
def AY(m:List (List aD))(r c d:Nat):Bool:=nE r c m&&(decide (m.length<=r)&&(decide (iF m 64 16=0)&&(decide (ba m<=c)&&m.all fun l=>nD l c d)))
def Yse{h:T O}{N r0 c d:Nat}{v:V}{m:List (List aD)}(hs:dq h N v m)(hl:m.length<9223372036854775808)(hx:∀x∈m,x.length<9223372036854775808)(fv:r0<=6)(hc:c<=6)(hd:d<=100):Fn A.C 4 [v,.int .i64 (r0:Nat),.int .i64 (c:Nat),.int .i64 (d:Nat)] h N (fun u _ _=>u=.bool (AY m r0 c d)):=by
 intro w;have hlen:=hs.len;have RP:=fun w=>Yj0 (w:=w) (n:=r0) (p:=c) hs hl hx (by omega) (by omega);rw[aN,A.k4 (by simp)];cases Dz:nE r0 c m with
 |false=> rw[Dz]at RP;simp[A.b4,RP,ax];exact⟨ab.refl,by simp[AY,Dz]⟩
 |true=>
  rw[Dz]at RP;by_cases c1:m.length<=r0
  ·have c1':¬(r0:Int)<(m.length:Int):=by omega
   obtain⟨x1,x2⟩:=Ls (Za Dz fv hc);simp[A.b4,RP,hlen,c1'];refine av (Ykf hs x1 x2) ?_;rintro _ h1 n1 k1 rfl;by_cases c2:iF m 64 16=0
   ·obtain⟨l0,cH,h0⟩:∃l0,m[0]?=some l0/\ba m=l0.length:=by
     cases m with
     |nil=>simp[iF]at c2
     |cons a m=>exact⟨a,rfl,rfl⟩
    obtain⟨i,o,cc,e,rw,u0,q1,q2,q3,q4,q5⟩:=(hs.ad k1).at cH;have l5:=q5.len;rw[m7]at l5;have m0:0<m.length:=gZ cH;have Ec:(0:Int)<(m.length:Int):=by omega
    rw[gE]at q4;by_cases c3:ba m<=c
    ·have c3':¬(c:Int)<(l0.length:Int):=by omega
     have e0:AY m r0 c d=m.all fun l=>nD l c d:=by simp[AY,Dz,c1,c2,c3]
     rw[e0];simp[c2,hlen,m0,q1,q3,q4,l5,c3'];refine cm [(8,9),(34,47)] (fun e r st=>ay N st.w=[]/\ab h N st.h st.n/\((e=.exit 0/\(m.all fun l=>nD l c d)=true)\/(e=.ret/\(m.all fun l=>nD l c d)=false/\r.get 8=some (.bool false)))) (fun j r st=>ay N st.w=[]/\ab h N st.h st.n/\∃k,k+j=m.length/\r.get 9=some (.int .i64 k)/\(m.all fun l=>nD l c d)=((m.drop k).all fun l=>nD l c d)) m.length ?_ ?_ ?_
     ·exact⟨by simp,k1,0,by omega,by simp,by simp⟩
     ·rintro j r ⟨H,n2,W⟩ hr hf ⟨hW,hK,k,hk,h9,hz⟩;simp only at hW hK;rw[bu];cases j with
      |zero=>
       obtain rfl:k=m.length:=by omega
       rw[pw,List.all_nil]at hz;simp[A.Cu,hr,hf,h9,hlen,hW,hK];simpa using hz
      |succ j=>
       have aC:k<m.length:=by omega
       have cg:(k:Int)<(m.length:Int):=by omega
       obtain⟨l,fl⟩:=bj aC;obtain⟨i,o,cc,e,rw,u1,q1,q2,q3,q4,q5⟩:=(hs.ad hK).at fl;rw[jN fl,List.all_cons]at hz;have zo:=hx l (cF fl);simp[A.Cu,hr,h9,hlen,cg,q1,q3,q4];refine av (Tk q5 zo hd (by omega)) ?_;rintro _ h3 n3 k3 rfl;have kk:=hK.trans k3;cases xw:nD l c d with
       |true=> rw[xw,Bool.true_and]at hz;simp(disch:=first|(simp;done)|omega|rfl) [hf,h9,hW];exact⟨j,by omega,kk,k+1,by omega,by simp,by simpa using hz⟩
       |false=> rw[xw,Eu]at hz;simp[hf,hW];exact⟨kk,by simpa using hz⟩
     rintro e r ⟨H,n1,W⟩ hr ⟨hW,hK,⟨rfl,hz⟩|⟨rfl,hz,h6⟩⟩
     ·simp only at hW hK;simp[ax,hW,hK];simpa using hz
     simp only at hW hK;simp[h6,ax,hW,hK];simpa using hz
    have c3':(c:Int)<(l0.length:Int):=by omega
    simp[c2,hlen,m0,q1,q3,q4,l5,c3',ax];exact⟨k1,by simp[AY,c3]⟩
   simp[c2,ax];exact⟨k1,by simp[AY,c2]⟩
  have c1':(r0:Int)<(m.length:Int):=by omega
  simp[A.b4,RP,hlen,c1',ax];exact⟨ab.refl,by simp[AY,c1]⟩
variable {d i k n:Nat} {m:List (List Rat)} {r:List Rat}
def Yhx{c x y z:List Rat}{f:Rat}:∀{n:Nat},(∀k,k<n->z[k]?.getD 0=x[k]?.getD 0-f*y[k]?.getD 0)->nT c z n=nT c x n-f*nT c y n
 |0,_=>by simp[nT];grind
 |n+1,h=>by
  have ih:=Yhx (c:=c) (n:=n) fun k hk=>h k (by omega)
  have e:=h n (by omega)
  unfold nT
  rw[ih,e]
  grind
def Yhy{c x z:List Rat}{p:Rat}:∀{n:Nat},(∀k,k<n->z[k]?.getD 0=x[k]?.getD 0/p)->nT c z n=nT c x n/p
 |0,_=>by simp[nT,Rat.div_def,Rat.zero_mul]
 |n+1,h=>by
  have ih:=Yhy (c:=c) (n:=n) fun k hk=>h k (by omega)
  have e:=h n (by omega)
  unfold nT
  rw[ih,e,Rat.div_def,Rat.div_def,Rat.div_def]
  grind
def nt(n:Nat)(C:List (List Rat))(r:List Rat):List Rat:=r.take n++C.map fun c=>e_ c (r.drop n)
def M0{C:List (List Rat)}(h:n<=r.length):(nt n C r).length=n+C.length:=by simp[nt];omega
def VT{C:List (List Rat)}(h:n<=r.length)(hi:i<n):(nt n C r)[i]?=r[i]?:=by unfold nt;rw[mj (by rw[iX];omega),jL,ar hi]
def Ywz{j:Nat}{C:List (List Rat)}(h:n<=r.length):(nt n C r)[n+j]?=(C[j]?).map fun c=>e_ c (r.drop n):=by unfold nt;rw[pY (by rw[iX];omega),iX,rj h,Nat.add_sub_cancel_left,eG]
def RQ:(r.drop n)[k]?.getD 0=r[n+k]?.getD 0:=by rw[fF]
def Zsm{r:List Rat}{p:Rat}{k:Nat}:(r.map fun x=>x/p)[k]?.getD 0=r[k]?.getD 0/p:=by
 rw[eG];cases r[k]? with
 |none=>simp[Rat.div_def,Rat.zero_mul]
 |some q=>rfl
def Zry{p:List Rat}{j:Nat}(h:r.length=p.length):(tQ r p k)[j]?.getD 0=r[j]?.getD 0-r[k]?.getD 0*p[j]?.getD 0:=by
 by_cases hj:j<r.length
 ·unfold tQ;rw[Sg hj];rfl
 rw[fW (by rw[Nc];omega),fW (l:=r) (by omega),fW (l:=p) (by omega)];show (0:Rat)=0-r[k]?.getD 0*0;rw[Rat.mul_zero,Rat.sub_self]
def K3{a b:List Rat}(h:a.length=b.length)(hg:∀i,i<a.length->a[i]?.getD 0=b[i]?.getD 0):a=b:=by apply List.ext_getElem h;intro i h1 h2;have:=hg i h1;rw[bV h1,bV h2]at this;exact this
def RS{C:List (List Rat)}(h:n<=r.length):(nt n C r)[i]?.getD 0=if i<n then r[i]?.getD 0 else ((C[i-n]?).map fun c=>e_ c (r.drop n)).getD 0:=by
 by_cases hi:i<n
 ·rw[ar hi,VT h hi]
 rw[ak hi];have:=Ywz (C:=C) (j:=i-n) h;rw[show n+(i-n)=i by omega]at this;rw[this]
def Yto{C:List (List Rat)}{p:Rat}(h:n<=r.length):nt n C (r.map fun x=>x/p)=(nt n C r).map fun x=>x/p:=by
 have h':n<=(r.map fun x=>x/p).length:=by rw[cG];exact h
 apply K3 (by rw[M0 h',cG,M0 h]);intro i _;rw[RS h',Zsm,Zsm,RS h];by_cases hi:i<n
 ·rw[ar hi,ar hi]
 rw[ak hi,ak hi];cases C[i-n]? with
 |none=>simp[Rat.div_def,Rat.zero_mul]
 |some c=>exact Yhy fun k _=>by rw[RQ,Zsm,RQ]
def Ytn{C:List (List Rat)}{p:List Rat}(h:n<=r.length)(hp:r.length=p.length)(hk:k<n):nt n C (tQ r p k)=tQ (nt n C r) (nt n C p) k:=by
 have h':n<=(tQ r p k).length:=by rw[Nc];exact h
 have UO:n<=p.length:=by omega
 apply K3 (by rw[M0 h',Nc,M0 h]);intro i _;rw[RS h',Zry hp,Zry (r:=nt n C r) (by rw[M0 h,M0 UO]),RS h,RS UO,VT h hk];by_cases hi:i<n
 ·rw[ar hi,ar hi,ar hi]
 rw[ak hi,ak hi,ak hi];cases C[i-n]? with
 |none=>simp[Rat.mul_zero,Rat.sub_self]
 |some c=>exact Yhx fun j _=>by rw[RQ,Zry hp,RQ,RQ]
def M3{F:List Rat->List Rat}(h:i<m.length):((m.map F)[i]?).getD []=F (m[i]?.getD []):=by rw[eG,bV h];rfl
def Yn3{m:List (List Rat)}{n k L:Nat}{C:List (List Rat)}(hc:aR m L)(hn:n<=L)(hk:k<n):∀{t d:Nat},d+t<=m.length->rN (m.map (nt n C)) k d t=rN m k d t
 |0,d,_=>rfl
 |t+1,d,h=>by
  have hl:=hc.at (i:=d) (by omega)
  unfold rN
  rw[M3 (by omega),VT (by omega) hk,Yn3 hc hn hk (by omega)]
def Ypt{F:List Rat->List Rat}{p:Nat}(hd:d<m.length)(hp:p<m.length):cr (m.map F) d p=(cr m d p).map F:=by unfold cr;rw[M3 hd,M3 hp,List.map_set,List.map_set]
def Yp5{L:Nat}{C:List (List Rat)}(hc:aR m L)(hn:n<=L)(hk:k<n)(hd:d<m.length):gJ (m.map (nt n C)) d k=(gJ m d k).map (nt n C):=by have hl:=hc.at hd;unfold gJ;rw[M3 hd,List.map_set,VT (by omega) hk,Yto (by omega)]
def Ysk{t L:Nat}{C:List (List Rat)}(hc:aR m L)(hn:n<=L)(hk:k<n)(hd:d<m.length):df (m.map (nt n C)) d k t=(df m d k t).map (nt n C):=by
 have hl:=hc.at hd;unfold df;rw[cG,List.map_map];apply AE;intro i hi;have hi:=gm.1 hi;have TU:=hc.at hi;simp only[Function.comp];rw[M3 hi,M3 hd];split
 ·rw[Ytn (by omega) (by omega) hk]
 rfl
def Ypy{s:List (List Rat)×Nat×List Nat}{L:Nat}{C:List (List Rat)}(hc:aR s.1 L)(hn:n<=L)(hk:k<n)(hd:s.2.1<=s.1.length):iE (s.1.map (nt n C),s.2.1,s.2.2) k=((iE s k).1.map (nt n C),(iE s k).2.1,(iE s k).2.2):=by
 obtain⟨m,d,ps⟩:=s;simp only at hc hd;have e:eZ (m.map (nt n C)) d k=eZ m d k:=by unfold eZ;rw[cG];exact Yn3 hc hn hk (by omega)
 have hle:=(FR (m:=m) (k:=k) (n:=m.length-d) (d:=d)).1;unfold iE;simp only;rw[e,cG];by_cases hp:eZ m d k<m.length
 ·have dX:d<m.length:=by unfold eZ at hp;omega
  rw[ar hp,ar hp];have c1:=hc.DI dX hp;have c2:=c1.KV (d:=d) (k:=k) (by rw[pZ];exact dX);rw[Ypt dX hp,Yp5 c1 hn hk (by rw[pZ];exact dX),Ysk c2 hn hk (by rw[CD,pZ];exact dX)]
 rw[ak hp,ak hp]
def Ym{m:List (List Rat)}{n L:Nat}{C:List (List Rat)}(hc:aR m L)(hn:n<=L):∀{k:Nat},k<=n->aF (m.map (nt n C)) k=((aF m k).1.map (nt n C),(aF m k).2.1,(aF m k).2.2)
 |0,_=>rfl
 |k+1,h=>by
  have I:=nR hc (n:=k)
  have hl:=AG (m:=m) (n:=k)
  rw[wg,wg,Ym hc hn (by omega)]
  exact Ypy I.1 hn (by omega) (by rw[hl];exact I.2)
variable {G X m:List (List Rat)} {i n:Nat}
def dp(G X:List (List Rat)):List (List Rat):=(List.range G.length).map fun i=>G[i]?.getD []++X[i]?.getD []
def yu(n i:Nat):List Rat:=(List.range n).map fun j=>if j=i then 1 else 0
def yg(n:Nat):List (List Rat):=(List.range n).map (yu n)
def du(a C:List (List Rat)):List (List Rat):=a.map fun r=>C.map fun c=>e_ c r
def Nm(G:List (List Rat))(n:Nat):Option (List (List Rat)):=if (aF (dp G (yg n)) (n+n)).2.1=n/\∀i,i<n->(aF (dp G (yg n)) (n+n)).2.2[i]?.getD 0=i then some ((bb (dp G (yg n)) (n+n)).map (List.drop n)) else none
def uA(G X:List (List Rat))(n c:Nat):Option (List (List Rat)):=if (aF (dp G X) (n+c)).2.1<n\/(aF (dp G X) (n+c)).2.2[n-1]?.getD 0≠n-1 then none else some ((bb (dp G X) (n+c)).map (List.drop n))
def yh:(dp G X).length=G.length:=by simp[dp]
def zi{c:Nat}(hG:aR G n)(hX:aR X c)(hl:G.length<=X.length):aR (dp G X) (n+c):=fun r hr=>by
 obtain⟨i,hi,rfl⟩:=bF.1 hr
 have hi:=gm.1 hi
 rw[jm,hG.at hi,hX.at (by omega)]
def Ypl:(yu n i).length=n:=by simp[yu]
def Ypm{j:Nat}(h:j<n):(yu n i)[j]?.getD 0=if j=i then 1 else 0:=by simp[yu,h]
def Yok:(yg n).length=n:=by simp[yg]
def Yy0(h:i<n):(yg n)[i]?.getD []=yu n i:=by simp[yg,h]
def Yvz:aR (yg n) n:=fun r hr=>by
 obtain⟨i,_,rfl⟩:=bF.1 hr
 exact Ypl
def Yhv{a:List Rat}{n i:Nat}:∀{m:Nat},m<=n->nT a (yu n i) m=if i<m then a[i]?.getD 0 else 0
 |0,_=>by simp[nT]
 |m+1,h=>by
  unfold nT
  rw[Yhv (a:=a) (i:=i) (m:=m) (by omega),Ypm (by omega)]
  by_cases e:m=i
  ·subst e
   simp[Rat.mul_one,Rat.zero_add]
  ·rw[ak e,Rat.mul_zero,Rat.add_zero]
   by_cases e2:i<m
   ·rw[ar e2,ar (by omega)]
   ·rw[ak e2,ak (by omega)]
def Zyi{c:Nat}(hG:aR G n)(hl:G.length=n)(hX:aR X c)(hx:X.length=n):dp G X=(dp G (yg n)).map (nt n (cn X c)):=by
 unfold dp;rw[List.map_map];apply AE;intro i hi;have hi:=gm.1 hi;have l1:=hG.at hi;simp only[Function.comp];rw[Yy0 (by omega)];unfold nt;rw[List.take_left' l1,List.drop_left' l1];congr 1;have l2:=hX.at (i:=i) (by omega);apply K3 (by rw[l2];simp[cn]);intro j hj;rw[l2]at hj;unfold cn;rw[List.map_map,eG,AK hj];simp only[qc,g_,Function.comp];unfold e_;have l3:(p_ X j).length=n:=by simp[p_,hx]
 rw[l3,Yhv (aO _),ar (by omega)];unfold p_;rw[eG];cases X[i]?<;>simp
def Yhr{m:List (List Rat)}{k:Nat}:∀{e:Nat},∃l:List Nat,(aF m (k+e)).2.2=(aF m k).2.2++l/\∀x∈l,k<=x
 |0=>⟨[],by simp,fun x hx=>by simp at hx⟩
 |e+1=>by
  obtain⟨l,h1,h2⟩:=Yhr (m:=m) (k:=k) (e:=e)
  rw[<-qe,wg]
  unfold iE
  split
  ·refine⟨l++[k+e],by simp[h1],fun x hx=>?_⟩
   rcases jB.1 hx with hx|hx
   ·exact h2 x hx
   ·simp at hx
    omega
  ·exact⟨l,h1,h2⟩
def Nn{d:Nat}{ps:List Nat}(h:ym m d ps d){i:Nat}(hi:i<d):ps[i]?.getD 0=i:=by
 have up:∀j,j<d->j<=ps[j]?.getD 0:=fun j=>by
  induction j with
  |zero=>intro _;omega
  |succ j ih=> intro hj;have:=h.uy j (j+1) (by omega) hj;have:=ih (by omega);omega
 have dn:∀j,j<d->ps[d-1-j]?.getD 0+j<d:=fun j=>by
  induction j with
  |zero=>intro h0;exact h.lt (d-1) (by omega)
  |succ j ih=> intro hj;have h1:=h.uy (d-1-(j+1)) (d-1-j) (by omega) (by omega);have:=ih (by omega);omega
 have h1:=up i hi;have h2:=dn (d-1-i) (by omega);rw[show d-1-(d-1-i)=i by omega]at h2;omega
def Zzr{L e:Nat}(hm:aR m L)(h0:0<n)(ht:(aF m n).2.1<n)(hd:(aF m (n+e)).2.1=n):n<=(aF m (n+e)).2.2[n-1]?.getD 0:=by
 obtain⟨l,q1,q2⟩:=Yhr (m:=m) (k:=n) (e:=e);have J:=(mE hm (n:=n)).len;have J2:=(mE hm (n:=n+e)).len;rw[hd,q1,jm]at J2;rw[q1,pY (by omega)];have aC:n-1-(aF m n).2.2.length<l.length:=by omega
 rw[bV aC];exact q2 _ (List.getElem_mem aC)
def Yus{c:Nat}(hG:aR G n)(hl:G.length=n)(h0:0<n)(hX:aR X c)(hx:X.length=n):uA G X n c=(Nm G n).map fun H=>du H (cn X c):=by
 have hW:=zi hG (Yvz (n:=n)) (by rw[Yok,hl];exact aO _);have lW:(dp G (yg n)).length=n:=by rw[yh,hl]
 have I:=mE hW (n:=n);have hle:=(nR hW (n:=n)).2;have hwx:=Zyi hG hl hX hx;have hE:=Ym (C:=cn X c) hW (Nat.le_add_right n n) (aO n);rw[<-hwx]at hE;have lX:(dp G X).length=n:=by rw[yh,hl]
 unfold uA Nm bb;by_cases f:(aF (dp G (yg n)) n).2.1=n
 ·have e1:=Ni (f.trans lW.symm) (n:=n);have e2:aF (dp G X) (n+c)=aF (dp G X) n:=Ni (by rw[hE,lX];exact f);rw[e1,e2,hE];simp only;rw[f]at I;rw[ak (by rw[f,Nn I (by omega)];omega),ar ⟨f,fun i hi=>Nn I hi⟩,qc,f];congr 1;unfold du;rw[List.map_map,<-List.map_take,List.map_map];apply AE;intro r hr;have lr:=(nR hW (n:=n)).1 r (wB hr);simp only[Function.comp];unfold nt;exact List.drop_left' (by rw[iX];omega)
 have ht:(aF (dp G (yg n)) n).2.1<n:=by omega
 have yW:(aF (dp G X) n).2.1<n:=by rw[hE];exact ht
 have hWX:=zi hG hX (by omega);rw[ar,ak]
 ·rfl
 ·rintro⟨a,b⟩;have:=Zzr hW h0 ht a;rw[b (n-1) (by omega)]at this;omega
 by_cases d:(aF (dp G X) (n+c)).2.1<n
 ·exact .inl d
 have h5:=(nR hWX (n:=n+c)).2;have:=Zzr hWX h0 yW (e:=c) (by omega);exact .inr (by omega)
end
end Go.Mx
