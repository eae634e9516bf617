/-CheckWeights, LargeRow-/
import Derived.Test.YtgccnjdneojagaaGreatDoorNfB
set_option linter.all false
set_option maxHeartbeats 2000000
namespace Go.Mx
noncomputable section
open Go Go.Proofs
set_option maxRecDepth 1000000
def A.w6:=A.q Tryz.f6
def A.CD:=A.ql A.w6 0 []
def A.b6:=(fun x0=>A.qb A.w6 [x0]) A.CD
def A.k6:=@A.kk 6 34 [.tmp 6] A.b6 (by kernel_rfl) rfl
def sV(least:Int)(s:aG):Int:=if aV s=0 then (if dN (jo s).num<least then 3 else 0) else ((aV s:Nat):Int)
def tj(l:List aG)(n:Nat)(least:Int):Int:=if l.length=n then cg (l.map (sV least)) else 2
def Yyi{h:T O}{N:Nat}{v:V}{l:List aG}{n:Nat}{z:Int}(hs:Sl h N v (strs l))(hl:l.length<100000)(wO:∀s∈l,s.length<=100000):Fn A.C 6 [v,.int .i64 n,.int .i64 z] h N (fun u _ _=>u=.int .i64 (tj l n z)):=by
 intro w;have hlen:=hs.len;rw[mY]at hlen;rw[aQ,A.k6 (by simp)];by_cases c:l.length=n
 ·have e1:tj l n z=cg (l.map (sV z)):=by simp[tj,c]
  rw[e1];subst c;simp[A.b6,hlen];refine b_ [(6,8),(13,33)] (fun e r st=>ay N st.w=[]/\ab h N st.h st.n/\((e=.exit 0/\cg (l.map (sV z))=0)\/(e=.ret/\r.get 6=some (.int .i64 (cg (l.map (sV z))))))) (fun m r st=>ay N st.w=[]/\ab h N st.h st.n/\∃k,k+m=l.length/\r.get 7=some (.int .i64 k)/\cg (l.map (sV z))=cg ((l.drop k).map (sV z))) l.length ?_ ?_ ?_
  ·exact⟨by simp,ab.refl,0,by omega,by simp,by simp⟩
  ·rintro m r ⟨H,n1,W⟩ hr hf ⟨hW,hK,k,hk,h7,hz⟩;simp only at hW hK;rw[bu];cases m with
   |zero=>
    obtain rfl:k=l.length:=by omega
    rw[qZ,yZ,cg]at hz;simp[A.CD,hr,hf,h7,hlen,hz,hW,hK]
   |succ m=>
    have aE:k<l.length:=by omega
    obtain⟨s,hc⟩:=bj aE;have zU:=GB hc;obtain⟨i,o,cc,e,rw,q1,q2,q3,q4⟩:=(hs.ad hK).at zU;rw[nf hc,pX,cg]at hz;have cK:(k:Int)<(l.length:Int):=by omega
    simp[A.CD,hr,h7,cK,hlen,q1,q3,q4];refine ar (TC (wO s (cy hc))) ?_;rintro _ h3 n3 k3 rfl;have kk:=hK.trans k3;by_cases h0:aV s=0
    ·obtain⟨t1,_⟩:=H0 h0;obtain⟨i',o',Ok,e',rj,p1,p2,p3,p4⟩:=(hs.ad kk).at zU;rw[<-t1]at p4;have jJ:((aV s:Nat):Int)=0:=by omega
     by_cases h2:dN (jo s).num<z
     ·have e2:sV z s=3:=by simp[sV,h0,h2]
      rw[e2,ak (by decide)]at hz;simp[hr,hf,h7,h0,hW,cK,hlen,p1,p3,p4,P6,h2,hz];exact kk
     have e2:sV z s=0:=by simp[sV,h0,h2]
     rw[e2,av rfl]at hz;simp(disch:=first|(simp;done)|omega|rfl) [hr,hf,h7,h0,hW,hlen,p1,p3,p4,P6,h2];exact⟨m,by omega,kk,k+1,by omega,by simp,by simpa using hz⟩
    have e2:sV z s=((aV s:Nat):Int):=by simp[sV,h0]
    have jJ:¬((aV s:Nat):Int)=0:=by omega
    rw[e2,ak jJ]at hz;simp[hf,h0,hW,hz];exact kk
  rintro _ r ⟨H,n1,W⟩ hr ⟨hW,hK,⟨rfl,hz⟩|⟨rfl,h2⟩⟩
  ·simp only at hW hK;simp[hz,az,hW,hK]
  simp only at hW hK;simp[h2,az,hW,hK]
 have c':¬(l.length:Int)=(n:Int):=by omega
 simp[A.b6,hlen,c',tj,c,az];exact ab.refl
def mT(l:List Rat):Bool:=l.any wW
variable {N:Nat} {h:T O}
def A.Sw:=A.q Tryz.f107
def A.uB:=A.ql A.Sw 0 []
def A.b107:=(fun x0=>A.qb A.Sw [x0]) A.uB
def A.k107:=@A.kk 107 21 [.tmp 4] A.b107 (by kernel_rfl) rfl
def A.b58:=A.q Tryz.f58
def A.k58:=@A.kk 58 11 [.tmp 4] A.b58 (by kernel_rfl) rfl
def A.b99:=A.q Tryz.f99
def A.k99:=@A.kk 99 4 [.tmp 2] A.b99 (by kernel_rfl) rfl
def A.b170:=A.q Tryz.f170
def A.k170:=@A.kk 170 16 [.tmp 3] A.b170 (by kernel_rfl) rfl
def Yi9{v f:V}{l:List aG}(P:aG->Int)(hs:Sl h N v (strs l))(hl:l.length<100000)(hf:∀s∈l,∀h' n',ab h N h' n'->gF A.C f [.str s] h' n' (fun u _ _=>u=.int .i64 (P s))):Fn A.C 107 [v,f] h N (fun u _ _=>u=.int .i64 (cg (l.map P))):=by
 intro w;have hlen:=hs.len;rw[mY]at hlen;rw[aQ,A.k107 (by simp)];simp[A.b107,hlen];refine b_ [(4,4),(6,7),(10,20)] (fun e r st=>ay N st.w=[]/\ab h N st.h st.n/\((e=.exit 0/\cg (l.map P)=0)\/(e=.ret/\r.get 4=some (.int .i64 (cg (l.map P)))))) (fun m r st=>ay N st.w=[]/\ab h N st.h st.n/\∃k,k+m=l.length/\r.get 10=some (.int .i64 k)/\cg (l.map P)=cg ((l.drop k).map P)) l.length ?_ ?_ ?_
 ·exact⟨by simp,ab.refl,0,by omega,by simp,by simp⟩
 ·rintro m r ⟨H,n1,W⟩ hr ef ⟨hW,hK,k,hk,h7,hz⟩;simp only at hW hK;rw[bu];cases m with
  |zero=>
   obtain rfl:k=l.length:=by omega
   rw[qZ,yZ,cg]at hz;simp[A.uB,hr,ef,h7,hz,hW,hK]
  |succ m=>
   have aE:k<l.length:=by omega
   obtain⟨s,hc⟩:=bj aE;obtain⟨i,o,cc,e,rw,q1,q2,q3,q4⟩:=(hs.ad hK).at (GB hc);rw[nf hc,pX,cg]at hz;have cK:(k:Int)<(l.length:Int):=by omega
   simp[A.uB,hr,h7,cK,hlen,q1,q3,q4];refine DZ (hf s (cy hc) _ _ hK) ?_;rintro _ h3 n3 k3 rfl;have kk:=hK.trans k3;by_cases h0:P s=0
   ·rw[av h0]at hz;simp(disch:=first|(simp;done)|omega|rfl) [ef,h7,h0,hW];exact⟨m,by omega,kk,k+1,by omega,by simp,by simpa using hz⟩
   rw[ak h0]at hz;simp[ef,h0,hW,hz];exact kk
 rintro _ r ⟨H,n1,W⟩ hr ⟨hW,hK,⟨rfl,hz⟩|⟨rfl,h2⟩⟩
 ·simp only at hW hK;simp[hz,az,hW,hK]
 simp only at hW hK;simp[h2,az,hW,hK]
def Iz{v:V}{l:List aG}{n:Nat}(hs:Sl h N v (strs l))(hl:l.length<100000)(wO:∀s∈l,s.length<=100000):Fn A.C 58 [v,.int .i64 n] h N (fun u _ _=>u=.int .i64 (dj l n)):=by
 intro w;have hlen:=hs.len;rw[mY]at hlen;rw[aQ,A.k58 (by simp)];by_cases c:l.length=n
 ·subst c;simp[A.b58,hlen];refine ar (Yi9 (fun s=>((aV s:Nat):Int)) hs hl fun s hs h' n' _=>Ybr (wO s hs)) ?_;rintro _ H2 n2 k2 rfl;simp[az,dj];exact k2
 have c':¬(l.length:Int)=(n:Int):=by omega
 simp[A.b58,hlen,c',dj,c,az];exact ab.refl
def Ycg{q:Nat}{s:aG}{z:Int}{e:TypeId}{rw:Bool}(hq:h.get q=some (.cells [.int .i64 z] e rw))(aE:q<N)(hl:s.length<=100000):gF A.C (.func 170 [] [.ptr q 0]) [.str s] h N (fun u _ _=>u=.int .i64 (sV z s)):=by
 intro w;rw[aQ,A.k170 (by simp)];simp[A.b170];refine ar (Ybr hl) ?_;rintro _ h2 n2 k2 rfl;by_cases h0:aV s=0
 ·have jJ:((aV s:Nat):Int)=0:=by omega
  obtain⟨t1,t2,t3⟩:=H0 h0;have l1:(aN (jo s).num).length<=100000:=by
   have:(aN (jo s).num).length<=(aq (jo s).num.natAbs).length+1:=by unfold aN;split<;>simp
   omega
  have jS:=(k2.get q aE).trans hq;have pL:=Yiw (q:=jo s) (h:=h2) (N:=n2) l1 (by omega);rw[t1]at pL;simp[h0];refine ar pL ?_;rintro x3 h3 n3 k3 hx;have kl2:=k2.le;have QD:=(k3.get q (by omega)).trans jS;simp[];refine ar (YI hx) ?_;rintro _ h4 n4 k4 rfl;have kl3:=k3.le;have Ap:=(k4.get q (by omega)).trans QD;have kl4:=k4.le;have d4:q<n4:=by omega
  by_cases h5:dN (jo s).num<z
  ·simp[Ap,h5,Ye6,sV,h0];refine(wD (by simp[-ay,d4])).2 ?_;simp[az];exact(k2.trans k3).trans k4
  simp[Ap,h5,Ye6,sV,h0];refine(wD (by simp[-ay,d4])).2 ?_;simp[az];exact(k2.trans k3).trans k4
 have jJ:¬((aV s:Nat):Int)=0:=by omega
 simp[h0,az,sV];exact k2
variable {N:Nat} {h:T O} {l:List (List aG)} {v:V}
def A.b194:=A.q Tryz.f194
def A.k194:=@A.kk 194 10 [.cell 2 (some 2)] A.b194 (by kernel_rfl) rfl
def A.Sx:=A.q Tryz.f134
def A.uC:=A.ql A.Sx 0 []
def A.b134:=(fun x0=>A.qb A.Sx [x0]) A.uC
def A.k134:=@A.kk 134 47 [.tmp 4] A.b134 (by kernel_rfl) rfl
def A.b56:=A.q Tryz.f56
def A.k56:=@A.kk 56 6 [.tmp 2] A.b56 (by kernel_rfl) rfl
def Ylg{l0:List aG}(hs:eN h N v l)(h0:l[0]?=some l0):Fn A.C 194 [v] h N (fun u _ _=>u=.agg [.int .i64 l.length,.int .i64 l0.length]):=by
 intro w;have hlen:=hs.len;have nY:0<l.length:=gI h0;have rX:0<(l.length:Int):=by omega
 obtain⟨i0,o0,Lq,e0,C7,u0,z1,z2,z3,z4,z5⟩:=hs.at h0;have z6:=z5.len;rw[mY]at z6;rw[gE]at z4;have d1:¬i0=N:=by omega
 have d2:¬N=i0:=by omega
 rw[aQ,A.k194 (by simp)];simp[A.b194,hlen,nY,z1,z3,z4,z6,d1,ae,bO,aS,aP,az];exact(ab.refl.new _).set (aM _)
def Yad{a b:Nat}(hs:eN h N v l)(hl:l.length<100000)(hx:∀x∈l,x.length<100000/\∀s∈x,s.length<=100000):Fn A.C 134 [v,.agg [.int .i64 a,.int .i64 b]] h N (fun u _ _=>u=.int .i64 (fI l a b)):=by
 intro w;have hlen:=hs.len;rw[aQ,A.k134 (by simp)];by_cases c0:l.length=0
 ·have c0':(l.length:Int)=0:=by omega
  simp[A.b134,hlen,c0,fI,az];exact ab.refl.new _
 have c0':¬(l.length:Int)=0:=by omega
 have nY:0<l.length:=by omega
 have rX:0<(l.length:Int):=by omega
 obtain⟨l0,cB⟩:=bj nY;obtain⟨i0,o0,Lq,e0,C7,u0,z1,z2,z3,z4,z5⟩:=hs.at cB;have z6:=z5.len;rw[mY]at z6;rw[gE]at z4;obtain⟨n,hn⟩:∃n,n=l0.length:=⟨_,rfl⟩;have en:aW l=n:=by simp[aW,cB,hn]
 rw[<-hn]at z6;have wA:n<100000:=by have:=(hx l0 (cy cB)).1;omega
 have d1:¬i0=N:=by omega
 have d2:¬N=i0:=by omega
 by_cases c1:n=0
 ·have c1':(n:Int)=0:=by omega
  simp[A.b134,hlen,c0,nY,z1,z3,z4,z6,d1,c1,fI,en,az];exact ab.refl.new _
 have c1':¬(n:Int)=0:=by omega
 have e1:fI l a b=if a<l.length\/b<n then 5 else cg (l.map fun x=>dj x n):=by simp[fI,en,c0,c1]
 rw[e1];simp[A.b134,hlen,c0,nY,z1,z3,z4,z6,d1,c1];generalize hH:h.set N (.cells [.int .i64 a,.int .i64 b] 152 true)=H;have k1:ab h N H (N+1):=by rw[<-hH];exact ab.refl.new _
 have g1:H.get N=some (.cells [.int .i64 a,.int .i64 b] 152 true):=by rw[<-hH];simp
 clear hH;refine ar (Ylg (hs.ad k1) cB) ?_;rintro _ H2 n2 k2 rfl;rw[<-hn];have kl2:=k2.le;have g2:=(k2.get N (by omega)).trans g1;have d3:¬N=n2:=by omega
 have d4:¬n2=N:=by omega
 have kz:ab h N ((H2.set n2 (.cells [.int .i64 0,.int .i64 0] 152 true)).set n2 (.cells [.int .i64 l.length,.int .i64 n] 152 true)) (n2+1):=((k1.trans k2).new _).set (by omega);by_cases c2:a<l.length
 ·have c2':(a:Int)<(l.length:Int):=by omega
  simp[g2,d3,ae,bO,aS,c2,c2',az];exact⟨by omega,kz⟩
 have c2':¬(a:Int)<(l.length:Int):=by omega
 by_cases c3:b<n
 ·have c3':(b:Int)<(n:Int):=by omega
  simp[g2,d3,ae,bO,aS,c2,c2',c3,c3',az];exact⟨by omega,kz⟩
 have c3':¬(b:Int)<(n:Int):=by omega
 simp[hlen,g2,d3,ae,bO,aS,c2,c2',c3,c3'];generalize hH3:(H2.set n2 (.cells [.int .i64 0,.int .i64 0] 152 true)).set n2 (.cells [.int .i64 l.length,.int .i64 n] 152 true)=H3 at*;have g3:H3.get n2=some (.cells [.int .i64 l.length,.int .i64 n] 152 true):=by rw[<-hH3];simp
 clear hH3;have kd:ab H3 (n2+1) H3 (n2+1):=ab.refl;refine b_ [(4,4),(7,8),(35,46)] (fun e r st=>ay N st.w=[]/\ab h N st.h st.n/\((e=.exit 0/\cg (l.map (fun x=>dj x n))=0)\/(e=.ret/\r.get 4=some (.int .i64 (cg (l.map (fun x=>dj x n))))))) (fun m r st=>ay N st.w=[]/\ab h N st.h st.n/\(n2<st.n/\st.h.get n2=H3.get n2)/\∃k,k+m=l.length/\r.get 35=some (.int .i64 k)/\cg (l.map (fun x=>dj x n))=cg ((l.drop k).map (fun x=>dj x n))) l.length ?_ ?_ ?_
 ·exact⟨by simp;omega,kz,⟨by simp,rfl⟩,0,by omega,by simp,by simp⟩
 ·rintro m r ⟨H,n1,W⟩ hr ef ⟨hW,hK,⟨fb,hG⟩,k,hk,h7,hz⟩;simp only at hW hK fb hG;rw[bu];cases m with
  |zero=>
   obtain rfl:k=l.length:=by omega
   rw[qZ,yZ,cg]at hz;simp[A.uC,hr,ef,h7,hz,hW,hK]
  |succ m=>
   have aE:k<l.length:=by omega
   obtain⟨s,hc⟩:=bj aE;obtain⟨i,o,cc,e,rw,u,q1,q2,q3,q4,q5⟩:=(hs.ad hK).at hc;have g4:=hG.trans g3;rw[nf hc,pX,cg]at hz;have cK:(k:Int)<(l.length:Int):=by omega
   simp[A.uC,hr,h7,cK,hlen,q1,q3,q4,g4];refine ar (Iz q5 (hx s (cy hc)).1 (hx s (cy hc)).2) ?_;rintro _ h3 n3 k3 rfl;have kk:=hK.trans k3;by_cases h0:dj s n=0
   ·rw[av h0]at hz;simp(disch:=first|(simp;done)|omega|rfl) [ef,h7,h0,hW];exact⟨m,by omega,kk,⟨by have:=k3.le;omega,(k3.get n2 fb).trans hG⟩,k+1,by omega,by simp,by simpa using hz⟩
   rw[ak h0]at hz;simp[ef,h0,hW,hz];exact kk
 rintro _ r ⟨H,n1,W⟩ hr ⟨hW,hK,⟨rfl,hz⟩|⟨rfl,h2⟩⟩
 ·simp only at hW hK;simp[hz,az,hW,hK]
 simp only at hW hK;simp[h2,az,hW,hK]
def Yl6(hs:eN h N v l)(hl:l.length<100000)(hx:∀x∈l,x.length<100000/\∀s∈x,s.length<=100000):Fn A.C 56 [v] h N (fun u _ _=>u=.int .i64 (fI l 64 64)):=by intro w;rw[aQ,A.k56 (by simp)];simp[A.b56,ae];refine ar (Yad (a:=64) (b:=64) hs hl hx) ?_;rintro _ H2 n2 k2 rfl;simp[az];exact k2
variable {N:Nat} {h:T O}
def A.w54:=A.q Tryz.f54
def A.yx:=A.ql A.w54 0 []
def A.b54:=(fun x0=>A.qb A.w54 [x0]) A.yx
def A.k54:=@A.kk 54 18 [.tmp 2] A.b54 (by kernel_rfl) rfl
def A.b55:=A.q Tryz.f55
def A.k55:=@A.kk 55 4 [.tmp 1] A.b55 (by kernel_rfl) rfl
def A.b57:=A.q Tryz.f57
def A.k57:=@A.kk 57 9 [.tmp 2] A.b57 (by kernel_rfl) rfl
def Ob{v:V}{fs:List V}{l:List Int}(hs:Sl h N v fs)(Sy:fs.length=l.length)(hl:l.length<1000)(hf:∀(j:Nat) (f:V) (e:Int),fs[j]?=some f->l[j]?=some e->(∀(i:Nat) (x:Int),i<j->l[i]?=some x->x=0)->∀h' n',ab h N h' n'->gF A.C f [] h' n' (fun u _ _=>u=.int .i64 e)):Fn A.C 54 [v] h N (fun u _ _=>u=.int .i64 (cg l)):=by
 intro w;have hlen:=hs.len;rw[Sy]at hlen;rw[aQ,A.k54 (by simp)];simp[A.b54,hlen];refine b_ [(2,2),(4,5),(8,17)] (fun e r st=>ay N st.w=[]/\ab h N st.h st.n/\((e=.exit 0/\cg l=0)\/(e=.ret/\r.get 2=some (.int .i64 (cg l))))) (fun m r st=>ay N st.w=[]/\ab h N st.h st.n/\∃k,k+m=l.length/\r.get 8=some (.int .i64 k)/\cg l=cg (l.drop k)/\∀(i:Nat) (x:Int),i<k->l[i]?=some x->x=0) l.length ?_ ?_ ?_
 ·exact⟨by simp,ab.refl,0,by omega,by simp,by simp,fun i x hi=>by omega⟩
 ·rintro m r ⟨H,n1,W⟩ hr ef ⟨hW,hK,k,hk,h7,hz,NC⟩;simp only at hW hK;rw[bu];cases m with
  |zero=>
   obtain rfl:k=l.length:=by omega
   rw[qZ,cg]at hz;simp[A.yx,hr,ef,h7,hz,hW,hK]
  |succ m=>
   have aE:k<l.length:=by omega
   obtain⟨s,hc⟩:=bj aE;obtain⟨f,D9⟩:=bj (show k<fs.length by omega);obtain⟨i,o,cc,e,rw,q1,q2,q3,q4⟩:=(hs.ad hK).at D9;rw[nf hc,cg]at hz;have cK:(k:Int)<(l.length:Int):=by omega
   simp[A.yx,hr,h7,cK,hlen,q1,q3,q4];refine DZ (hf k f s D9 hc NC _ _ hK) ?_;rintro _ h3 n3 k3 rfl;have kk:=hK.trans k3;by_cases h0:s=0
   ·rw[av h0]at hz;simp(disch:=first|(simp;done)|omega|rfl) [ef,h7,h0,hW];refine⟨m,by omega,kk,k+1,by omega,by simp,hz,fun i x hi hx=>?_⟩;by_cases OO:i<k
    ·exact NC i x OO hx
    obtain rfl:i=k:=by omega
    rw[hc]at hx;rw[<-h0];simpa using hx.symm
   rw[ak h0]at hz;simp[ef,h0,hW,hz];exact kk
 rintro _ r ⟨H,n1,W⟩ hr ⟨hW,hK,⟨rfl,hz⟩|⟨rfl,h2⟩⟩
 ·simp only at hW hK;simp[hz,az,hW,hK]
 simp only at hW hK;simp[h2,az,hW,hK]
def Yvv{q:Nat}{u:V}{m:List (List aG)}{l:List aG}{eq:TypeId}{wq:Bool}(pS:h.get q=some (.cells [u] eq wq))(xm:q<N)(hs:eN h N u m)(iH:m.length<100000)(cU:∀x∈m,x.length<100000/\∀s∈x,s.length<=100000):gF A.C (.func 55 [] [.ptr q 0]) [] h N (fun z _ _=>z=.int .i64 (fI m 64 64)):=by intro w;rw[aQ,A.k55 (by simp)];simp[A.b55,pS];refine ar (Yl6 hs iH cU) ?_;rintro _ H2 n2 k2 rfl;simp[az];exact k2
def Yvu{p q:Nat}{v u:V}{m:List (List aG)}{l:List aG}{ep eq:TypeId}{wp wq:Bool}(jP:h.get p=some (.cells [v] ep wp))(Bg:p<N)(pS:h.get q=some (.cells [u] eq wq))(xm:q<N)(hs:eN h N u m)(iH:m.length<100000)(cU:∀x∈m,x.length<100000/\∀s∈x,s.length<=100000)(ht:Sl h N v (strs l))(jL:l.length<100000)(vw:∀s∈l,s.length<=100000)(m0:0<m.length):gF A.C (.func 57 [] [.ptr p 0,.ptr q 0]) [] h N (fun z _ _=>z=.int .i64 (dj l (aW m))):=by
 intro w;have ml:=hs.len;have rX:0<(m.length:Int):=by omega
 obtain⟨l0,cB⟩:=bj m0;obtain⟨i0,o0,Lq,e0,C7,u0,z1,z2,z3,z4,z5⟩:=hs.at cB;have z6:=z5.len;rw[mY]at z6;rw[gE]at z4;obtain⟨n,hn⟩:∃n,n=l0.length:=⟨_,rfl⟩;have en:aW m=n:=by simp[aW,cB,hn]
 rw[en];rw[<-hn]at z6;rw[aQ,A.k57 (by simp)];simp[A.b57,pS,jP,ml,m0,z1,z2,z3,z4,z6];refine ar (Iz ht jL vw) ?_;rintro _ H2 n2 k2 rfl;have uM:=k2.le;simp[];refine(wD (by simp[-ay,xm,Bg])).2 ?_;simp[az];exact k2
variable {N n n':Nat} {h h':T O} {l:List Rat} {u v:V}
def A.Sz:=A.q Tryz.f133
def A.uD:=A.ql A.Sz 0 []
def A.b133:=(fun x0=>A.qb A.Sz [x0]) A.uD
def A.k133:=@A.kk 133 22 [.tmp 4] A.b133 (by kernel_rfl) rfl
def Ym1{f:V}{l:List V}{Q:Nat->T O->Nat->V->Prop}(Y:V->Prop)(hQ:∀j h n h' n' c u,Q j h n c->dR (fun i=>i∈dm u) h n h' n'->n_ 82 Y h u->Q j h' n' c)(hs:Sl h N v l)(hl:l.length<1000000000)(hf:∀(j:Nat) (x:V),l[j]?=some x->∀h' n',ab h N h' n'->gF A.C f [x] h' n' (fun u h2 n2=>∃y,u=y/\[y].length=1/\[y].all V.one=true/\(∀q∈[y],Y q)/\Q j h2 n2 y)):Fn A.C 133 [v,f] h N (fun u h' n'=>∃out,Own 1 82 N h' n' u out/\out.length=l.length/\∀(j:Nat),j<l.length->∃y,out[j]?=some [y]/\Q j h' n' y):=by
 intro w;have hlen:=hs.len;rw[aQ,A.k133 (by simp)];simp[A.b133,hlen];refine b_ [(5,5),(7,7),(10,20)] (fun e r st=>e=.exit 0/\ay N st.w=[]/\ab h N st.h st.n/\∃u out,r.get 5=some u/\Own 1 82 N st.h st.n u out/\out.length=l.length/\∀(j:Nat),j<l.length->∃y,out[j]?=some [y]/\Q j st.h st.n y) (fun m r st=>ay N st.w=[]/\ab h N st.h st.n/\∃k u out,k+m=l.length/\r.get 10=some (.int .i64 k)/\r.get 5=some u/\Own 1 82 N st.h st.n u out/\out.length=k/\(out=[]->u=.aa)/\(∀c∈out,∀y∈c,Y y)/\∀(j:Nat),j<k->∃y,out[j]?=some [y]/\Q j st.h st.n y) l.length ?_ ?_ ?_
 ·exact⟨by simp,ab.refl,0,.aa,[],by omega,by simp,by simp,Own.nil,rfl,fun _=>rfl,by simp,fun j hj=>by omega⟩
 ·rintro m r ⟨H,n1,W⟩ hr ef ⟨hW,hK,k,u,out,hk,jU,h5,ho,iM,wU,hY,dH⟩;simp only at hW hK ho dH;rw[bu];cases m with
  |zero=>
   have A2:k=l.length:=by omega
   subst A2;simp[A.uD,hr,ef,jU,hW,hK];exact⟨u,h5,out,ho,iM,dH⟩
  |succ m=>
   have aE:k<l.length:=by omega
   obtain⟨x,hx⟩:=bj aE;obtain⟨i,o,cc,e,rw,q1,q2,q3,q4⟩:=(hs.ad hK).at hx;have cK:(k:Int)<(l.length:Int):=by omega
   have kA:=hK;simp[A.uD,hr,jU,h5,cK,hlen,q1,q3,q4];refine DZ (hf k x hx _ _ kA) ?_;rintro y h3 n3 k3 ⟨_,rfl,c1,c2,cY,c3⟩;have jT:=k3.le;have kn:=hK.le;have kB:=kA.trans k3;have b1:V.one y=true:=by simpa using c2
   have b2:V.cells y=[y]:=by cases y<;>first|rfl|cases b1
   simp[-V.cells, -V.one,b1,b2,ae];have wm:Own 1 82 N (h3.set n3 (.cells [y] 82 true)) (n3+1) u out:=(ho.ad ((ab.refl).trans k3)).ad (ab.refl.new _);obtain⟨v',h',w',f1,f2,f3,f4,fD,f5⟩:=FT (Y:=Y) (x:=[y]) (u:=.slice n3 0 1 (some 1) 1) (bytes:=24) (w:=W) wm wU hY (by omega) (by decide) c1 (by simp[fQ,St.row,aP]) (by omega);rw[f1];have f6:ay N w'=[]:=by rw[f2];simp[hW]
   have kz:=(kB.new (.cells [y] 82 true)).then f3;have k4:ab h3 n3 (h3.set n3 (.cells [y] 82 true)) (n3+1):=ab.refl.new _;have Ap:Q k (h3.set n3 (.cells [y] 82 true)) (n3+1) y:=hQ _ _ _ _ _ _ .aa c3 k4.upd n_.nil;simp(disch:=first|(simp;done)|omega|rfl) [ef,jU,f6];refine⟨m,by omega,kz,k+1,by omega,by simp,out++[[y]],f5,by simp[iM],by simp,fun c' hc z hz=>?_,fun j hj=>?_⟩
   ·rcases jn.1 hc with hc|hc
    ·exact hY c' hc z hz
    simp only[u9]at hc;subst hc;exact cY z hz
   by_cases rL:j<k
   ·obtain⟨y,g1,g2⟩:=dH j rL;exact⟨y,by rw[mH (by omega)];exact g1,hQ _ _ _ _ _ _ _ (hQ _ _ _ _ _ _ .aa g2 (((ab.refl).trans k3).trans k4).upd n_.nil) f4 fD⟩
   obtain rfl:j=k:=by omega
   exact⟨y,by rw[qI (by omega),iM];simp,hQ _ _ _ _ _ _ _ Ap f4 fD⟩
 rintro _ r ⟨H,n1,W⟩ hr ⟨rfl,hW,hK,u,out,h5,ho,iM,dH⟩;simp only at hW hK ho dH;simp[h5,az,hW,hK];exact⟨out,ho,iM,dH⟩
def A.SA:=A.q Tryz.f108
def A.uE:=A.ql A.SA 0 []
def A.b108:=(fun x0=>A.qb A.SA [x0]) A.uE
def A.k108:=@A.kk 108 22 [.tmp 4] A.b108 (by kernel_rfl) rfl
def Ym4{f:V}{l:List V}{Q:Nat->T O->Nat->List V->Prop}(Y:V->Prop)(hQ:∀j h n h' n' c u,Q j h n c->dR (fun i=>i∈dm u) h n h' n'->n_ 96 Y h u->Q j h' n' c)(hs:Sl h N v l)(hl:l.length<1000000000)(hf:∀(j:Nat) (x:V),l[j]?=some x->∀h' n',ab h N h' n'->gF A.C f [x] h' n' (fun u h2 n2=>∃c,u=(.agg c)/\c.length=4/\c.all V.one=true/\(∀q∈c,Y q)/\Q j h2 n2 c)):Fn A.C 108 [v,f] h N (fun u h' n'=>∃out,Own 4 96 N h' n' u out/\out.length=l.length/\∀(j:Nat),j<l.length->∃c,out[j]?=some c/\Q j h' n' c):=by
 intro w;have hlen:=hs.len;rw[aQ,A.k108 (by simp)];simp[A.b108,hlen];refine b_ [(5,5),(7,7),(10,20)] (fun e r st=>e=.exit 0/\ay N st.w=[]/\ab h N st.h st.n/\∃u out,r.get 5=some u/\Own 4 96 N st.h st.n u out/\out.length=l.length/\∀(j:Nat),j<l.length->∃c,out[j]?=some c/\Q j st.h st.n c) (fun m r st=>ay N st.w=[]/\ab h N st.h st.n/\∃k u out,k+m=l.length/\r.get 10=some (.int .i64 k)/\r.get 5=some u/\Own 4 96 N st.h st.n u out/\out.length=k/\(out=[]->u=.aa)/\(∀c∈out,∀y∈c,Y y)/\∀(j:Nat),j<k->∃c,out[j]?=some c/\Q j st.h st.n c) l.length ?_ ?_ ?_
 ·exact⟨by simp,ab.refl,0,.aa,[],by omega,by simp,by simp,Own.nil,rfl,fun _=>rfl,by simp,fun j hj=>by omega⟩
 ·rintro m r ⟨H,n1,W⟩ hr ef ⟨hW,hK,k,u,out,hk,jU,h5,ho,iM,wU,hY,dH⟩;simp only at hW hK ho dH;rw[bu];cases m with
  |zero=>
   have A2:k=l.length:=by omega
   subst A2;simp[A.uE,hr,ef,jU,hW,hK];exact⟨u,h5,out,ho,iM,dH⟩
  |succ m=>
   have aE:k<l.length:=by omega
   obtain⟨x,hx⟩:=bj aE;obtain⟨i,o,cc,e,rw,q1,q2,q3,q4⟩:=(hs.ad hK).at hx;have cK:(k:Int)<(l.length:Int):=by omega
   have kA:=hK;simp[A.uE,hr,jU,h5,cK,hlen,q1,q3,q4];refine DZ (hf k x hx _ _ kA) ?_;rintro _ h3 n3 k3 ⟨c,rfl,c1,c2,cY,c3⟩;have jT:=k3.le;have kn:=hK.le;have kB:=kA.trans k3;have b1:∀v:List V,(V.agg v).cells=v:=fun _=>rfl;have b2:ae [(.int .i64 0),.aa,(.int .i64 0),.aa] 0 c=c:=by unfold ae;rw[c1];simp
   simp[-V.cells, -V.one,b1,b2,c1,c2];have wm:Own 4 96 N (h3.set n3 (.cells c 96 true)) (n3+1) u out:=(ho.ad ((ab.refl).trans k3)).ad (ab.refl.new _);obtain⟨v',h',w',f1,f2,f3,f4,fD,f5⟩:=FT (Y:=Y) (x:=c) (u:=.slice n3 0 1 (some 1) 4) (bytes:=64) (w:=W) wm wU hY (by omega) (by decide) c1 (by simp only[fQ,St.row,T.ag,if_true];unfold aP;simp[c1];exact fU (by omega)) (by omega);rw[f1];have f6:ay N w'=[]:=by rw[f2];simp[hW]
   have kz:=(kB.new (.cells c 96 true)).then f3;have k4:ab h3 n3 (h3.set n3 (.cells c 96 true)) (n3+1):=ab.refl.new _;have Ap:Q k (h3.set n3 (.cells c 96 true)) (n3+1) c:=hQ _ _ _ _ _ _ .aa c3 k4.upd n_.nil;simp(disch:=first|(simp;done)|omega|rfl) [ef,jU,f6];refine⟨m,by omega,kz,k+1,by omega,by simp,out++[c],f5,by simp[iM],by simp,fun c' hc z hz=>?_,fun j hj=>?_⟩
   ·rcases jn.1 hc with hc|hc
    ·exact hY c' hc z hz
    simp only[u9]at hc;subst hc;exact cY z hz
   by_cases rL:j<k
   ·obtain⟨c,g1,g2⟩:=dH j rL;exact⟨c,by rw[mH (by omega)];exact g1,hQ _ _ _ _ _ _ _ (hQ _ _ _ _ _ _ .aa g2 (((ab.refl).trans k3).trans k4).upd n_.nil) f4 fD⟩
   obtain rfl:j=k:=by omega
   exact⟨c,by rw[qI (by omega),iM];simp,hQ _ _ _ _ _ _ _ Ap f4 fD⟩
 rintro _ r ⟨H,n1,W⟩ hr ⟨rfl,hW,hK,u,out,h5,ho,iM,dH⟩;simp only at hW hK ho dH;simp[h5,az,hW,hK];exact⟨out,ho,iM,dH⟩
def A.w68:=A.q Tryz.f68
def A.yy:=A.ql A.w68 0 []
def A.b68:=(fun x0=>A.qb A.w68 [x0]) A.yy
def A.k68:=@A.kk 68 26 [.cell 4 (some 4)] A.b68 (by kernel_rfl) rfl
def A.b138:=A.q Tryz.f138
def A.k138:=@A.kk 138 8 [.cell 4 (some 4)] A.b138 (by kernel_rfl) rfl
abbrev NW(y:V):Prop:=∀m,y≠.int .u64 m
def In.cf{x:V}{z:Int}{e:TypeId}(s:In h n x z)(k:dR (fun i=>i∈dm v) h n h' n')(hd:n_ e NW h v):In h' n' x z:=by
 rcases s with s|⟨i,o,l,c,s1,s2,s3⟩
 ·exact .inl s
 refine .inr ⟨i,o,l,c,s1,Sl.cf s2 k fun j hj hjv=>?_,s3⟩;simp[dm]at hj;subst hj;obtain⟨z2,g1,_,g3⟩:=hd j hjv;unfold Wn at s2;have aZ:aJ z.natAbs≠[]:=fun h0=>by have:=oO z.natAbs;rw[h0]at this;simp[val]at this;omega
 obtain⟨d,ds,sF⟩:=List.exists_cons_of_ne_nil aZ;have vc:(dg (aJ z.natAbs))[0]?=some (.int .u64 d):=by rw[sF];simp[dg]
 obtain⟨i2,o2,c2,e2,Nc,q1,q2,q3,q4⟩:=Sl.at s2 vc;simp[yJ]at q1;obtain⟨rfl,rfl⟩:=q1;rw[g1]at q3;simp only[au,O.cells.injEq]at q3;obtain⟨rfl,_⟩:=q3;exact g3 _ (cy q4) _ rfl
def fS.cf{c:List V}{q:Rat}{e:TypeId}(s:fS h n c q)(k:dR (fun i=>i∈dm v) h n h' n')(hd:n_ e NW h v):fS h' n' c q:=by obtain⟨n1,u1,n2,u2,rfl,s1,s2⟩:=s;exact⟨n1,u1,n2,u2,rfl,s1.cf k hd,s2.cf k hd⟩
def Sn.CE{z:Nat}{l:List (List V)}(s:Sn z h N v l):∀i∈dm v,i<N:=fun i hi=>by
 rcases s with⟨_,rfl|rfl⟩|⟨j,o,cp,c,e,rw,rfl,hj,_⟩
 ·simp[dm]at hi
 ·simp[dm]at hi
 ·simp[dm]at hi;omega
def Sn.cf{z:Nat}{D:Nat->Prop}{N':Nat}{l:List (List V)}(s:Sn z h N v l)(k:dR D h N h' N')(hd:∀i∈dm v,¬D i):Sn z h' N' v l:=by
 rcases s with s|⟨i,o,cp,c,e,rw,rfl,h2,h3,h4⟩
 ·exact .inl s
 exact .inr ⟨i,o,cp,c,e,rw,rfl,fg h2 k.le,(k.get i h2 (hd i (by simp[dm]))).trans h3,h4⟩
def d_.ad{N':Nat}(s:d_ h N u l)(k:ab h N h' N'):d_ h' N' u l:=⟨s.1.ad k,fun i hi=>by
 obtain⟨cs,h1,_⟩:=s.1
 rw[k.get i (h1.CE i hi)]
 exact s.2 i hi⟩
def d_.cf{e:TypeId}(s:d_ h n u l)(k:dR (fun i=>i∈dm v) h n h' n')(hd:n_ e NW h v)(he:e≠96):d_ h' n' u l:=by
 obtain⟨⟨cs,h1,h2,h3⟩,h4⟩:=s;have hn:∀i∈dm u,i∉dm v:=fun i hi hc=>by obtain⟨z,w,hz⟩:=h4 i hi;obtain⟨z2,eQ,_⟩:=hd i hc;rw[hz]at eQ;simp at eQ;exact he eQ.2.1.symm
 refine⟨⟨cs,h1.cf k hn,h2,fun j q hq=>?_⟩,fun i hi=>by rw[k.get i (h1.CE i hi) (hn i hi)];exact h4 i hi⟩;obtain⟨c,g1,g2⟩:=h3 j q hq;exact⟨c,g1,g2.cf k hd⟩
def YJ{N0:Nat}{out:List (List V)}(s:Own 4 96 N0 h N v out)(hl:out.length=l.length)(hc:∀(j:Nat),j<l.length->∃c,out[j]?=some c/\∀q,l[j]?=some q->fS h N c q):d_ h N v l:=by
 refine⟨⟨out,s.sn,hl,fun j q hq=>?_⟩,fun i hi=>?_⟩
 ·obtain⟨c,g1,g2⟩:=hc j (gI hq);exact⟨c,g1,g2 q hq⟩
 obtain⟨_,⟨_,rfl⟩|⟨j,rfl,_,_,hg⟩⟩:=s
 ·simp[dm]at hi
 simp[dm]at hi;subst hi;exact⟨_,_,hg⟩
structure DtI (h:T O) (N p:Nat) (a b:List Rat) (m:Nat) (r:T V) (st:St):Prop where
 w:ay N st.w=[]
 ad:ab h N st.h st.n
 ex:∃(t:Nat) (c:List V),t+m=a.length/\r.get 10=some (.int .i64 t)/\p<st.n/\st.h.get N=some (.cells zF 96 true)/\st.h.get p=some (.cells c 96 true)/\fS st.h st.n c (kY a b t)
def Yqf{a b:List Rat}{j k:Nat}(hu:jm h N u a)(hv:jm h N v b)(f_:a.length<=b.length)(ha:∀q∈a,Qb j q)(hb:∀q∈b,Qb k q)(hj:1<=j)(hk:1<=k)(hl:a.length*(j+k+1)+j+k+1<=400000000):Fn A.C 68 [u,v] h N (fun x h' n'=>Fc h' n' x (dh a b)):=by
 intro w;have l1:=hu.len;have l2:=hv.len;have hal:a.length<=400000000:=by have:=Nat.le_mul_of_pos_right a.length (show 0<j+k+1 by omega);omega
 rw[aQ,A.k68 (by simp)];simp[A.b68];refine ar (Yuk (by omega) (by omega)) ?_;rintro _ h1 n1 k1 hz;obtain⟨c,rfl,hc⟩:=hz.c;have kB:ab h N (h.set N (.cells zF 96 true)) (N+1):=ab.refl.new _;have xr:=k1.le;have g1:=k1.get N (by omega);rw[T.ag,av rfl]at g1;obtain⟨e1,e2⟩:=hc.len;have kJ:(V.agg c).cells=c:=rfl;have e4:ae zF 0 c=c:=by unfold ae;rw[e1];simp[zF]
 have Aj:uH zF:=by intro x hx m;simp[zF]at hx;rcases hx with rfl|rfl|rfl|rfl<;>simp
 unfold zF at e4;simp[-V.cells, -V.one,kJ,e1,e2,e4,bO,l1];generalize hH:(h1.set n1 (.cells [.int .i64 0,.aa,.int .i64 0,.aa] 96 true)).set n1 (.cells c 96 true)=H1;have kA:ab h1 n1 H1 (n1+1):=by rw[<-hH];exact(ab.refl.new _).set (aM _)
 have kC:ab h N H1 (n1+1):=(kB.trans k1).trans kA;have g2:H1.get n1=some (.cells c 96 true):=by rw[<-hH];simp
 have g3:=(kA.get N (by omega)).trans g1;clear hH;refine b_ [(6,6),(10,24)] (fun e r st=>e=.exit 0/\DtI h N n1 a b 0 r st) (DtI h N n1 a b) a.length ?_ ?_ ?_
 ·exact⟨by simp;omega,kC,0,c,by omega,by simp,by show n1<n1+1;omega,g3,g2,by simpa[kY]using hc.ad kA⟩
 ·rintro m r ⟨H,n2,W⟩ hr hf ⟨hW,hK,t,c0,ht,jU,II,uU,jP,yz⟩;simp only at hW hK II uU jP yz;rw[bu];cases m with
  |zero=>
   obtain rfl:t=a.length:=by omega
   simp[A.yy,hr,hf,jU];exact⟨hW,hK,a.length,c0,by omega,by simp[jU],II,uU,jP,yz⟩
  |succ m=>
   have aE:t<a.length:=by omega
   have bG:(t:Int)<(a.length:Int):=by omega
   have nk:t<b.length:=by omega
   have Cu:(t:Int)<(b.length:Int):=by omega
   obtain⟨x,hx⟩:=bj aE;obtain⟨y,hy⟩:=bj nk;have zE:=ha x (cy hx);have mG:=hb y (cy hy);have AS:=VC ha hb hj hk t;have VB:=zE.mul mG;have hmul:t*(j+k+1)<=a.length*(j+k+1):=jz _ (by omega);have ee:kY a b (t+1)=kY a b t+x*y:=by simp[kY,hx,hy]
   obtain⟨i,o,cc,e,rw,ca,q1,q2,q3,q4,q5⟩:=(hu.ad hK).at hx;obtain⟨i',o',Ok,e',rj,cb,p1,p2,p3,p4,p5⟩:=(hv.ad hK).at hy;have s0:aP c0 0 4=some c0:=by unfold aP;rw[yz.len.1];simp;exact fU (by rw[yz.len.1];omega)
   simp[A.yy,hr,jU,l1,l2,bG,Cu,jP,s0,q1,q2,q3,q4,p1,p2,p3,p4];have w1:=wN zE.1;have w2:=wN (z:=(x.den:Int)) (k:=j) (by rw[ed];exact zE.2);have w3:=wN mG.1;have w4:=wN (z:=(y.den:Int)) (k:=k) (by rw[ed];exact mG.2);have w5:=wN AS.1;have w6:=wN (z:=((kY a b t).den:Int)) (by rw[ed];exact AS.2);have w7:=wN VB.1;have w8:=wN (z:=((x*y).den:Int)) (by rw[ed];exact VB.2);refine ar (SN q5.fc p5.fc (by omega) (by omega) (by omega) (by omega)) ?_;rintro x3 h3 n3 k3 hm3;simp[];refine ar (Yi3 (yz.ad k3).fc hm3 (by omega) (by omega) (by omega) (by omega)) ?_;rintro _ h4' n4 k4 V5;rw[<-ee]at V5;obtain⟨c4,rfl,hc4⟩:=V5.c;have uZ:=k3.le;have zS:=k4.le;have gp4:=(k4.get n1 (by omega)).trans ((k3.get n1 (by omega)).trans jP);have g04:=(k4.get N (by omega)).trans ((k3.get N (by omega)).trans uU);obtain⟨f1,f2⟩:=hc4.len;have f3:=yz.len.1;have zbh:(V.agg c4).cells=c4:=rfl;have e5:ae c0 0 c4=c4:=by unfold ae;rw[f1];simp[f3]
   simp[-V.cells, -V.one,hr,zbh,f1,f2,f3,e5,gp4,bO];have d2:n1<n4:=by omega
   have d3:¬N=n1:=by omega
   have d4:¬n1<N:=by omega
   refine(wD (by simp[-ay,II,d2])).2 ?_;simp(disch:=first|(simp;done)|omega|rfl) [hf,jU,d2];exact⟨m,by omega,by simp[ay,hW,d4],((hK.trans k3).trans k4).set (by omega),t+1,c4,by omega,by simp,d2,by show T.get _ N=_;rw[T.ag,ak d3];exact g04,by show T.get _ n1=_;rw[T.ag,av rfl],hc4.aI gp4 yz.Ng (by rw[f1,f3])⟩
 rintro _ r ⟨H,n2,W⟩ hr ⟨rfl,hW,hK,t,c0,ht,jU,II,uU,jP,yz⟩;simp only at hW hK II uU jP yz;obtain rfl:t=a.length:=by omega
 have s0:aP c0 0 4=some c0:=by unfold aP;rw[yz.len.1];simp;exact fU (by rw[yz.len.1];omega)
 have zbi:(V.agg c0).cells=c0:=rfl;have e5:ae zF 0 c0=c0:=by unfold ae;rw[yz.len.1];simp[zF]
 have f1:=yz.len.1;have f2:=yz.len.2;unfold zF at e5 uU;simp[-V.cells, -V.one,hr,jP,uU,s0,bO,zbi,f1,f2,e5,az];exact⟨hW,hK.set (aM N),(yz.aI uU Aj (by rw[f1];rfl)).fc⟩
variable {N k:Nat} {h:T O} {m:List (List Rat)} {u v:V}
def A.b60:=A.q Tryz.f60
def A.k60:=@A.kk 60 11 [.tmp 4] A.b60 (by kernel_rfl) rfl
def A.b90:=A.q Tryz.f90
def A.k90:=@A.kk 90 8 [.tmp 4] A.b90 (by kernel_rfl) rfl
def A.b169:=A.q Tryz.f169
def A.k169:=@A.kk 169 8 [.cell 3 (some 4)] A.b169 (by kernel_rfl) rfl
def A.b50:=A.q Tryz.f50
def A.k50:=@A.kk 50 5 [.tmp 2] A.b50 (by kernel_rfl) rfl
def Yq4{a b:List Rat}{j:Nat}(hu:jm h N u a)(hv:jm h N v b)(f_:a.length<=b.length)(ha:∀q∈a,Qb j q)(hb:∀q∈b,Qb k q)(hj:1<=j)(hk:1<=k)(hl:a.length*(j+k+1)+j+k+1<=400000000):gF A.C (.func 138 [v] []) [u] h N (fun x h' n'=>Fc h' n' x (dh a b)):=by
 intro w;have kB:ab h N (h.set N (.cells zF 96 true)) (N+1):=ab.refl.new _;rw[aQ,A.k138 (by simp)];simp[A.b138];refine ar (Yqf (hu.ad kB) (hv.ad kB) f_ ha hb hj hk hl) ?_;rintro _ h1 n1 k1 hz;obtain⟨c,rfl,hc⟩:=hz.c;have xr:=k1.le;have g1:=k1.get N (by omega);rw[T.ag,av rfl]at g1;obtain⟨e1,e2⟩:=hc.len;have kJ:(V.agg c).cells=c:=rfl;have e4:ae zF 0 c=c:=by unfold ae;rw[e1];simp[zF]
 have Aj:uH zF:=by intro x hx m;simp[zF]at hx;rcases hx with rfl|rfl|rfl|rfl<;>simp
 have kk:=(kB.trans k1).set (h:=h) (n:=N) (i:=N) (o:=.cells c 96 true) (aM N);have qf:=(hc.aI (e1:=96) (w1:=true) (c1:=c) g1 Aj (by rw[e1];rfl)).fc;have s0:aP c 0 4=some c:=by unfold aP;rw[e1];simp;exact fU (by omega)
 have aE:N<n1:=by omega
 unfold zF at e4;simp[-V.cells, -V.one,kJ,e1,e2,e4,s0,g1,bO,az];exact⟨kk,qf⟩
def fN(h:T O)(N:Nat)(v:V)(m:List (List Rat)):Prop:=∃us:List V,Sl h N v us/\us.length=m.length/\∀(j:Nat) (l:List Rat),m[j]?=some l->∃u,us[j]?=some u/\d_ h N u l
def fN.ad{h':T O}{N':Nat}(s:fN h N v m)(k:ab h N h' N'):fN h' N' v m:=by obtain⟨us,h1,h2,h3⟩:=s;refine⟨us,h1.ad k,h2,fun j l hl=>?_⟩;obtain⟨u,g1,g2⟩:=h3 j l hl;exact⟨u,g1,g2.ad k⟩
def fN.len(s:fN h N v m):qQ v=some m.length:=by obtain⟨us,h1,h2,_⟩:=s;rw[h1.len,h2]
def jm.form{l:List Rat}(s:jm h N v l):V.one v=true/\V.cells v=[v]/\NW v:=by
 obtain⟨cs,⟨_,rfl|rfl⟩|⟨i,o,cp,c,e,rw,rfl,_⟩,_⟩:=s
 ·exact⟨rfl,rfl,fun m=>by simp⟩
 ·exact⟨rfl,rfl,fun m=>by simp⟩
 exact⟨rfl,rfl,fun m=>by simp⟩
def Lv{k0:Nat}(hs:oa h N v m)(hl:m.length<1000000000)(hm:∀l∈m,l.length<1000000000/\∀q∈l,Qb k0 q)(oh:k0<=4000):Fn A.C 50 [v] h N (fun u h' n'=>fN h' n' u m):=by
 intro w;obtain⟨us,h1,h2,h3⟩:=hs;rw[aQ,A.k50 (by simp)];simp[A.b50];refine ar (Ym1 (Q:=fun j h n u=>∀l,m[j]?=some l->d_ h n u l) NW (fun j h n h' n' c u hq k hd l hl=>(hq l hl).cf k hd (by simp)) h1 (by omega) ?_) ?_
 ·intro j x hx h' n' hk;obtain⟨l,hl⟩:=bj (l:=m) (k:=j) (by have:=gI hx;omega);obtain⟨u,g1,g2⟩:=h3 j l hl;rw[hx]at g1;obtain rfl:x=u:=by simpa using g1
  obtain⟨b1,b2⟩:=hm l (cy hl);refine fun w=>(Ek (k0:=k0) (g2.ad hk) b1 b2 oh w).mono fun y st=>?_;rintro⟨q1,q2,q3⟩;obtain⟨f1,f2,f3⟩:=q3.1.form;refine⟨q1,q2,y,rfl,rfl,by simp only[List.all_cons,List.all_nil,f1,Bool.and_true],by simpa using f3,fun l' kM=>?_⟩;rw[hl]at kM;obtain rfl:l=l':=by simpa using kM
  exact q3
 rintro u h4 n4 k4 ⟨out,o1,o2,o3⟩;simp[az];refine⟨k4,?_⟩;have hx:∀x∈out,∃y,x=[y]:=fun x hx=>by
  have:=o1.1 x hx;cases x with
  |nil=>simp at this
  |cons y t=>cases t with
   |nil=>exact⟨y,rfl⟩
   |cons a b=>simp at this
 obtain⟨ys,O9⟩:∃ys:List V,out=ys.map fun y=>[y]:=by
  clear o1 o2 o3;induction out with
  |nil=>exact⟨[],rfl⟩
  |cons x t ih=> obtain⟨y,rfl⟩:=hx x (by simp);obtain⟨ys,rfl⟩:=ih fun x kL=>hx x (by simp[kL]);exact⟨y::ys,rfl⟩
 subst O9;refine⟨ys,Sn.one.1 o1.sn,by simpa[h2]using o2,fun j l hl=>?_⟩;obtain⟨y,g1,g2⟩:=o3 j (by have:=gI hl;omega);refine⟨y,?_,g2 l hl⟩;rw[eH]at g1;cases hy:ys[j]? with
 |none=>rw[hy]at g1;simp at g1
 |some z=>rw[hy]at g1;simpa using g1
def Yhv{f:V}(F:List Rat->Rat)(hs:fN h N v m)(hl:m.length<1000000000)(hf:∀l∈m,∀u h' n',ab h N h' n'->d_ h' n' u l->gF A.C f [u] h' n' (fun x h2 n2=>Fc h2 n2 x (F l))):Fn A.C 108 [v,f] h N (fun u h' n'=>d_ h' n' u (m.map F)):=by
 obtain⟨us,h1,h2,h3⟩:=hs;have key:=Ym4 (f:=f) (Q:=fun j h n c=>∀q,(m.map F)[j]?=some q->fS h n c q) NW (fun j h n h' n' c u hq k hd q zH=>(hq q zH).cf k hd) h1 (by omega) ?_
 ·intro w;refine(key w).mono fun u st=>?_;rintro⟨q1,q2,out,o1,o2,o3⟩;exact⟨q1,q2,YJ o1 (by simpa[h2]using o2) fun j hj=>o3 j (by simp at hj;omega)⟩
 intro j x hx h' n' hk;obtain⟨l,hl⟩:=bj (l:=m) (k:=j) (by have:=gI hx;omega);obtain⟨u,g1,g2⟩:=h3 j l hl;rw[hx]at g1;obtain rfl:x=u:=by simpa using g1
 refine fun w=>(hf l (cy hl) x h' n' hk (g2.ad hk) w).mono fun y st=>?_;rintro⟨q1,q2,q3⟩;obtain⟨c,rfl,hc⟩:=q3.c;refine⟨q1,q2,c,rfl,hc.len.1,hc.len.2,hc.Ng,fun q hq=>?_⟩;simp[hl]at hq;rw[<-hq];exact hc
def NG{b:List Rat}{j n:Nat}(hu:fN h N u m)(hv:jm h N v b)(hm:∀r∈m,r.length=n/\∀q∈r,Qb j q)(hn:n<=b.length)(hb:∀q∈b,Qb k q)(hj:1<=j)(hk:1<=k)(hl:n*(j+k+1)+j+k+1<=400000000)(iH:m.length<100000):Fn A.C 60 [u,v] h N (fun x h' n'=>d_ h' n' x (m.map fun r=>dh r b)):=by
 intro w;rw[aQ,A.k60 (by simp)];simp[A.b60];refine ar (Yhv (fun r=>dh r b) hu (by omega) fun l jq x h' n' kh hx=>?_) ?_
 ·obtain⟨b1,b2⟩:=hm l jq;exact Yq4 hx.1 (hv.ad kh) (by omega) b2 hb hj hk (by rw[b1];exact hl)
 rintro x h4 n4 k4 hx;simp[az];exact⟨k4,hx⟩
def Yvb{p:Nat}{l:List Rat}{e:TypeId}{rw:Bool}(hp:h.get p=some (.cells [.int .i64 k] e rw))(iD:p<N)(hu:jm h N u l)(hk:k<l.length):gF A.C (.func 169 [] [.ptr p 0]) [u] h N (fun x h' n'=>Fc h' n' x (l[k]?.getD 0)):=by
 intro w;have l1:=hu.len;have iE:(k:Int)<(l.length:Int):=by omega
 obtain⟨q,hq⟩:=bj hk;obtain⟨i,o,cc,e,rw,c,q1,q2,q3,q4,q5⟩:=hu.at hq;obtain⟨e1,e2⟩:=q5.len;have kB:ab h N (h.set N (.cells zF 96 true)) (N+1):=ab.refl.new _;have kJ:(V.agg c).cells=c:=rfl;have e4:ae zF 0 c=c:=by unfold ae;rw[e1];simp[zF]
 have Aj:uH zF:=by intro x hx m;simp[zF]at hx;rcases hx with rfl|rfl|rfl|rfl<;>simp
 have s0:aP c 0 4=some c:=by unfold aP;rw[e1];simp;exact fU (by omega)
 have kk:=kB.set (h:=h) (n:=N) (i:=N) (o:=.cells c 96 true) (aM N);have qf:=((q5.ad kB).aI (i:=N) (e0:=96) (w0:=true) (e1:=96) (w1:=true) (c1:=c) (by rw[T.ag,av rfl]) Aj (by rw[e1];rfl)).fc;have d1:¬p=N:=by omega
 have d2:¬i=N:=by omega
 rw[hq];unfold zF at e4;rw[aQ,A.k169 (by simp)];simp[-V.cells, -V.one,A.b169,hp,d1,d2,l1,iE,q1,q3,q4,kJ,e1,e2,e4,s0,bO,az];exact⟨kk,qf⟩
def Zua{n:Nat}(hu:fN h N u m)(iH:m.length<100000)(hm:∀r∈m,r.length=n)(hk:k<n):Fn A.C 90 [u,.int .i64 k] h N (fun x h' n'=>d_ h' n' x (kX m k)):=by
 intro w;rw[aQ,A.k90 (by simp)];have kB:ab h N (h.set N (.cells [.int .i64 k] 3 true)) (N+1):=ab.refl.new _;simp[A.b90];refine ar (Yhv (fun r=>r[k]?.getD 0) (hu.ad kB) (by omega) fun l jq x h' n' kh hx=>?_) ?_
 ·exact Yvb (e:=3) (rw:=true) (by rw[kh.get N (by omega)];simp) (by have:=kh.le;omega) hx.1 (by rw[hm l jq];exact hk)
 rintro x h4 n4 k4 hx;simp[az];exact⟨kB.trans k4,hx⟩
end
end Go.Mx
