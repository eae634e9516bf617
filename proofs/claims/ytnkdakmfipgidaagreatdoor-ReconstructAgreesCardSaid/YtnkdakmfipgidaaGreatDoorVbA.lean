/-reconstruct-/
import Derived.Test.YtnkdakmfipgidaaGreatDoorNfB
set_option linter.all false
set_option maxHeartbeats 2000000
namespace Go.Mx
noncomputable section
open Go Go.Proofs
variable {N:Nat} {h:T O} {v:V}
set_option maxRecDepth 1000000
def A.RU:=A.q Tryz.f111
def A.tG:=A.ql A.RU 0 []
def A.b111:=(fun x0=>A.qb A.RU [x0]) A.tG
def A.k111:=@A.kk 111 21 [.tmp 4] A.b111 (by kernel_rfl) rfl
def A.b64:=A.q Tryz.f64
def A.k64:=@A.kk 64 11 [.tmp 4] A.b64 (by kernel_rfl) rfl
def A.w52:=A.q Tryz.f52
def A.xZ:=A.ql A.w52 0 []
def A.b52:=(fun x0=>A.qb A.w52 [x0]) A.xZ
def A.k52:=@A.kk 52 21 [.tmp 4] A.b52 (by kernel_rfl) rfl
def A.b96:=A.q Tryz.f96
def A.k96:=@A.kk 96 4 [.tmp 2] A.b96 (by kernel_rfl) rfl
def A.b160:=A.q Tryz.f160
def A.k160:=@A.kk 160 16 [.tmp 3] A.b160 (by kernel_rfl) rfl
def Yhs{f:V}{l:List aD}(P:aD->Int)(hs:Sl h N v (strs l))(hl:l.length<100000)(hf:∀s∈l,∀h' n',ab h N h' n'->ij A.C f [.str s] h' n' (fun u _ _=>u=.int .i64 (P s))):Fn A.C 111 [v,f] h N (fun u _ _=>u=.int .i64 (bp (l.map P))):=by
 intro w;have hlen:=hs.len;rw[m7]at hlen;rw[aN,A.k111 (by simp)];simp[A.b111,hlen];refine cm [(4,4),(6,7),(10,20)] (fun e r st=>ay N st.w=[]/\ab h N st.h st.n/\((e=.exit 0/\bp (l.map P)=0)\/(e=.ret/\r.get 4=some (.int .i64 (bp (l.map P)))))) (fun m r st=>ay N st.w=[]/\ab h N st.h st.n/\∃k,k+m=l.length/\r.get 10=some (.int .i64 k)/\bp (l.map P)=bp ((l.drop k).map P)) l.length ?_ ?_ ?_
 ·exact⟨by simp,ab.refl,0,by omega,by simp,by simp⟩
 ·rintro m r ⟨H,n1,W⟩ hr dT ⟨hW,hK,k,hk,h7,hz⟩;simp only at hW hK;rw[bu];cases m with
  |zero=>
   obtain rfl:k=l.length:=by omega
   rw[pw,vF,bp]at hz;simp[A.tG,hr,dT,h7,hz,hW,hK]
  |succ m=>
   have aC:k<l.length:=by omega
   obtain⟨s,hc⟩:=bj aC;obtain⟨i,o,cc,e,rw,q1,q2,q3,q4⟩:=(hs.ad hK).at (GH hc);rw[jN hc,nI,bp]at hz;have cI:(k:Int)<(l.length:Int):=by omega
   simp[A.tG,hr,h7,cI,hlen,q1,q3,q4];refine DH (hf s (cF hc) _ _ hK) ?_;rintro _ h3 n3 k3 rfl;have kk:=hK.trans k3;by_cases h0:P s=0
   ·rw[ar h0]at hz;simp(disch:=first|(simp;done)|omega|rfl) [dT,h7,h0,hW];exact⟨m,by omega,kk,k+1,by omega,by simp,by simpa using hz⟩
   rw[ak h0]at hz;simp[dT,h0,hW,hz];exact kk
 rintro _ r ⟨H,n1,W⟩ hr ⟨hW,hK,⟨rfl,hz⟩|⟨rfl,h2⟩⟩
 ·simp only at hW hK;simp[hz,ax,hW,hK]
 simp only at hW hK;simp[h2,ax,hW,hK]
def VW{l:List aD}{n:Nat}(hs:Sl h N v (strs l))(hl:l.length<100000)(vV:∀s∈l,s.length<=100000):Fn A.C 64 [v,.int .i64 n] h N (fun u _ _=>u=.int .i64 (dj l n)):=by
 intro w;have hlen:=hs.len;rw[m7]at hlen;rw[aN,A.k64 (by simp)];by_cases c:l.length=n
 ·subst c;simp[A.b64,hlen];refine av (Yhs (fun s=>((aS s:Nat):Int)) hs hl fun s hs h' n' _=>Yah (vV s hs)) ?_;rintro _ H2 n2 k2 rfl;simp[ax,dj];exact k2
 have c':¬(l.length:Int)=(n:Int):=by omega
 simp[A.b64,hlen,c',dj,c,ax];exact ab.refl
def YZ{l:List (List aD)}{n:Nat}(hs:dq h N v l)(hl:l.length<100000)(hx:∀x∈l,x.length<100000/\∀s∈x,s.length<=100000):Fn A.C 52 [v,.int .i64 n] h N (fun u _ _=>u=.int .i64 (bp (l.map fun x=>dj x n))):=by
 intro w;have hlen:=hs.len;rw[aN,A.k52 (by simp)];simp[A.b52,hlen];refine cm [(4,4),(6,7),(10,20)] (fun e r st=>ay N st.w=[]/\ab h N st.h st.n/\((e=.exit 0/\bp (l.map (fun x=>dj x n))=0)\/(e=.ret/\r.get 4=some (.int .i64 (bp (l.map (fun x=>dj x n))))))) (fun m r st=>ay N st.w=[]/\ab h N st.h st.n/\∃k,k+m=l.length/\r.get 10=some (.int .i64 k)/\bp (l.map (fun x=>dj x n))=bp ((l.drop k).map (fun x=>dj x n))) l.length ?_ ?_ ?_
 ·exact⟨by simp,ab.refl,0,by omega,by simp,by simp⟩
 ·rintro m r ⟨H,n1,W⟩ hr dT ⟨hW,hK,k,hk,h7,hz⟩;simp only at hW hK;rw[bu];cases m with
  |zero=>
   obtain rfl:k=l.length:=by omega
   rw[pw,vF,bp]at hz;simp[A.xZ,hr,dT,h7,hz,hW,hK]
  |succ m=>
   have aC:k<l.length:=by omega
   obtain⟨s,hc⟩:=bj aC;obtain⟨i,o,cc,e,rw,u,q1,q2,q3,q4,q5⟩:=(hs.ad hK).at hc;rw[jN hc,nI,bp]at hz;have cI:(k:Int)<(l.length:Int):=by omega
   simp[A.xZ,hr,h7,cI,hlen,q1,q3,q4];refine av (VW q5 (hx s (cF hc)).1 (hx s (cF hc)).2) ?_;rintro _ h3 n3 k3 rfl;have kk:=hK.trans k3;by_cases h0:dj s n=0
   ·rw[ar h0]at hz;simp(disch:=first|(simp;done)|omega|rfl) [dT,h7,h0,hW];exact⟨m,by omega,kk,k+1,by omega,by simp,by simpa using hz⟩
   rw[ak h0]at hz;simp[dT,h0,hW,hz];exact kk
 rintro _ r ⟨H,n1,W⟩ hr ⟨hW,hK,⟨rfl,hz⟩|⟨rfl,h2⟩⟩
 ·simp only at hW hK;simp[hz,ax,hW,hK]
 simp only at hW hK;simp[h2,ax,hW,hK]
def Yba{q:Nat}{s:aD}{z:Int}{e:TypeId}{rw:Bool}(hq:h.get q=some (.cells [.int .i64 z] e rw))(aC:q<N)(hl:s.length<=100000):ij A.C (.func 160 [] [.ptr q 0]) [.str s] h N (fun u _ _=>u=.int .i64 (rI z s)):=by
 intro w;rw[aN,A.k160 (by simp)];simp[A.b160];refine av (Yah hl) ?_;rintro _ h2 n2 k2 rfl;by_cases h0:aS s=0
 ·have jM:((aS s:Nat):Int)=0:=by omega
  obtain⟨t1,t2,t3⟩:=HW h0;have l1:(aK (jh s).num).length<=100000:=by
   have:(aK (jh s).num).length<=(an (jh s).num.natAbs).length+1:=by unfold aK;split<;>simp
   omega
  have nL:=(k2.get q aC).trans hq;have pq:=Yhf (q:=jh s) (h:=h2) (N:=n2) l1 (by omega);rw[t1]at pq;simp[h0];refine av pq ?_;rintro x3 h3 n3 k3 hx;have kl2:=k2.le;have Qq:=(k3.get q (by omega)).trans nL;simp[];refine av (Yf hx) ?_;rintro _ h4 n4 k4 rfl;have kl3:=k3.le;have zT:=(k4.get q (by omega)).trans Qq;have kl4:=k4.le;have d4:q<n4:=by omega
  by_cases h5:eE (jh s).num<z
  ·simp[zT,h5,CQ,rI,h0];refine(vE (by simp[-ay,d4])).2 ?_;simp[ax];exact(k2.trans k3).trans k4
  simp[zT,h5,CQ,rI,h0];refine(vE (by simp[-ay,d4])).2 ?_;simp[ax];exact(k2.trans k3).trans k4
 have jM:¬((aS s:Nat):Int)=0:=by omega
 simp[h0,ax,rI];exact k2
variable {N:Nat} {h:T O} {l:List (List aD)} {v:V}
def A.b185:=A.q Tryz.f185
def A.k185:=@A.kk 185 10 [.cell 2 (some 2)] A.b185 (by kernel_rfl) rfl
def A.RV:=A.q Tryz.f124
def A.tH:=A.ql A.RV 0 []
def A.b124:=(fun x0=>A.qb A.RV [x0]) A.tH
def A.k124:=@A.kk 124 47 [.tmp 4] A.b124 (by kernel_rfl) rfl
def A.b62:=A.q Tryz.f62
def A.k62:=@A.kk 62 6 [.tmp 2] A.b62 (by kernel_rfl) rfl
def Yjy{l0:List aD}(hs:dq h N v l)(h0:l[0]?=some l0):Fn A.C 185 [v] h N (fun u _ _=>u=.agg [.int .i64 l.length,.int .i64 l0.length]):=by
 intro w;have hlen:=hs.len;have nO:0<l.length:=gZ h0;have q_:0<(l.length:Int):=by omega
 obtain⟨i0,o0,Ir,e0,AU,u0,z1,z2,z3,z4,z5⟩:=hs.at h0;have z6:=z5.len;rw[m7]at z6;rw[gE]at z4;have d1:¬i0=N:=by omega
 have d2:¬N=i0:=by omega
 rw[aN,A.k185 (by simp)];simp[A.b185,hlen,nO,z1,z3,z4,z6,d1,ag,bO,aQ,aL,ax];exact(ab.refl.new _).set (aO _)
def Zy4{a b:Nat}(hs:dq h N v l)(hl:l.length<100000)(hx:∀x∈l,x.length<100000/\∀s∈x,s.length<=100000):Fn A.C 124 [v,.agg [.int .i64 a,.int .i64 b]] h N (fun u _ _=>u=.int .i64 (iF l a b)):=by
 intro w;have hlen:=hs.len;rw[aN,A.k124 (by simp)];by_cases c0:l.length=0
 ·have c0':(l.length:Int)=0:=by omega
  simp[A.b124,hlen,c0,iF,ax];exact ab.refl.new _
 have c0':¬(l.length:Int)=0:=by omega
 have nO:0<l.length:=by omega
 have q_:0<(l.length:Int):=by omega
 obtain⟨l0,cH⟩:=bj nO;obtain⟨i0,o0,Ir,e0,AU,u0,z1,z2,z3,z4,z5⟩:=hs.at cH;have z6:=z5.len;rw[m7]at z6;rw[gE]at z4;obtain⟨n,hn⟩:∃n,n=l0.length:=⟨_,rfl⟩;have en:ba l=n:=by simp[ba,cH,hn]
 rw[<-hn]at z6;have yl:n<100000:=by have:=(hx l0 (cF cH)).1;omega
 have d1:¬i0=N:=by omega
 have d2:¬N=i0:=by omega
 by_cases c1:n=0
 ·have c1':(n:Int)=0:=by omega
  simp[A.b124,hlen,c0,nO,z1,z3,z4,z6,d1,c1,iF,en,ax];exact ab.refl.new _
 have c1':¬(n:Int)=0:=by omega
 have e1:iF l a b=if a<l.length\/b<n then 5 else bp (l.map fun x=>dj x n):=by simp[iF,en,c0,c1]
 rw[e1];simp[A.b124,hlen,c0,nO,z1,z3,z4,z6,d1,c1];generalize hH:h.set N (.cells [.int .i64 a,.int .i64 b] 149 true)=H;have k1:ab h N H (N+1):=by rw[<-hH];exact ab.refl.new _
 have g1:H.get N=some (.cells [.int .i64 a,.int .i64 b] 149 true):=by rw[<-hH];simp
 clear hH;refine av (Yjy (hs.ad k1) cH) ?_;rintro _ H2 n2 k2 rfl;rw[<-hn];have kl2:=k2.le;have g2:=(k2.get N (by omega)).trans g1;have d3:¬N=n2:=by omega
 have d4:¬n2=N:=by omega
 have kz:ab h N ((H2.set n2 (.cells [.int .i64 0,.int .i64 0] 149 true)).set n2 (.cells [.int .i64 l.length,.int .i64 n] 149 true)) (n2+1):=((k1.trans k2).new _).set (by omega);by_cases c2:a<l.length
 ·have c2':(a:Int)<(l.length:Int):=by omega
  simp[g2,d3,ag,bO,aQ,c2,c2',ax];exact⟨by omega,kz⟩
 have c2':¬(a:Int)<(l.length:Int):=by omega
 by_cases c3:b<n
 ·have c3':(b:Int)<(n:Int):=by omega
  simp[g2,d3,ag,bO,aQ,c2,c2',c3,c3',ax];exact⟨by omega,kz⟩
 have c3':¬(b:Int)<(n:Int):=by omega
 simp[hlen,g2,d3,ag,bO,aQ,c2,c2',c3,c3'];generalize hH3:(H2.set n2 (.cells [.int .i64 0,.int .i64 0] 149 true)).set n2 (.cells [.int .i64 l.length,.int .i64 n] 149 true)=H3 at*;have g3:H3.get n2=some (.cells [.int .i64 l.length,.int .i64 n] 149 true):=by rw[<-hH3];simp
 clear hH3;have kd:ab H3 (n2+1) H3 (n2+1):=ab.refl;refine cm [(4,4),(7,8),(35,46)] (fun e r st=>ay N st.w=[]/\ab h N st.h st.n/\((e=.exit 0/\bp (l.map (fun x=>dj x n))=0)\/(e=.ret/\r.get 4=some (.int .i64 (bp (l.map (fun x=>dj x n))))))) (fun m r st=>ay N st.w=[]/\ab h N st.h st.n/\(n2<st.n/\st.h.get n2=H3.get n2)/\∃k,k+m=l.length/\r.get 35=some (.int .i64 k)/\bp (l.map (fun x=>dj x n))=bp ((l.drop k).map (fun x=>dj x n))) l.length ?_ ?_ ?_
 ·exact⟨by simp;omega,kz,⟨by simp,rfl⟩,0,by omega,by simp,by simp⟩
 ·rintro m r ⟨H,n1,W⟩ hr dT ⟨hW,hK,⟨eK,hG⟩,k,hk,h7,hz⟩;simp only at hW hK eK hG;rw[bu];cases m with
  |zero=>
   obtain rfl:k=l.length:=by omega
   rw[pw,vF,bp]at hz;simp[A.tH,hr,dT,h7,hz,hW,hK]
  |succ m=>
   have aC:k<l.length:=by omega
   obtain⟨s,hc⟩:=bj aC;obtain⟨i,o,cc,e,rw,u,q1,q2,q3,q4,q5⟩:=(hs.ad hK).at hc;have g4:=hG.trans g3;rw[jN hc,nI,bp]at hz;have cI:(k:Int)<(l.length:Int):=by omega
   simp[A.tH,hr,h7,cI,hlen,q1,q3,q4,g4];refine av (VW q5 (hx s (cF hc)).1 (hx s (cF hc)).2) ?_;rintro _ h3 n3 k3 rfl;have kk:=hK.trans k3;by_cases h0:dj s n=0
   ·rw[ar h0]at hz;simp(disch:=first|(simp;done)|omega|rfl) [dT,h7,h0,hW];exact⟨m,by omega,kk,⟨by have:=k3.le;omega,(k3.get n2 eK).trans hG⟩,k+1,by omega,by simp,by simpa using hz⟩
   rw[ak h0]at hz;simp[dT,h0,hW,hz];exact kk
 rintro _ r ⟨H,n1,W⟩ hr ⟨hW,hK,⟨rfl,hz⟩|⟨rfl,h2⟩⟩
 ·simp only at hW hK;simp[hz,ax,hW,hK]
 simp only at hW hK;simp[h2,ax,hW,hK]
def Ykm(hs:dq h N v l)(hl:l.length<100000)(hx:∀x∈l,x.length<100000/\∀s∈x,s.length<=100000):Fn A.C 62 [v] h N (fun u _ _=>u=.int .i64 (iF l 64 64)):=by intro w;rw[aN,A.k62 (by simp)];simp[A.b62,ag];refine av (Zy4 (a:=64) (b:=64) hs hl hx) ?_;rintro _ H2 n2 k2 rfl;simp[ax];exact k2
variable {N:Nat} {h:T O} {l:List aD} {m:List (List aD)} {u v:V} {wq:Bool}
def A.w60:=A.q Tryz.f60
def A.x_:=A.ql A.w60 0 []
def A.b60:=(fun x0=>A.qb A.w60 [x0]) A.x_
def A.k60:=@A.kk 60 18 [.tmp 2] A.b60 (by kernel_rfl) rfl
def A.b61:=A.q Tryz.f61
def A.k61:=@A.kk 61 4 [.tmp 1] A.b61 (by kernel_rfl) rfl
def A.b63:=A.q Tryz.f63
def A.k63:=@A.kk 63 9 [.tmp 2] A.b63 (by kernel_rfl) rfl
def A.b71:=A.q Tryz.f71
def A.k71:=@A.kk 71 12 [.tmp 1] A.b71 (by kernel_rfl) rfl
def A.b72:=A.q Tryz.f72
def A.k72:=@A.kk 72 16 [.tmp 1] A.b72 (by kernel_rfl) rfl
def A.b73:=A.q Tryz.f73
def A.k73:=@A.kk 73 8 [.tmp 1] A.b73 (by kernel_rfl) rfl
def A.b74:=A.q Tryz.f74
def A.k74:=@A.kk 74 7 [.tmp 2] A.b74 (by kernel_rfl) rfl
def NV{fs:List V}{l:List Int}(hs:Sl h N v fs)(RW:fs.length=l.length)(hl:l.length<1000)(hf:∀(j:Nat) (f:V) (e:Int),fs[j]?=some f->l[j]?=some e->(∀(i:Nat) (x:Int),i<j->l[i]?=some x->x=0)->∀h' n',ab h N h' n'->ij A.C f [] h' n' (fun u _ _=>u=.int .i64 e)):Fn A.C 60 [v] h N (fun u _ _=>u=.int .i64 (bp l)):=by
 intro w;have hlen:=hs.len;rw[RW]at hlen;rw[aN,A.k60 (by simp)];simp[A.b60,hlen];refine cm [(2,2),(4,5),(8,17)] (fun e r st=>ay N st.w=[]/\ab h N st.h st.n/\((e=.exit 0/\bp l=0)\/(e=.ret/\r.get 2=some (.int .i64 (bp l))))) (fun m r st=>ay N st.w=[]/\ab h N st.h st.n/\∃k,k+m=l.length/\r.get 8=some (.int .i64 k)/\bp l=bp (l.drop k)/\∀(i:Nat) (x:Int),i<k->l[i]?=some x->x=0) l.length ?_ ?_ ?_
 ·exact⟨by simp,ab.refl,0,by omega,by simp,by simp,fun i x hi=>by omega⟩
 ·rintro m r ⟨H,n1,W⟩ hr dT ⟨hW,hK,k,hk,h7,hz,Nr⟩;simp only at hW hK;rw[bu];cases m with
  |zero=>
   obtain rfl:k=l.length:=by omega
   rw[pw,bp]at hz;simp[A.x_,hr,dT,h7,hz,hW,hK]
  |succ m=>
   have aC:k<l.length:=by omega
   obtain⟨s,hc⟩:=bj aC;obtain⟨f,DS⟩:=bj (show k<fs.length by omega);obtain⟨i,o,cc,e,rw,q1,q2,q3,q4⟩:=(hs.ad hK).at DS;rw[jN hc,bp]at hz;have cI:(k:Int)<(l.length:Int):=by omega
   simp[A.x_,hr,h7,cI,hlen,q1,q3,q4];refine DH (hf k f s DS hc Nr _ _ hK) ?_;rintro _ h3 n3 k3 rfl;have kk:=hK.trans k3;by_cases h0:s=0
   ·rw[ar h0]at hz;simp(disch:=first|(simp;done)|omega|rfl) [dT,h7,h0,hW];refine⟨m,by omega,kk,k+1,by omega,by simp,hz,fun i x hi hx=>?_⟩;by_cases OC:i<k
    ·exact Nr i x OC hx
    obtain rfl:i=k:=by omega
    rw[hc]at hx;rw[<-h0];simpa using hx.symm
   rw[ak h0]at hz;simp[dT,h0,hW,hz];exact kk
 rintro _ r ⟨H,n1,W⟩ hr ⟨hW,hK,⟨rfl,hz⟩|⟨rfl,h2⟩⟩
 ·simp only at hW hK;simp[hz,ax,hW,hK]
 simp only at hW hK;simp[h2,ax,hW,hK]
def Ytt{q:Nat}{l:List aD}{eq:TypeId}(si:h.get q=some (.cells [u] eq wq))(yp:q<N)(hs:dq h N u m)(kl:m.length<100000)(dh:∀x∈m,x.length<100000/\∀s∈x,s.length<=100000):ij A.C (.func 61 [] [.ptr q 0]) [] h N (fun z _ _=>z=.int .i64 (iF m 64 64)):=by intro w;rw[aN,A.k61 (by simp)];simp[A.b61,si];refine av (Ykm hs kl dh) ?_;rintro _ H2 n2 k2 rfl;simp[ax];exact k2
def Yts{p q:Nat}{ep eq:TypeId}{wp:Bool}(mZ:h.get p=some (.cells [v] ep wp))(Lj:p<N)(si:h.get q=some (.cells [u] eq wq))(yp:q<N)(hs:dq h N u m)(kl:m.length<100000)(dh:∀x∈m,x.length<100000/\∀s∈x,s.length<=100000)(ht:Sl h N v (strs l))(nW:l.length<100000)(DY:∀s∈l,s.length<=100000)(m0:0<m.length):ij A.C (.func 63 [] [.ptr p 0,.ptr q 0]) [] h N (fun z _ _=>z=.int .i64 (dj l (ba m))):=by
 intro w;have ml:=hs.len;have q_:0<(m.length:Int):=by omega
 obtain⟨l0,cH⟩:=bj m0;obtain⟨i0,o0,Ir,e0,AU,u0,z1,z2,z3,z4,z5⟩:=hs.at cH;have z6:=z5.len;rw[m7]at z6;rw[gE]at z4;obtain⟨n,hn⟩:∃n,n=l0.length:=⟨_,rfl⟩;have en:ba m=n:=by simp[ba,cH,hn]
 rw[en];rw[<-hn]at z6;rw[aN,A.k63 (by simp)];simp[A.b63,si,mZ,ml,m0,z1,z2,z3,z4,z6];refine av (VW ht nW DY) ?_;rintro _ H2 n2 k2 rfl;have wE:=k2.le;simp[];refine(vE (by simp[-ay,yp,Lj])).2 ?_;simp[ax];exact k2
def Ys6{q:Nat}{l:List aD}{eq:TypeId}(si:h.get q=some (.cells [u] eq wq))(yp:q<N)(hs:dq h N u m)(kl:m.length<100000)(dh:∀x∈m,x.length<100000/\∀s∈x,s.length<=100000):ij A.C (.func 71 [] [.ptr q 0]) [] h N (fun z _ _=>z=.int .i64 (bp [if m.length=0 then 12 else 0,if 16<m.length then 5 else 0])):=by
 intro w;have ml:=hs.len;rw[aN,A.k71 (by simp)];have e1:((m.length:Int)=0)=(m.length=0):=by apply propext;omega
 have e2:(16<(m.length:Int))=(16<m.length):=by apply propext;omega
 simp[A.b71,si,ml,CQ,ag,Li,e2];refine(vE (by simp[-ay,yp])).2 ?_;simp[ax];exact ab.refl.new _
def Ys5{q:Nat}{l:List aD}{eq:TypeId}(si:h.get q=some (.cells [u] eq wq))(yp:q<N)(hs:dq h N u m)(kl:m.length<100000)(dh:∀x∈m,x.length<100000/\∀s∈x,s.length<=100000)(m0:0<m.length):ij A.C (.func 72 [] [.ptr q 0]) [] h N (fun z _ _=>z=.int .i64 (bp [if ba m=0 then 12 else 0,if 16<ba m then 5 else 0])):=by
 intro w;have ml:=hs.len;have q_:0<(m.length:Int):=by omega
 obtain⟨l0,cH⟩:=bj m0;obtain⟨i0,o0,Ir,e0,AU,u0,z1,z2,z3,z4,z5⟩:=hs.at cH;have z6:=z5.len;rw[m7]at z6;rw[gE]at z4;obtain⟨n,hn⟩:∃n,n=l0.length:=⟨_,rfl⟩;have en:ba m=n:=by simp[ba,cH,hn]
 rw[en];rw[<-hn]at z6;rw[aN,A.k72 (by simp)];have e1:((n:Int)=0)=(n=0):=by apply propext;omega
 have e2:(16<(n:Int))=(16<n):=by apply propext;omega
 simp[A.b72,si,ml,m0,z1,z2,z3,z4,z6,CQ,ag,Li,e2];refine(vE (by simp[-ay,yp])).2 ?_;simp[ax];exact ab.refl.new _
def Ys4{q:Nat}{l:List aD}{eq:TypeId}(si:h.get q=some (.cells [u] eq wq))(yp:q<N)(hs:dq h N u m)(kl:m.length<100000)(dh:∀x∈m,x.length<100000/\∀s∈x,s.length<=100000)(m0:0<m.length):ij A.C (.func 73 [] [.ptr q 0]) [] h N (fun z _ _=>z=.int .i64 (bp (m.map fun x=>dj x (ba m)))):=by
 intro w;have ml:=hs.len;have q_:0<(m.length:Int):=by omega
 obtain⟨l0,cH⟩:=bj m0;obtain⟨i0,o0,Ir,e0,AU,u0,z1,z2,z3,z4,z5⟩:=hs.at cH;have z6:=z5.len;rw[m7]at z6;rw[gE]at z4;obtain⟨n,hn⟩:∃n,n=l0.length:=⟨_,rfl⟩;have en:ba m=n:=by simp[ba,cH,hn]
 rw[en];rw[<-hn]at z6;rw[aN,A.k73 (by simp)];simp[A.b73,si,ml,m0,z1,z2,z3,z4,z6];refine av (YZ hs kl dh) ?_;rintro _ H2 n2 k2 rfl;have wE:=k2.le;simp[];refine(vE (by simp[-ay,yp])).2 ?_;simp[ax];exact k2
def Ys3{p q:Nat}{ep eq:TypeId}{wp:Bool}(mZ:h.get p=some (.cells [v] ep wp))(Lj:p<N)(si:h.get q=some (.cells [u] eq wq))(yp:q<N)(hs:dq h N u m)(kl:m.length<100000)(dh:∀x∈m,x.length<100000/\∀s∈x,s.length<=100000)(ht:Sl h N v (strs l))(nW:l.length<100000)(DY:∀s∈l,s.length<=100000):ij A.C (.func 74 [] [.ptr p 0,.ptr q 0]) [] h N (fun z _ _=>z=.int .i64 (dj l m.length)):=by intro w;have ml:=hs.len;rw[aN,A.k74 (by simp)];simp[A.b74,si,mZ,ml];refine av (VW ht nW DY) ?_;rintro _ H2 n2 k2 rfl;simp[ax];exact k2
variable {N n n':Nat} {h h':T O} {l:List Rat} {u v:V}
def A.RX:=A.q Tryz.f131
def A.tI:=A.ql A.RX 0 []
def A.b131:=(fun x0=>A.qb A.RX [x0]) A.tI
def A.k131:=@A.kk 131 22 [.tmp 4] A.b131 (by kernel_rfl) rfl
def Ylj{f:V}{l:List V}{Q:Nat->T O->Nat->V->Prop}(Y:V->Prop)(hQ:∀j h n h' n' c u,Q j h n c->er (fun i=>i∈dk u) h n h' n'->nQ 81 Y h u->Q j h' n' c)(hs:Sl h N v l)(hl:l.length<1000000000)(hf:∀(j:Nat) (x:V),l[j]?=some x->∀h' n',ab h N h' n'->ij A.C f [x] h' n' (fun u h2 n2=>∃y,u=y/\[y].length=1/\[y].all V.one=true/\(∀q∈[y],Y q)/\Q j h2 n2 y)):Fn A.C 131 [v,f] h N (fun u h' n'=>∃out,Own 1 81 N h' n' u out/\out.length=l.length/\∀(j:Nat),j<l.length->∃y,out[j]?=some [y]/\Q j h' n' y):=by
 intro w;have hlen:=hs.len;rw[aN,A.k131 (by simp)];simp[A.b131,hlen];refine cm [(5,5),(7,7),(10,20)] (fun e r st=>e=.exit 0/\ay N st.w=[]/\ab h N st.h st.n/\∃u out,r.get 5=some u/\Own 1 81 N st.h st.n u out/\out.length=l.length/\∀(j:Nat),j<l.length->∃y,out[j]?=some [y]/\Q j st.h st.n y) (fun m r st=>ay N st.w=[]/\ab h N st.h st.n/\∃k u out,k+m=l.length/\r.get 10=some (.int .i64 k)/\r.get 5=some u/\Own 1 81 N st.h st.n u out/\out.length=k/\(out=[]->u=.aa)/\(∀c∈out,∀y∈c,Y y)/\∀(j:Nat),j<k->∃y,out[j]?=some [y]/\Q j st.h st.n y) l.length ?_ ?_ ?_
 ·exact⟨by simp,ab.refl,0,.aa,[],by omega,by simp,by simp,Own.nil,rfl,fun _=>rfl,by simp,fun j hj=>by omega⟩
 ·rintro m r ⟨H,n1,W⟩ hr dT ⟨hW,hK,k,u,out,hk,jH,h5,ho,iI,we,hY,dE⟩;simp only at hW hK ho dE;rw[bu];cases m with
  |zero=>
   have AD:k=l.length:=by omega
   subst AD;simp[A.tI,hr,dT,jH,hW,hK];exact⟨u,h5,out,ho,iI,dE⟩
  |succ m=>
   have aC:k<l.length:=by omega
   obtain⟨x,hx⟩:=bj aC;obtain⟨i,o,cc,e,rw,q1,q2,q3,q4⟩:=(hs.ad hK).at hx;have cI:(k:Int)<(l.length:Int):=by omega
   have kA:=hK;simp[A.tI,hr,jH,h5,cI,hlen,q1,q3,q4];refine DH (hf k x hx _ _ kA) ?_;rintro y h3 n3 k3 ⟨_,rfl,c1,c2,cY,c3⟩;have jG:=k3.le;have kn:=hK.le;have kB:=kA.trans k3;have b1:V.one y=true:=by simpa using c2
   have b2:V.cells y=[y]:=by cases y<;>first|rfl|cases b1
   simp[-V.cells, -V.one,b1,b2,ag];have vo:Own 1 81 N (h3.set n3 (.cells [y] 81 true)) (n3+1) u out:=(ho.ad ((ab.refl).trans k3)).ad (ab.refl.new _);obtain⟨v',h',w',f1,f2,f3,f4,fD,f5⟩:=FO (Y:=Y) (x:=[y]) (u:=.slice n3 0 1 (some 1) 1) (bytes:=24) (w:=W) vo we hY (by omega) (by decide) c1 (by simp[gb,St.row,aL]) (by omega);rw[f1];have f6:ay N w'=[]:=by rw[f2];simp[hW]
   have kz:=(kB.new (.cells [y] 81 true)).then f3;have k4:ab h3 n3 (h3.set n3 (.cells [y] 81 true)) (n3+1):=ab.refl.new _;have zT:Q k (h3.set n3 (.cells [y] 81 true)) (n3+1) y:=hQ _ _ _ _ _ _ .aa c3 k4.upd nQ.nil;simp(disch:=first|(simp;done)|omega|rfl) [dT,jH,f6];refine⟨m,by omega,kz,k+1,by omega,by simp,out++[[y]],f5,by simp[iI],by simp,fun c' hc z hz=>?_,fun j hj=>?_⟩
   ·rcases jB.1 hc with hc|hc
    ·exact hY c' hc z hz
    simp only[uv]at hc;subst hc;exact cY z hz
   by_cases qU:j<k
   ·obtain⟨y,g1,g2⟩:=dE j qU;exact⟨y,by rw[mj (by omega)];exact g1,hQ _ _ _ _ _ _ _ (hQ _ _ _ _ _ _ .aa g2 (((ab.refl).trans k3).trans k4).upd nQ.nil) f4 fD⟩
   obtain rfl:j=k:=by omega
   exact⟨y,by rw[pY (by omega),iI];simp,hQ _ _ _ _ _ _ _ zT f4 fD⟩
 rintro _ r ⟨H,n1,W⟩ hr ⟨rfl,hW,hK,u,out,h5,ho,iI,dE⟩;simp only at hW hK ho dE;simp[h5,ax,hW,hK];exact⟨out,ho,iI,dE⟩
def A.RY:=A.q Tryz.f112
def A.tJ:=A.ql A.RY 0 []
def A.b112:=(fun x0=>A.qb A.RY [x0]) A.tJ
def A.k112:=@A.kk 112 22 [.tmp 4] A.b112 (by kernel_rfl) rfl
def Ylm{f:V}{l:List V}{Q:Nat->T O->Nat->List V->Prop}(Y:V->Prop)(hQ:∀j h n h' n' c u,Q j h n c->er (fun i=>i∈dk u) h n h' n'->nQ 123 Y h u->Q j h' n' c)(hs:Sl h N v l)(hl:l.length<1000000000)(hf:∀(j:Nat) (x:V),l[j]?=some x->∀h' n',ab h N h' n'->ij A.C f [x] h' n' (fun u h2 n2=>∃c,u=(.agg c)/\c.length=4/\c.all V.one=true/\(∀q∈c,Y q)/\Q j h2 n2 c)):Fn A.C 112 [v,f] h N (fun u h' n'=>∃out,Own 4 123 N h' n' u out/\out.length=l.length/\∀(j:Nat),j<l.length->∃c,out[j]?=some c/\Q j h' n' c):=by
 intro w;have hlen:=hs.len;rw[aN,A.k112 (by simp)];simp[A.b112,hlen];refine cm [(5,5),(7,7),(10,20)] (fun e r st=>e=.exit 0/\ay N st.w=[]/\ab h N st.h st.n/\∃u out,r.get 5=some u/\Own 4 123 N st.h st.n u out/\out.length=l.length/\∀(j:Nat),j<l.length->∃c,out[j]?=some c/\Q j st.h st.n c) (fun m r st=>ay N st.w=[]/\ab h N st.h st.n/\∃k u out,k+m=l.length/\r.get 10=some (.int .i64 k)/\r.get 5=some u/\Own 4 123 N st.h st.n u out/\out.length=k/\(out=[]->u=.aa)/\(∀c∈out,∀y∈c,Y y)/\∀(j:Nat),j<k->∃c,out[j]?=some c/\Q j st.h st.n c) l.length ?_ ?_ ?_
 ·exact⟨by simp,ab.refl,0,.aa,[],by omega,by simp,by simp,Own.nil,rfl,fun _=>rfl,by simp,fun j hj=>by omega⟩
 ·rintro m r ⟨H,n1,W⟩ hr dT ⟨hW,hK,k,u,out,hk,jH,h5,ho,iI,we,hY,dE⟩;simp only at hW hK ho dE;rw[bu];cases m with
  |zero=>
   have AD:k=l.length:=by omega
   subst AD;simp[A.tJ,hr,dT,jH,hW,hK];exact⟨u,h5,out,ho,iI,dE⟩
  |succ m=>
   have aC:k<l.length:=by omega
   obtain⟨x,hx⟩:=bj aC;obtain⟨i,o,cc,e,rw,q1,q2,q3,q4⟩:=(hs.ad hK).at hx;have cI:(k:Int)<(l.length:Int):=by omega
   have kA:=hK;simp[A.tJ,hr,jH,h5,cI,hlen,q1,q3,q4];refine DH (hf k x hx _ _ kA) ?_;rintro _ h3 n3 k3 ⟨c,rfl,c1,c2,cY,c3⟩;have jG:=k3.le;have kn:=hK.le;have kB:=kA.trans k3;have b1:∀v:List V,(V.agg v).cells=v:=fun _=>rfl;have b2:ag [(.int .i64 0),.aa,(.int .i64 0),.aa] 0 c=c:=by unfold ag;rw[c1];simp
   simp[-V.cells, -V.one,b1,b2,c1,c2];have vo:Own 4 123 N (h3.set n3 (.cells c 123 true)) (n3+1) u out:=(ho.ad ((ab.refl).trans k3)).ad (ab.refl.new _);obtain⟨v',h',w',f1,f2,f3,f4,fD,f5⟩:=FO (Y:=Y) (x:=c) (u:=.slice n3 0 1 (some 1) 4) (bytes:=64) (w:=W) vo we hY (by omega) (by decide) c1 (by simp only[gb,St.row,T.ae,if_true];unfold aL;simp[c1];exact gp (by omega)) (by omega);rw[f1];have f6:ay N w'=[]:=by rw[f2];simp[hW]
   have kz:=(kB.new (.cells c 123 true)).then f3;have k4:ab h3 n3 (h3.set n3 (.cells c 123 true)) (n3+1):=ab.refl.new _;have zT:Q k (h3.set n3 (.cells c 123 true)) (n3+1) c:=hQ _ _ _ _ _ _ .aa c3 k4.upd nQ.nil;simp(disch:=first|(simp;done)|omega|rfl) [dT,jH,f6];refine⟨m,by omega,kz,k+1,by omega,by simp,out++[c],f5,by simp[iI],by simp,fun c' hc z hz=>?_,fun j hj=>?_⟩
   ·rcases jB.1 hc with hc|hc
    ·exact hY c' hc z hz
    simp only[uv]at hc;subst hc;exact cY z hz
   by_cases qU:j<k
   ·obtain⟨c,g1,g2⟩:=dE j qU;exact⟨c,by rw[mj (by omega)];exact g1,hQ _ _ _ _ _ _ _ (hQ _ _ _ _ _ _ .aa g2 (((ab.refl).trans k3).trans k4).upd nQ.nil) f4 fD⟩
   obtain rfl:j=k:=by omega
   exact⟨c,by rw[pY (by omega),iI];simp,hQ _ _ _ _ _ _ _ zT f4 fD⟩
 rintro _ r ⟨H,n1,W⟩ hr ⟨rfl,hW,hK,u,out,h5,ho,iI,dE⟩;simp only at hW hK ho dE;simp[h5,ax,hW,hK];exact⟨out,ho,iI,dE⟩
def A.RZ:=A.q Tryz.f104
def A.tL:=A.ql A.RZ 0 []
def A.b104:=(fun x0=>A.qb A.RZ [x0]) A.tL
def A.k104:=@A.kk 104 26 [.cell 4 (some 4)] A.b104 (by kernel_rfl) rfl
def A.b152:=A.q Tryz.f152
def A.k152:=@A.kk 152 8 [.cell 4 (some 4)] A.b152 (by kernel_rfl) rfl
abbrev NW(y:V):Prop:=∀m,y≠.int .u64 m
def In.bY{x:V}{z:Int}{e:TypeId}(s:In h n x z)(k:er (fun i=>i∈dk v) h n h' n')(hd:nQ e NW h v):In h' n' x z:=by
 rcases s with s|⟨i,o,l,c,s1,s2,s3⟩
 ·exact .inl s
 refine .inr ⟨i,o,l,c,s1,Sl.bY s2 k fun j hj hjv=>?_,s3⟩;simp[dk]at hj;subst hj;obtain⟨z2,g1,_,g3⟩:=hd j hjv;unfold Wn at s2;have aW:aH z.natAbs≠[]:=fun h0=>by have:=oz z.natAbs;rw[h0]at this;simp[val]at this;omega
 obtain⟨d,ds,ry⟩:=List.exists_cons_of_ne_nil aW;have wz:(dg (aH z.natAbs))[0]?=some (.int .u64 d):=by rw[ry];simp[dg]
 obtain⟨i2,o2,c2,e2,SF,q1,q2,q3,q4⟩:=Sl.at s2 wz;simp[yo]at q1;obtain⟨rfl,rfl⟩:=q1;rw[g1]at q3;simp only[aq,O.cells.injEq]at q3;obtain⟨rfl,_⟩:=q3;exact g3 _ (cF q4) _ rfl
def fV.bY{c:List V}{q:Rat}{e:TypeId}(s:fV h n c q)(k:er (fun i=>i∈dk v) h n h' n')(hd:nQ e NW h v):fV h' n' c q:=by obtain⟨n1,u1,n2,u2,rfl,s1,s2⟩:=s;exact⟨n1,u1,n2,u2,rfl,s1.bY k hd,s2.bY k hd⟩
def Sn.Cv{z:Nat}{l:List (List V)}(s:Sn z h N v l):∀i∈dk v,i<N:=fun i hi=>by
 rcases s with⟨_,rfl|rfl⟩|⟨j,o,cp,c,e,rw,rfl,hj,_⟩
 ·simp[dk]at hi
 ·simp[dk]at hi
 ·simp[dk]at hi;omega
def Sn.bY{z:Nat}{D:Nat->Prop}{N':Nat}{l:List (List V)}(s:Sn z h N v l)(k:er D h N h' N')(hd:∀i∈dk v,¬D i):Sn z h' N' v l:=by
 rcases s with s|⟨i,o,cp,c,e,rw,rfl,h2,h3,h4⟩
 ·exact .inl s
 exact .inr ⟨i,o,cp,c,e,rw,rfl,fm h2 k.le,(k.get i h2 (hd i (by simp[dk]))).trans h3,h4⟩
def ec.ad{N':Nat}(s:ec h N u l)(k:ab h N h' N'):ec h' N' u l:=⟨s.1.ad k,fun i hi=>by
 obtain⟨cs,h1,_⟩:=s.1
 rw[k.get i (h1.Cv i hi)]
 exact s.2 i hi⟩
def ec.bY{e:TypeId}(s:ec h n u l)(k:er (fun i=>i∈dk v) h n h' n')(hd:nQ e NW h v)(he:e≠123):ec h' n' u l:=by
 obtain⟨⟨cs,h1,h2,h3⟩,h4⟩:=s;have hn:∀i∈dk u,i∉dk v:=fun i hi hc=>by obtain⟨z,w,hz⟩:=h4 i hi;obtain⟨z2,eW,_⟩:=hd i hc;rw[hz]at eW;simp at eW;exact he eW.2.1.symm
 refine⟨⟨cs,h1.bY k hn,h2,fun j q hq=>?_⟩,fun i hi=>by rw[k.get i (h1.Cv i hi) (hn i hi)];exact h4 i hi⟩;obtain⟨c,g1,g2⟩:=h3 j q hq;exact⟨c,g1,g2.bY k hd⟩
def Yg{N0:Nat}{out:List (List V)}(s:Own 4 123 N0 h N v out)(hl:out.length=l.length)(hc:∀(j:Nat),j<l.length->∃c,out[j]?=some c/\∀q,l[j]?=some q->fV h N c q):ec h N v l:=by
 refine⟨⟨out,s.sn,hl,fun j q hq=>?_⟩,fun i hi=>?_⟩
 ·obtain⟨c,g1,g2⟩:=hc j (gZ hq);exact⟨c,g1,g2 q hq⟩
 obtain⟨_,⟨_,rfl⟩|⟨j,rfl,_,_,hg⟩⟩:=s
 ·simp[dk]at hi
 simp[dk]at hi;subst hi;exact⟨_,_,hg⟩
structure DtI (h:T O) (N p:Nat) (a b:List Rat) (m:Nat) (r:T V) (st:St):Prop where
 w:ay N st.w=[]
 ad:ab h N st.h st.n
 ex:∃(t:Nat) (c:List V),t+m=a.length/\r.get 10=some (.int .i64 t)/\p<st.n/\st.h.get N=some (.cells zF 123 true)/\st.h.get p=some (.cells c 123 true)/\fV st.h st.n c (nT a b t)
def Ywj{a b:List Rat}{j k:Nat}(hu:kf h N u a)(hv:kf h N v b)(fX:a.length<=b.length)(ha:∀q∈a,Qb j q)(hb:∀q∈b,Qb k q)(hj:1<=j)(hk:1<=k)(hl:a.length*(j+k+1)+j+k+1<=400000000):Fn A.C 104 [u,v] h N (fun x h' n'=>Fc h' n' x (e_ a b)):=by
 intro w;have l1:=hu.len;have l2:=hv.len;have hal:a.length<=400000000:=by have:=Nat.le_mul_of_pos_right a.length (show 0<j+k+1 by omega);omega
 rw[aN,A.k104 (by simp)];simp[A.b104];refine av (Yv7 (by omega) (by omega)) ?_;rintro _ h1 n1 k1 hz;obtain⟨c,rfl,hc⟩:=hz.c;have kB:ab h N (h.set N (.cells zF 123 true)) (N+1):=ab.refl.new _;have yw:=k1.le;have g1:=k1.get N (by omega);rw[T.ae,ar rfl]at g1;obtain⟨e1,e2⟩:=hc.len;have mW:(V.agg c).cells=c:=rfl;have e4:ag zF 0 c=c:=by unfold ag;rw[e1];simp[zF]
 have DD:ux zF:=by intro x hx m;simp[zF]at hx;rcases hx with rfl|rfl|rfl|rfl<;>simp
 unfold zF at e4;simp[-V.cells, -V.one,mW,e1,e2,e4,bO,l1];generalize hH:(h1.set n1 (.cells [.int .i64 0,.aa,.int .i64 0,.aa] 123 true)).set n1 (.cells c 123 true)=H1;have kA:ab h1 n1 H1 (n1+1):=by rw[<-hH];exact(ab.refl.new _).set (aO _)
 have kC:ab h N H1 (n1+1):=(kB.trans k1).trans kA;have g2:H1.get n1=some (.cells c 123 true):=by rw[<-hH];simp
 have g3:=(kA.get N (by omega)).trans g1;clear hH;refine cm [(6,6),(10,24)] (fun e r st=>e=.exit 0/\DtI h N n1 a b 0 r st) (DtI h N n1 a b) a.length ?_ ?_ ?_
 ·exact⟨by simp;omega,kC,0,c,by omega,by simp,by show n1<n1+1;omega,g3,g2,by simpa[nT]using hc.ad kA⟩
 ·rintro m r ⟨H,n2,W⟩ hr hf ⟨hW,hK,t,c0,ht,jH,Iv,ui,mZ,ya⟩;simp only at hW hK Iv ui mZ ya;rw[bu];cases m with
  |zero=>
   obtain rfl:t=a.length:=by omega
   simp[A.tL,hr,hf,jH];exact⟨hW,hK,a.length,c0,by omega,by simp[jH],Iv,ui,mZ,ya⟩
  |succ m=>
   have aC:t<a.length:=by omega
   have cg:(t:Int)<(a.length:Int):=by omega
   have nK:t<b.length:=by omega
   have KP:(t:Int)<(b.length:Int):=by omega
   obtain⟨x,hx⟩:=bj aC;obtain⟨y,hy⟩:=bj nK;have HJ:=ha x (cF hx);have qO:=hb y (cF hy);have Dv:=Zxv ha hb hj hk t;have y_:=HJ.mul qO;have hmul:t*(j+k+1)<=a.length*(j+k+1):=nf _ (by omega);have ee:nT a b (t+1)=nT a b t+x*y:=by simp[nT,hx,hy]
   obtain⟨i,o,cc,e,rw,ca,q1,q2,q3,q4,q5⟩:=(hu.ad hK).at hx;obtain⟨i',o',Zx,e',rQ,cb,p1,p2,p3,p4,p5⟩:=(hv.ad hK).at hy;have s0:aL c0 0 4=some c0:=by unfold aL;rw[ya.len.1];simp;exact gp (by rw[ya.len.1];omega)
   simp[A.tL,hr,jH,l1,l2,cg,KP,mZ,s0,q1,q2,q3,q4,p1,p2,p3,p4];have w1:=vU HJ.1;have w2:=vU (z:=(x.den:Int)) (k:=j) (by rw[eh];exact HJ.2);have w3:=vU qO.1;have w4:=vU (z:=(y.den:Int)) (k:=k) (by rw[eh];exact qO.2);have w5:=vU Dv.1;have w6:=vU (z:=((nT a b t).den:Int)) (by rw[eh];exact Dv.2);have w7:=vU y_.1;have w8:=vU (z:=((x*y).den:Int)) (by rw[eh];exact y_.2);refine av (Sf q5.fc p5.fc (by omega) (by omega) (by omega) (by omega)) ?_;rintro x3 h3 n3 k3 hm3;simp[];refine av (Yhl (ya.ad k3).fc hm3 (by omega) (by omega) (by omega) (by omega)) ?_;rintro _ h4' n4 k4 VL;rw[<-ee]at VL;obtain⟨c4,rfl,hc4⟩:=VL.c;have wc:=k3.le;have CP:=k4.le;have gp4:=(k4.get n1 (by omega)).trans ((k3.get n1 (by omega)).trans mZ);have g04:=(k4.get N (by omega)).trans ((k3.get N (by omega)).trans ui);obtain⟨f1,f2⟩:=hc4.len;have f3:=ya.len.1;have zaX:(V.agg c4).cells=c4:=rfl;have e5:ag c0 0 c4=c4:=by unfold ag;rw[f1];simp[f3]
   simp[-V.cells, -V.one,hr,zaX,f1,f2,f3,e5,gp4,bO];have d2:n1<n4:=by omega
   have d3:¬N=n1:=by omega
   have d4:¬n1<N:=by omega
   refine(vE (by simp[-ay,Iv,d2])).2 ?_;simp(disch:=first|(simp;done)|omega|rfl) [hf,jH,d2];exact⟨m,by omega,by simp[ay,hW,d4],((hK.trans k3).trans k4).set (by omega),t+1,c4,by omega,by simp,d2,by show T.get _ N=_;rw[T.ae,ak d3];exact g04,by show T.get _ n1=_;rw[T.ae,ar rfl],hc4.aI gp4 ya.Nb (by rw[f1,f3])⟩
 rintro _ r ⟨H,n2,W⟩ hr ⟨rfl,hW,hK,t,c0,ht,jH,Iv,ui,mZ,ya⟩;simp only at hW hK Iv ui mZ ya;obtain rfl:t=a.length:=by omega
 have s0:aL c0 0 4=some c0:=by unfold aL;rw[ya.len.1];simp;exact gp (by rw[ya.len.1];omega)
 have zaY:(V.agg c0).cells=c0:=rfl;have e5:ag zF 0 c0=c0:=by unfold ag;rw[ya.len.1];simp[zF]
 have f1:=ya.len.1;have f2:=ya.len.2;unfold zF at e5 ui;simp[-V.cells, -V.one,hr,mZ,ui,s0,bO,zaY,f1,f2,e5,ax];exact⟨hW,hK.set (aO N),(ya.aI ui DD (by rw[f1];rfl)).fc⟩
end
end Go.Mx
