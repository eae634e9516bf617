/-CheckWeights, LargeRow-/
import Derived.Test.YtfeehbdhikiikaaGreatDoorNdE
set_option linter.all false
set_option maxHeartbeats 2000000
namespace Go.Mx
variable{rw:Bool}{z:Int}{a b:List Rat}{N' j k0:Nat}{f:V}
noncomputable section
open Go Go.Proofs
set_option maxRecDepth 1000000
def A.w6:=A.q Tryz.f6
def A.CI:=A.ql A.w6 0 []
def A.b6:=(fun x0=>A.qb A.w6 [x0]) A.CI
def A.k6:=@A.kk 6 34 [.tmp 6] A.b6 (by kernel_rfl) rfl
def jm(least:Int)(s:aH):Int:=if aR s=0 then (if dB (e_ s).num<least then 3 else 0) else ((aR s:Nat):Int)
def sW(l:List aH)(n:Nat)(least:Int):Int:=if l.length=n then cM (l.map (jm least)) else 2
def Yxs{h:T O}{N:Nat}{v:V}{l:List aH}{n:Nat}(hs:Sl h N v (strs l))(hl:l.length<100000)(wG:∀s∈l,s.length<=100000):Fn A.C 6 [v,.int .i64 n,.int .i64 z] h N (fun u _ _=>u=.int .i64 (sW l n z)):=by
 intro w;have hlen:=hs.len;rw[pK]at hlen;rw[aP,A.k6 (by simp)];by_cases c:l.length=n
 ·have e1:sW l n z=cM (l.map (jm z)):=by simp[sW,c]
  rw[e1];subst c;simp[A.b6,hlen];refine cB [(6,8),(13,33)] (fun e r st=>az N st.w=[]/\ab h N st.h st.n/\((e=.exit 0/\cM (l.map (jm z))=0)\/(e=.ret/\r.get 6=some (.int .i64 (cM (l.map (jm z))))))) (fun m r st=>az N st.w=[]/\ab h N st.h st.n/\∃k,k+m=l.length/\r.get 7=some (.int .i64 k)/\cM (l.map (jm z))=cM ((l.drop k).map (jm z))) l.length ?_ ?_ ?_
  ·exact⟨by simp,ab.refl,0,by omega,by simp,by simp⟩
  ·rintro m r ⟨H,n1,W⟩ hr hf ⟨hW,hK,k,hk,h7,hz⟩;simp only at hW hK;rw[bG];cases m with
   |zero=>
    obtain rfl:k=l.length:=by omega
    rw[rE,yY,cM]at hz;simp[A.CI,hr,hf,h7,hlen,hz,hW,hK]
   |succ m=>
    have aD:k<l.length:=by omega
    obtain⟨s,hc⟩:=bs aD;have BB:=Gk hc;obtain⟨i,o,cc,e,rw,q1,q2,q3,q4⟩:=(hs.ad hK).at BB;rw[oh hc,pU,cM]at hz;have dj:(k:Int)<(l.length:Int):=by omega
    simp[A.CI,hr,h7,dj,hlen,q1,q3,q4];refine au (Tj (wG s (cP hc))) ?_;rintro _ h3 n3 k3 rfl;have kk:=hK.trans k3;by_cases h0:aR s=0
    ·obtain⟨t1,_⟩:=Gd h0;obtain⟨i',o',cc',e',sO,p1,p2,p3,p4⟩:=(hs.ad kk).at BB;rw[<-t1]at p4;have jD:((aR s:Nat):Int)=0:=by omega
     by_cases h2:dB (e_ s).num<z
     ·have e2:jm z s=3:=by simp[jm,h0,h2]
      rw[e2,ak (by decide)]at hz;simp[hr,hf,h7,h0,hW,dj,hlen,p1,p3,p4,Lp,h2,hz];exact kk
     have e2:jm z s=0:=by simp[jm,h0,h2]
     rw[e2,av rfl]at hz;simp(disch:=first|(simp;done)|omega|rfl) [hr,hf,h7,h0,hW,hlen,p1,p3,p4,Lp,h2];exact⟨m,by omega,kk,k+1,by omega,by simp,by simpa using hz⟩
    have e2:jm z s=((aR s:Nat):Int):=by simp[jm,h0]
    have jD:¬((aR s:Nat):Int)=0:=by omega
    rw[e2,ak jD]at hz;simp[hf,h0,hW,hz];exact kk
  rintro _ r ⟨H,n1,W⟩ hr ⟨hW,hK,⟨rfl,hz⟩|⟨rfl,h2⟩⟩
  ·simp only at hW hK;simp[hz,ay,hW,hK]
  simp only at hW hK;simp[h2,ay,hW,hK]
 have c':¬(l.length:Int)=(n:Int):=by omega
 simp[A.b6,hlen,c',sW,c,ay];exact ab.refl
def uE(l:List Rat):Bool:=l.any vV
variable {N:Nat} {h:T O}
def A.w86:=A.q Tryz.f86
def A.yr:=A.ql A.w86 0 []
def A.b86:=(fun x0=>A.qb A.w86 [x0]) A.yr
def A.k86:=@A.kk 86 21 [.tmp 4] A.b86 (by kernel_rfl) rfl
def A.b70:=A.q Tryz.f70
def A.k70:=@A.kk 70 11 [.tmp 4] A.b70 (by kernel_rfl) rfl
def A.b61:=A.q Tryz.f61
def A.k61:=@A.kk 61 4 [.tmp 2] A.b61 (by kernel_rfl) rfl
def A.b139:=A.q Tryz.f139
def A.k139:=@A.kk 139 16 [.tmp 3] A.b139 (by kernel_rfl) rfl
def Zyi{v:V}{l:List aH}(P:aH->Int)(hs:Sl h N v (strs l))(hl:l.length<100000)(hf:∀s∈l,∀h' n',ab h N h' n'->fW A.C f [.str s] h' n' (fun u _ _=>u=.int .i64 (P s))):Fn A.C 86 [v,f] h N (fun u _ _=>u=.int .i64 (cM (l.map P))):=by
 intro w;have hlen:=hs.len;rw[pK]at hlen;rw[aP,A.k86 (by simp)];simp[A.b86,hlen];refine cB [(4,4),(6,7),(10,20)] (fun e r st=>az N st.w=[]/\ab h N st.h st.n/\((e=.exit 0/\cM (l.map P)=0)\/(e=.ret/\r.get 4=some (.int .i64 (cM (l.map P)))))) (fun m r st=>az N st.w=[]/\ab h N st.h st.n/\∃k,k+m=l.length/\r.get 10=some (.int .i64 k)/\cM (l.map P)=cM ((l.drop k).map P)) l.length ?_ ?_ ?_
 ·exact⟨by simp,ab.refl,0,by omega,by simp,by simp⟩
 ·rintro m r ⟨H,n1,W⟩ hr eI ⟨hW,hK,k,hk,h7,hz⟩;simp only at hW hK;rw[bG];cases m with
  |zero=>
   obtain rfl:k=l.length:=by omega
   rw[rE,yY,cM]at hz;simp[A.yr,hr,eI,h7,hz,hW,hK]
  |succ m=>
   have aD:k<l.length:=by omega
   obtain⟨s,hc⟩:=bs aD;obtain⟨i,o,cc,e,rw,q1,q2,q3,q4⟩:=(hs.ad hK).at (Gk hc);rw[oh hc,pU,cM]at hz;have dj:(k:Int)<(l.length:Int):=by omega
   simp[A.yr,hr,h7,dj,hlen,q1,q3,q4];refine Bo (hf s (cP hc) _ _ hK) ?_;rintro _ h3 n3 k3 rfl;have kk:=hK.trans k3;by_cases h0:P s=0
   ·rw[av h0]at hz;simp(disch:=first|(simp;done)|omega|rfl) [eI,h7,h0,hW];exact⟨m,by omega,kk,k+1,by omega,by simp,by simpa using hz⟩
   rw[ak h0]at hz;simp[eI,h0,hW,hz];exact kk
 rintro _ r ⟨H,n1,W⟩ hr ⟨hW,hK,⟨rfl,hz⟩|⟨rfl,h2⟩⟩
 ·simp only at hW hK;simp[hz,ay,hW,hK]
 simp only at hW hK;simp[h2,ay,hW,hK]
def Wd{v:V}{l:List aH}{n:Nat}(hs:Sl h N v (strs l))(hl:l.length<100000)(wG:∀s∈l,s.length<=100000):Fn A.C 70 [v,.int .i64 n] h N (fun u _ _=>u=.int .i64 (dM l n)):=by
 intro w;have hlen:=hs.len;rw[pK]at hlen;rw[aP,A.k70 (by simp)];by_cases c:l.length=n
 ·subst c;simp[A.b70,hlen];refine au (Zyi (fun s=>((aR s:Nat):Int)) hs hl fun s hs h' n' _=>Ybe (wG s hs)) ?_;rintro _ H2 n2 k2 rfl;simp[ay,dM];exact k2
 have c':¬(l.length:Int)=(n:Int):=by omega
 simp[A.b70,hlen,c',dM,c,ay];exact ab.refl
def Zmq{q:Nat}{s:aH}{e:TypeId}(hq:h.get q=some (.cells [.int .i64 z] e rw))(aD:q<N)(hl:s.length<=100000):fW A.C (.func 139 [] [.ptr q 0]) [.str s] h N (fun u _ _=>u=.int .i64 (jm z s)):=by
 intro w;rw[aP,A.k139 (by simp)];simp[A.b139];refine au (Ybe hl) ?_;rintro _ h2 n2 k2 rfl;by_cases h0:aR s=0
 ·have jD:((aR s:Nat):Int)=0:=by omega
  obtain⟨t1,t2,t3⟩:=Gd h0;have l1:(aM (e_ s).num).length<=100000:=by
   have:(aM (e_ s).num).length<=(aq (e_ s).num.natAbs).length+1:=by unfold aM;split<;>simp
   omega
  have mV:=(k2.get q aD).trans hq;have uK:=Zyb (q:=e_ s) (h:=h2) (N:=n2) l1 (by omega);rw[t1]at uK;simp[h0];refine au uK ?_;rintro x3 h3 n3 k3 hx;have kl2:=k2.le;have Q2:=(k3.get q (by omega)).trans mV;simp[];refine au (ZM hx) ?_;rintro _ h4 n4 k4 rfl;have kl3:=k3.le;have yK:=(k4.get q (by omega)).trans Q2;have kl4:=k4.le;have d4:q<n4:=by omega
  by_cases h5:dB (e_ s).num<z
  ·simp[yK,h5,Vn,jm,h0];refine(wP (by simp[-az,d4])).2 ?_;simp[ay];exact(k2.trans k3).trans k4
  simp[yK,h5,Vn,jm,h0];refine(wP (by simp[-az,d4])).2 ?_;simp[ay];exact(k2.trans k3).trans k4
 have jD:¬((aR s:Nat):Int)=0:=by omega
 simp[h0,ay,jm];exact k2
variable {N:Nat} {h:T O} {l:List (List aH)} {v:V}
def A.b213:=A.q Tryz.f213
def A.k213:=@A.kk 213 10 [.cell 2 (some 2)] A.b213 (by kernel_rfl) rfl
def A.Sy:=A.q Tryz.f152
def A.ux:=A.ql A.Sy 0 []
def A.b152:=(fun x0=>A.qb A.Sy [x0]) A.ux
def A.k152:=@A.kk 152 47 [.tmp 4] A.b152 (by kernel_rfl) rfl
def A.b68:=A.q Tryz.f68
def A.k68:=@A.kk 68 6 [.tmp 2] A.b68 (by kernel_rfl) rfl
def Ykh{l0:List aH}(hs:fE h N v l)(h0:l[0]?=some l0):Fn A.C 213 [v] h N (fun u _ _=>u=.agg [.int .i64 l.length,.int .i64 l0.length]):=by
 intro w;have hlen:=hs.len;have nZ:0<l.length:=fv h0;have vP:0<(l.length:Int):=by omega
 obtain⟨i0,o0,Sx,e0,EX,u0,z1,z2,z3,z4,z5⟩:=hs.at h0;have z6:=z5.len;rw[pK]at z6;rw[iX]at z4;have d1:¬i0=N:=by omega
 have d2:¬N=i0:=by omega
 rw[aP,A.k213 (by simp)];simp[A.b213,hlen,nZ,z1,z3,z4,z6,d1,ae,bM,aS,aO,ay];exact(ab.refl.new _).set (aN _)
def Zzu{a b:Nat}(hs:fE h N v l)(hl:l.length<100000)(hx:∀x∈l,x.length<100000/\∀s∈x,s.length<=100000):Fn A.C 152 [v,.agg [.int .i64 a,.int .i64 b]] h N (fun u _ _=>u=.int .i64 (gX l a b)):=by
 intro w;have hlen:=hs.len;rw[aP,A.k152 (by simp)];by_cases c0:l.length=0
 ·have c0':(l.length:Int)=0:=by omega
  simp[A.b152,hlen,c0,gX,ay];exact ab.refl.new _
 have c0':¬(l.length:Int)=0:=by omega
 have nZ:0<l.length:=by omega
 have vP:0<(l.length:Int):=by omega
 obtain⟨l0,dk⟩:=bs nZ;obtain⟨i0,o0,Sx,e0,EX,u0,z1,z2,z3,z4,z5⟩:=hs.at dk;have z6:=z5.len;rw[pK]at z6;rw[iX]at z4;obtain⟨n,hn⟩:∃n,n=l0.length:=⟨_,rfl⟩;have en:bg l=n:=by simp[bg,dk,hn]
 rw[<-hn]at z6;have zi:n<100000:=by have:=(hx l0 (cP dk)).1;omega
 have d1:¬i0=N:=by omega
 have d2:¬N=i0:=by omega
 by_cases c1:n=0
 ·have c1':(n:Int)=0:=by omega
  simp[A.b152,hlen,c0,nZ,z1,z3,z4,z6,d1,c1,gX,en,ay];exact ab.refl.new _
 have c1':¬(n:Int)=0:=by omega
 have e1:gX l a b=if a<l.length\/b<n then 5 else cM (l.map fun x=>dM x n):=by simp[gX,en,c0,c1]
 rw[e1];simp[A.b152,hlen,c0,nZ,z1,z3,z4,z6,d1,c1];generalize hH:h.set N (.cells [.int .i64 a,.int .i64 b] 168 true)=H;have k1:ab h N H (N+1):=by rw[<-hH];exact ab.refl.new _
 have g1:H.get N=some (.cells [.int .i64 a,.int .i64 b] 168 true):=by rw[<-hH];simp
 clear hH;refine au (Ykh (hs.ad k1) dk) ?_;rintro _ H2 n2 k2 rfl;rw[<-hn];have kl2:=k2.le;have g2:=(k2.get N (by omega)).trans g1;have d3:¬N=n2:=by omega
 have d4:¬n2=N:=by omega
 have kz:ab h N ((H2.set n2 (.cells [.int .i64 0,.int .i64 0] 168 true)).set n2 (.cells [.int .i64 l.length,.int .i64 n] 168 true)) (n2+1):=((k1.trans k2).new _).set (by omega);by_cases c2:a<l.length
 ·have c2':(a:Int)<(l.length:Int):=by omega
  simp[g2,d3,ae,bM,aS,c2,c2',ay];exact⟨by omega,kz⟩
 have c2':¬(a:Int)<(l.length:Int):=by omega
 by_cases c3:b<n
 ·have c3':(b:Int)<(n:Int):=by omega
  simp[g2,d3,ae,bM,aS,c2,c2',c3,c3',ay];exact⟨by omega,kz⟩
 have c3':¬(b:Int)<(n:Int):=by omega
 simp[hlen,g2,d3,ae,bM,aS,c2,c2',c3,c3'];generalize hH3:(H2.set n2 (.cells [.int .i64 0,.int .i64 0] 168 true)).set n2 (.cells [.int .i64 l.length,.int .i64 n] 168 true)=H3 at*;have g3:H3.get n2=some (.cells [.int .i64 l.length,.int .i64 n] 168 true):=by rw[<-hH3];simp
 clear hH3;have kd:ab H3 (n2+1) H3 (n2+1):=ab.refl;refine cB [(4,4),(7,8),(35,46)] (fun e r st=>az N st.w=[]/\ab h N st.h st.n/\((e=.exit 0/\cM (l.map (fun x=>dM x n))=0)\/(e=.ret/\r.get 4=some (.int .i64 (cM (l.map (fun x=>dM x n))))))) (fun m r st=>az N st.w=[]/\ab h N st.h st.n/\(n2<st.n/\st.h.get n2=H3.get n2)/\∃k,k+m=l.length/\r.get 35=some (.int .i64 k)/\cM (l.map (fun x=>dM x n))=cM ((l.drop k).map (fun x=>dM x n))) l.length ?_ ?_ ?_
 ·exact⟨by simp;omega,kz,⟨by simp,rfl⟩,0,by omega,by simp,by simp⟩
 ·rintro m r ⟨H,n1,W⟩ hr eI ⟨hW,hK,⟨fi,hG⟩,k,hk,h7,hz⟩;simp only at hW hK fi hG;rw[bG];cases m with
  |zero=>
   obtain rfl:k=l.length:=by omega
   rw[rE,yY,cM]at hz;simp[A.ux,hr,eI,h7,hz,hW,hK]
  |succ m=>
   have aD:k<l.length:=by omega
   obtain⟨s,hc⟩:=bs aD;obtain⟨i,o,cc,e,rw,u,q1,q2,q3,q4,q5⟩:=(hs.ad hK).at hc;have g4:=hG.trans g3;rw[oh hc,pU,cM]at hz;have dj:(k:Int)<(l.length:Int):=by omega
   simp[A.ux,hr,h7,dj,hlen,q1,q3,q4,g4];refine au (Wd q5 (hx s (cP hc)).1 (hx s (cP hc)).2) ?_;rintro _ h3 n3 k3 rfl;have kk:=hK.trans k3;by_cases h0:dM s n=0
   ·rw[av h0]at hz;simp(disch:=first|(simp;done)|omega|rfl) [eI,h7,h0,hW];exact⟨m,by omega,kk,⟨by have:=k3.le;omega,(k3.get n2 fi).trans hG⟩,k+1,by omega,by simp,by simpa using hz⟩
   rw[ak h0]at hz;simp[eI,h0,hW,hz];exact kk
 rintro _ r ⟨H,n1,W⟩ hr ⟨hW,hK,⟨rfl,hz⟩|⟨rfl,h2⟩⟩
 ·simp only at hW hK;simp[hz,ay,hW,hK]
 simp only at hW hK;simp[h2,ay,hW,hK]
def Zzv(hs:fE h N v l)(hl:l.length<100000)(hx:∀x∈l,x.length<100000/\∀s∈x,s.length<=100000):Fn A.C 68 [v] h N (fun u _ _=>u=.int .i64 (gX l 64 64)):=by intro w;rw[aP,A.k68 (by simp)];simp[A.b68,ae];refine au (Zzu (a:=64) (b:=64) hs hl hx) ?_;rintro _ H2 n2 k2 rfl;simp[ay];exact k2
variable {N:Nat} {ep:TypeId} {h:T O} {l:List aH} {m:List (List aH)} {u v:V} {wp wq:Bool}
def A.w58:=A.q Tryz.f58
def A.yt:=A.ql A.w58 0 []
def A.b58:=(fun x0=>A.qb A.w58 [x0]) A.yt
def A.k58:=@A.kk 58 18 [.tmp 2] A.b58 (by kernel_rfl) rfl
def A.b67:=A.q Tryz.f67
def A.k67:=@A.kk 67 4 [.tmp 1] A.b67 (by kernel_rfl) rfl
def A.b69:=A.q Tryz.f69
def A.k69:=@A.kk 69 9 [.tmp 2] A.b69 (by kernel_rfl) rfl
def A.b82:=A.q Tryz.f82
def A.k82:=@A.kk 82 4 [.tmp 1] A.b82 (by kernel_rfl) rfl
def A.b83:=A.q Tryz.f83
def A.k83:=@A.kk 83 11 [.tmp 2] A.b83 (by kernel_rfl) rfl
def A.b85:=A.q Tryz.f85
def A.k85:=@A.kk 85 5 [.tmp 1] A.b85 (by kernel_rfl) rfl
def NQ{fs:List V}{l:List Int}(hs:Sl h N v fs)(Sz:fs.length=l.length)(hl:l.length<1000)(hf:∀(j:Nat) (f:V) (e:Int),fs[j]?=some f->l[j]?=some e->(∀(i:Nat) (x:Int),i<j->l[i]?=some x->x=0)->∀h' n',ab h N h' n'->fW A.C f [] h' n' (fun u _ _=>u=.int .i64 e)):Fn A.C 58 [v] h N (fun u _ _=>u=.int .i64 (cM l)):=by
 intro w;have hlen:=hs.len;rw[Sz]at hlen;rw[aP,A.k58 (by simp)];simp[A.b58,hlen];refine cB [(2,2),(4,5),(8,17)] (fun e r st=>az N st.w=[]/\ab h N st.h st.n/\((e=.exit 0/\cM l=0)\/(e=.ret/\r.get 2=some (.int .i64 (cM l))))) (fun m r st=>az N st.w=[]/\ab h N st.h st.n/\∃k,k+m=l.length/\r.get 8=some (.int .i64 k)/\cM l=cM (l.drop k)/\∀(i:Nat) (x:Int),i<k->l[i]?=some x->x=0) l.length ?_ ?_ ?_
 ·exact⟨by simp,ab.refl,0,by omega,by simp,by simp,fun i x hi=>by omega⟩
 ·rintro m r ⟨H,n1,W⟩ hr eI ⟨hW,hK,k,hk,h7,hz,Sp⟩;simp only at hW hK;rw[bG];cases m with
  |zero=>
   obtain rfl:k=l.length:=by omega
   rw[rE,cM]at hz;simp[A.yt,hr,eI,h7,hz,hW,hK]
  |succ m=>
   have aD:k<l.length:=by omega
   obtain⟨s,hc⟩:=bs aD;obtain⟨f,hfk⟩:=bs (show k<fs.length by omega);obtain⟨i,o,cc,e,rw,q1,q2,q3,q4⟩:=(hs.ad hK).at hfk;rw[oh hc,cM]at hz;have dj:(k:Int)<(l.length:Int):=by omega
   simp[A.yt,hr,h7,dj,hlen,q1,q3,q4];refine Bo (hf k f s hfk hc Sp _ _ hK) ?_;rintro _ h3 n3 k3 rfl;have kk:=hK.trans k3;by_cases h0:s=0
   ·rw[av h0]at hz;simp(disch:=first|(simp;done)|omega|rfl) [eI,h7,h0,hW];refine⟨m,by omega,kk,k+1,by omega,by simp,hz,fun i x hi hx=>?_⟩;by_cases Ph:i<k
    ·exact Sp i x Ph hx
    obtain rfl:i=k:=by omega
    rw[hc]at hx;rw[<-h0];simpa using hx.symm
   rw[ak h0]at hz;simp[eI,h0,hW,hz];exact kk
 rintro _ r ⟨H,n1,W⟩ hr ⟨hW,hK,⟨rfl,hz⟩|⟨rfl,h2⟩⟩
 ·simp only at hW hK;simp[hz,ay,hW,hK]
 simp only at hW hK;simp[h2,ay,hW,hK]
def Yuq{q:Nat}{l:List aH}{eq:TypeId}(q8:h.get q=some (.cells [u] eq wq))(xm:q<N)(hs:fE h N u m)(jR:m.length<100000)(dq:∀x∈m,x.length<100000/\∀s∈x,s.length<=100000):fW A.C (.func 67 [] [.ptr q 0]) [] h N (fun z _ _=>z=.int .i64 (gX m 64 64)):=by intro w;rw[aP,A.k67 (by simp)];simp[A.b67,q8];refine au (Zzv hs jR dq) ?_;rintro _ H2 n2 k2 rfl;simp[ay];exact k2
def Yup{p q:Nat}{eq:TypeId}(jG:h.get p=some (.cells [v] ep wp))(AI:p<N)(q8:h.get q=some (.cells [u] eq wq))(xm:q<N)(hs:fE h N u m)(jR:m.length<100000)(dq:∀x∈m,x.length<100000/\∀s∈x,s.length<=100000)(ht:Sl h N v (strs l))(jX:l.length<100000)(wh:∀s∈l,s.length<=100000)(m0:0<m.length):fW A.C (.func 69 [] [.ptr p 0,.ptr q 0]) [] h N (fun z _ _=>z=.int .i64 (dM l (bg m))):=by
 intro w;have ml:=hs.len;have vP:0<(m.length:Int):=by omega
 obtain⟨l0,dk⟩:=bs m0;obtain⟨i0,o0,Sx,e0,EX,u0,z1,z2,z3,z4,z5⟩:=hs.at dk;have z6:=z5.len;rw[pK]at z6;rw[iX]at z4;obtain⟨n,hn⟩:∃n,n=l0.length:=⟨_,rfl⟩;have en:bg m=n:=by simp[bg,dk,hn]
 rw[en];rw[<-hn]at z6;rw[aP,A.k69 (by simp)];simp[A.b69,q8,jG,ml,m0,z1,z2,z3,z4,z6];refine au (Wd ht jX wh) ?_;rintro _ H2 n2 k2 rfl;have xS:=k2.le;simp[];refine(wP (by simp[-az,xm,AI])).2 ?_;simp[ay];exact k2
def Yrt{q:Nat}{l:List aH}{eq:TypeId}(q8:h.get q=some (.cells [u] eq wq))(xm:q<N)(hs:fE h N u m)(jR:m.length<100000)(dq:∀x∈m,x.length<100000/\∀s∈x,s.length<=100000):fW A.C (.func 82 [] [.ptr q 0]) [] h N (fun z _ _=>z=.int .i64 (gX m 64 64)):=by intro w;rw[aP,A.k82 (by simp)];simp[A.b82,q8];refine au (Zzv hs jR dq) ?_;rintro _ H2 n2 k2 rfl;simp[ay];exact k2
def Yrs{p q:Nat}{eq:TypeId}(jG:h.get p=some (.cells [v] ep wp))(AI:p<N)(q8:h.get q=some (.cells [u] eq wq))(xm:q<N)(hs:fE h N u m)(jR:m.length<100000)(dq:∀x∈m,x.length<100000/\∀s∈x,s.length<=100000)(ht:Sl h N v (strs l))(jX:l.length<100000)(wh:∀s∈l,s.length<=100000)(m0:0<m.length):fW A.C (.func 83 [] [.ptr p 0,.ptr q 0]) [] h N (fun z _ _=>z=.int .i64 (if l.length=bg m then 0 else 2)):=by
 intro w;have ml:=hs.len;have ll:=ht.len;rw[pK]at ll;have vP:0<(m.length:Int):=by omega
 obtain⟨l0,dk⟩:=bs m0;obtain⟨i0,o0,Sx,e0,EX,u0,z1,z2,z3,z4,z5⟩:=hs.at dk;have z6:=z5.len;rw[pK]at z6;rw[iX]at z4;obtain⟨n,hn⟩:∃n,n=l0.length:=⟨_,rfl⟩;have en:bg m=n:=by simp[bg,dk,hn]
 rw[en];rw[<-hn]at z6;rw[aP,A.k83 (by simp)];have e1:((l.length:Int)=(n:Int))=(l.length=n):=by apply propext;omega
 by_cases c:l.length=n
 ·subst c;simp[A.b83,q8,jG,ml,ll,m0,z1,z2,z3,z4,z6,Vn];refine(wP (by simp[-az,xm,AI])).2 ?_;simp[ay];exact ab.refl
 simp[A.b83,q8,jG,ml,ll,m0,z1,z2,z3,z4,z6,Vn,e1,c];refine(wP (by simp[-az,xm,AI])).2 ?_;simp[ay];exact ab.refl
def Yrr{p:Nat}{m:List (List aH)}(jG:h.get p=some (.cells [v] ep wp))(AI:p<N)(ht:Sl h N v (strs l))(jX:l.length<100000)(wh:∀s∈l,s.length<=100000):fW A.C (.func 85 [] [.ptr p 0]) [] h N (fun z _ _=>z=.int .i64 (cM (l.map (jm 0)))):=by
 intro w;have sg:∀w,A.C.call (.func 61 [] []) [.int .i64 0] ⟨h,N,w⟩=some (.func 139 [] [.ptr N 0],⟨h.set N (.cells [.int .i64 0] 3 true),N+1,w⟩):=fun w=>by apply Call.eq;rw[aP,A.k61 (by simp)];simp[A.b61]
 rw[aP,A.k85 (by simp)];simp[A.b85,jG,sg];have k1:ab h N (h.set N (.cells [.int .i64 0] 3 true)) (N+1):=ab.refl.new _;refine au (Zyi (jm 0) (ht.ad k1) jX fun s hs h' n' hk=>Zmq (z:=0) (e:=3) (rw:=true) (by rw[hk.get N (by omega)];simp) (by have:=hk.le;omega) (wh s hs)) ?_;rintro _ H2 n2 k2 rfl;have xS:=k2.le;have d4:N<n2:=by omega
 simp[];refine(wP (by simp[-az,AI])).2 ?_;simp[ay];exact k1.trans k2
variable {N n n':Nat} {h h':T O} {l:List Rat} {u v:V}
def A.SA:=A.q Tryz.f138
def A.uy:=A.ql A.SA 0 []
def A.b138:=(fun x0=>A.qb A.SA [x0]) A.uy
def A.k138:=@A.kk 138 22 [.tmp 4] A.b138 (by kernel_rfl) rfl
def Yl0{l:List V}{Q:Nat->T O->Nat->V->Prop}(Y:V->Prop)(hQ:∀j h n h' n' c u,Q j h n c->ec (fun i=>i∈bI u) h n h' n'->mP 90 Y h u->Q j h' n' c)(hs:Sl h N v l)(hl:l.length<1000000000)(hf:∀(j:Nat) (x:V),l[j]?=some x->∀h' n',ab h N h' n'->fW A.C f [x] h' n' (fun u h2 n2=>∃y,u=y/\[y].length=1/\[y].all V.one=true/\(∀q∈[y],Y q)/\Q j h2 n2 y)):Fn A.C 138 [v,f] h N (fun u h' n'=>∃out,Own 1 90 N h' n' u out/\out.length=l.length/\∀(j:Nat),j<l.length->∃y,out[j]?=some [y]/\Q j h' n' y):=by
 intro w;have hlen:=hs.len;rw[aP,A.k138 (by simp)];simp[A.b138,hlen];refine cB [(5,5),(7,7),(10,20)] (fun e r st=>e=.exit 0/\az N st.w=[]/\ab h N st.h st.n/\∃u out,r.get 5=some u/\Own 1 90 N st.h st.n u out/\out.length=l.length/\∀(j:Nat),j<l.length->∃y,out[j]?=some [y]/\Q j st.h st.n y) (fun m r st=>az N st.w=[]/\ab h N st.h st.n/\∃k u out,k+m=l.length/\r.get 10=some (.int .i64 k)/\r.get 5=some u/\Own 1 90 N st.h st.n u out/\out.length=k/\(out=[]->u=.aa)/\(∀c∈out,∀y∈c,Y y)/\∀(j:Nat),j<k->∃y,out[j]?=some [y]/\Q j st.h st.n y) l.length ?_ ?_ ?_
 ·exact⟨by simp,ab.refl,0,.aa,[],by omega,by simp,by simp,Own.nil,rfl,fun _=>rfl,by simp,fun j hj=>by omega⟩
 ·rintro m r ⟨H,n1,W⟩ hr eI ⟨hW,hK,k,u,out,hk,iN,h5,ho,gJ,s_,hY,dc⟩;simp only at hW hK ho dc;rw[bG];cases m with
  |zero=>
   have ta:k=l.length:=by omega
   subst ta;simp[A.uy,hr,eI,iN,hW,hK];exact⟨u,h5,out,ho,gJ,dc⟩
  |succ m=>
   have aD:k<l.length:=by omega
   obtain⟨x,hx⟩:=bs aD;obtain⟨i,o,cc,e,rw,q1,q2,q3,q4⟩:=(hs.ad hK).at hx;have dj:(k:Int)<(l.length:Int):=by omega
   have kA:=hK;simp[A.uy,hr,iN,h5,dj,hlen,q1,q3,q4];refine Bo (hf k x hx _ _ kA) ?_;rintro y h3 n3 k3 ⟨_,rfl,c1,c2,cY,c3⟩;have jE:=k3.le;have kn:=hK.le;have kB:=kA.trans k3;have b1:V.one y=true:=by simpa using c2
   have b2:V.cells y=[y]:=by cases y<;>first|rfl|cases b1
   simp[-V.cells, -V.one,b1,b2,ae];have uI:Own 1 90 N (h3.set n3 (.cells [y] 90 true)) (n3+1) u out:=(ho.ad ((ab.refl).trans k3)).ad (ab.refl.new _);obtain⟨v',h',w',f1,f2,f3,f4,fD,f5⟩:=D9 (Y:=Y) (x:=[y]) (u:=.slice n3 0 1 (some 1) 1) (bytes:=24) (w:=W) uI s_ hY (by omega) (by decide) c1 (by simp[fO,St.row,aO]) (by omega);rw[f1];have f6:az N w'=[]:=by rw[f2];simp[hW]
   have kz:=(kB.new (.cells [y] 90 true)).then f3;have k4:ab h3 n3 (h3.set n3 (.cells [y] 90 true)) (n3+1):=ab.refl.new _;have yK:Q k (h3.set n3 (.cells [y] 90 true)) (n3+1) y:=hQ _ _ _ _ _ _ .aa c3 k4.upd mP.nil;simp(disch:=first|(simp;done)|omega|rfl) [eI,iN,f6];refine⟨m,by omega,kz,k+1,by omega,by simp,out++[[y]],f5,by simp[gJ],by simp,fun c' hc z hz=>?_,fun j hj=>?_⟩
   ·rcases iS.1 hc with hc|hc
    ·exact hY c' hc z hz
    simp only[og]at hc;subst hc;exact cY z hz
   by_cases qW:j<k
   ·obtain⟨y,g1,g2⟩:=dc j qW;exact⟨y,by rw[k_ (by omega)];exact g1,hQ _ _ _ _ _ _ _ (hQ _ _ _ _ _ _ .aa g2 (((ab.refl).trans k3).trans k4).upd mP.nil) f4 fD⟩
   obtain rfl:j=k:=by omega
   exact⟨y,by rw[pC (by omega),gJ];simp,hQ _ _ _ _ _ _ _ yK f4 fD⟩
 rintro _ r ⟨H,n1,W⟩ hr ⟨rfl,hW,hK,u,out,h5,ho,gJ,dc⟩;simp only at hW hK ho dc;simp[h5,ay,hW,hK];exact⟨out,ho,gJ,dc⟩
def A.w87:=A.q Tryz.f87
def A.yu:=A.ql A.w87 0 []
def A.b87:=(fun x0=>A.qb A.w87 [x0]) A.yu
def A.k87:=@A.kk 87 22 [.tmp 4] A.b87 (by kernel_rfl) rfl
def Yag{l:List V}{Q:Nat->T O->Nat->List V->Prop}(Y:V->Prop)(hQ:∀j h n h' n' c u,Q j h n c->ec (fun i=>i∈bI u) h n h' n'->mP 101 Y h u->Q j h' n' c)(hs:Sl h N v l)(hl:l.length<1000000000)(hf:∀(j:Nat) (x:V),l[j]?=some x->∀h' n',ab h N h' n'->fW A.C f [x] h' n' (fun u h2 n2=>∃c,u=(.agg c)/\c.length=4/\c.all V.one=true/\(∀q∈c,Y q)/\Q j h2 n2 c)):Fn A.C 87 [v,f] h N (fun u h' n'=>∃out,Own 4 101 N h' n' u out/\out.length=l.length/\∀(j:Nat),j<l.length->∃c,out[j]?=some c/\Q j h' n' c):=by
 intro w;have hlen:=hs.len;rw[aP,A.k87 (by simp)];simp[A.b87,hlen];refine cB [(5,5),(7,7),(10,20)] (fun e r st=>e=.exit 0/\az N st.w=[]/\ab h N st.h st.n/\∃u out,r.get 5=some u/\Own 4 101 N st.h st.n u out/\out.length=l.length/\∀(j:Nat),j<l.length->∃c,out[j]?=some c/\Q j st.h st.n c) (fun m r st=>az N st.w=[]/\ab h N st.h st.n/\∃k u out,k+m=l.length/\r.get 10=some (.int .i64 k)/\r.get 5=some u/\Own 4 101 N st.h st.n u out/\out.length=k/\(out=[]->u=.aa)/\(∀c∈out,∀y∈c,Y y)/\∀(j:Nat),j<k->∃c,out[j]?=some c/\Q j st.h st.n c) l.length ?_ ?_ ?_
 ·exact⟨by simp,ab.refl,0,.aa,[],by omega,by simp,by simp,Own.nil,rfl,fun _=>rfl,by simp,fun j hj=>by omega⟩
 ·rintro m r ⟨H,n1,W⟩ hr eI ⟨hW,hK,k,u,out,hk,iN,h5,ho,gJ,s_,hY,dc⟩;simp only at hW hK ho dc;rw[bG];cases m with
  |zero=>
   have ta:k=l.length:=by omega
   subst ta;simp[A.yu,hr,eI,iN,hW,hK];exact⟨u,h5,out,ho,gJ,dc⟩
  |succ m=>
   have aD:k<l.length:=by omega
   obtain⟨x,hx⟩:=bs aD;obtain⟨i,o,cc,e,rw,q1,q2,q3,q4⟩:=(hs.ad hK).at hx;have dj:(k:Int)<(l.length:Int):=by omega
   have kA:=hK;simp[A.yu,hr,iN,h5,dj,hlen,q1,q3,q4];refine Bo (hf k x hx _ _ kA) ?_;rintro _ h3 n3 k3 ⟨c,rfl,c1,c2,cY,c3⟩;have jE:=k3.le;have kn:=hK.le;have kB:=kA.trans k3;have b1:∀v:List V,(V.agg v).cells=v:=fun _=>rfl;have b2:ae [(.int .i64 0),.aa,(.int .i64 0),.aa] 0 c=c:=by unfold ae;rw[c1];simp
   simp[-V.cells, -V.one,b1,b2,c1,c2];have uI:Own 4 101 N (h3.set n3 (.cells c 101 true)) (n3+1) u out:=(ho.ad ((ab.refl).trans k3)).ad (ab.refl.new _);obtain⟨v',h',w',f1,f2,f3,f4,fD,f5⟩:=D9 (Y:=Y) (x:=c) (u:=.slice n3 0 1 (some 1) 4) (bytes:=64) (w:=W) uI s_ hY (by omega) (by decide) c1 (by simp only[fO,St.row,T.ag,if_true];unfold aO;simp[c1];exact gm (by omega)) (by omega);rw[f1];have f6:az N w'=[]:=by rw[f2];simp[hW]
   have kz:=(kB.new (.cells c 101 true)).then f3;have k4:ab h3 n3 (h3.set n3 (.cells c 101 true)) (n3+1):=ab.refl.new _;have yK:Q k (h3.set n3 (.cells c 101 true)) (n3+1) c:=hQ _ _ _ _ _ _ .aa c3 k4.upd mP.nil;simp(disch:=first|(simp;done)|omega|rfl) [eI,iN,f6];refine⟨m,by omega,kz,k+1,by omega,by simp,out++[c],f5,by simp[gJ],by simp,fun c' hc z hz=>?_,fun j hj=>?_⟩
   ·rcases iS.1 hc with hc|hc
    ·exact hY c' hc z hz
    simp only[og]at hc;subst hc;exact cY z hz
   by_cases qW:j<k
   ·obtain⟨c,g1,g2⟩:=dc j qW;exact⟨c,by rw[k_ (by omega)];exact g1,hQ _ _ _ _ _ _ _ (hQ _ _ _ _ _ _ .aa g2 (((ab.refl).trans k3).trans k4).upd mP.nil) f4 fD⟩
   obtain rfl:j=k:=by omega
   exact⟨c,by rw[pC (by omega),gJ];simp,hQ _ _ _ _ _ _ _ yK f4 fD⟩
 rintro _ r ⟨H,n1,W⟩ hr ⟨rfl,hW,hK,u,out,h5,ho,gJ,dc⟩;simp only at hW hK ho dc;simp[h5,ay,hW,hK];exact⟨out,ho,gJ,dc⟩
def A.w77:=A.q Tryz.f77
def A.yv:=A.ql A.w77 0 []
def A.b77:=(fun x0=>A.qb A.w77 [x0]) A.yv
def A.k77:=@A.kk 77 26 [.cell 4 (some 4)] A.b77 (by kernel_rfl) rfl
def A.b154:=A.q Tryz.f154
def A.k154:=@A.kk 154 8 [.cell 4 (some 4)] A.b154 (by kernel_rfl) rfl
abbrev NW(y:V):Prop:=∀m,y≠.int .u64 m
def In.bE{x:V}{z:Int}{e:TypeId}(s:In h n x z)(k:ec (fun i=>i∈bI v) h n h' n')(hd:mP e NW h v):In h' n' x z:=by
 rcases s with s|⟨i,o,l,c,s1,s2,s3⟩
 ·exact .inl s
 refine .inr ⟨i,o,l,c,s1,Sl.bE s2 k fun j hj hjv=>?_,s3⟩;simp[bI]at hj;subst hj;obtain⟨z2,g1,_,g3⟩:=hd j hjv;unfold Wn at s2;have aX:aJ z.natAbs≠[]:=fun h0=>by have:=oM z.natAbs;rw[h0]at this;simp[val]at this;omega
 obtain⟨d,ds,r_⟩:=List.exists_cons_of_ne_nil aX;have DV:(dg (aJ z.natAbs))[0]?=some (.int .u64 d):=by rw[r_];simp[dg]
 obtain⟨i2,o2,c2,e2,Tz,q1,q2,q3,q4⟩:=Sl.at s2 DV;simp[yC]at q1;obtain⟨rfl,rfl⟩:=q1;rw[g1]at q3;simp only[ar,O.cells.injEq]at q3;obtain⟨rfl,_⟩:=q3;exact g3 _ (cP q4) _ rfl
def fI.bE{c:List V}{q:Rat}{e:TypeId}(s:fI h n c q)(k:ec (fun i=>i∈bI v) h n h' n')(hd:mP e NW h v):fI h' n' c q:=by obtain⟨n1,u1,n2,u2,rfl,s1,s2⟩:=s;exact⟨n1,u1,n2,u2,rfl,s1.bE k hd,s2.bE k hd⟩
def Sn.CJ{z:Nat}{l:List (List V)}(s:Sn z h N v l):∀i∈bI v,i<N:=fun i hi=>by
 rcases s with⟨_,rfl|rfl⟩|⟨j,o,cp,c,e,rw,rfl,hj,_⟩
 ·simp[bI]at hi
 ·simp[bI]at hi
 ·simp[bI]at hi;omega
def Sn.bE{z:Nat}{D:Nat->Prop}{l:List (List V)}(s:Sn z h N v l)(k:ec D h N h' N')(hd:∀i∈bI v,¬D i):Sn z h' N' v l:=by
 rcases s with s|⟨i,o,cp,c,e,rw,rfl,h2,h3,h4⟩
 ·exact .inl s
 exact .inr ⟨i,o,cp,c,e,rw,rfl,fH h2 k.le,(k.get i h2 (hd i (by simp[bI]))).trans h3,h4⟩
def dR.ad{N':Nat}(s:dR h N u l)(k:ab h N h' N'):dR h' N' u l:=⟨s.1.ad k,fun i hi=>by
 obtain⟨cs,h1,_⟩:=s.1
 rw[k.get i (h1.CJ i hi)]
 exact s.2 i hi⟩
def dR.bE{e:TypeId}(s:dR h n u l)(k:ec (fun i=>i∈bI v) h n h' n')(hd:mP e NW h v)(he:e≠101):dR h' n' u l:=by
 obtain⟨⟨cs,h1,h2,h3⟩,h4⟩:=s;have hn:∀i∈bI u,i∉bI v:=fun i hi hc=>by obtain⟨z,w,hz⟩:=h4 i hi;obtain⟨z2,er,_⟩:=hd i hc;rw[hz]at er;simp at er;exact he er.2.1.symm
 refine⟨⟨cs,h1.bE k hn,h2,fun j q hq=>?_⟩,fun i hi=>by rw[k.get i (h1.CJ i hi) (hn i hi)];exact h4 i hi⟩;obtain⟨c,g1,g2⟩:=h3 j q hq;exact⟨c,g1,g2.bE k hd⟩
def Tm{N0:Nat}{out:List (List V)}(s:Own 4 101 N0 h N v out)(hl:out.length=l.length)(hc:∀(j:Nat),j<l.length->∃c,out[j]?=some c/\∀q,l[j]?=some q->fI h N c q):dR h N v l:=by
 refine⟨⟨out,s.sn,hl,fun j q hq=>?_⟩,fun i hi=>?_⟩
 ·obtain⟨c,g1,g2⟩:=hc j (fv hq);exact⟨c,g1,g2 q hq⟩
 obtain⟨_,⟨_,rfl⟩|⟨j,rfl,_,_,hg⟩⟩:=s
 ·simp[bI]at hi
 simp[bI]at hi;subst hi;exact⟨_,_,hg⟩
structure DtI (h:T O) (N p:Nat) (a b:List Rat) (m:Nat) (r:T V) (st:St):Prop where
 w:az N st.w=[]
 ad:ab h N st.h st.n
 ex:∃(t:Nat) (c:List V),t+m=a.length/\r.get 10=some (.int .i64 t)/\p<st.n/\st.h.get N=some (.cells zF 101 true)/\st.h.get p=some (.cells c 101 true)/\fI st.h st.n c (lI a b t)
def Yid{k:Nat}(hu:iM h N u a)(hv:iM h N v b)(eF:a.length<=b.length)(ha:∀q∈a,Qb j q)(hb:∀q∈b,Qb k q)(hj:1<=j)(hk:1<=k)(hl:a.length*(j+k+1)+j+k+1<=400000000):Fn A.C 77 [u,v] h N (fun x h' n'=>Fc h' n' x (ed a b)):=by
 intro w;have l1:=hu.len;have l2:=hv.len;have uX:a.length<=400000000:=by have:=TS a.length (show 0<j+k+1 by omega);omega
 rw[aP,A.k77 (by simp)];simp[A.b77];refine au (Yxa (by omega) (by omega)) ?_;rintro _ h1 n1 k1 hz;obtain⟨c,rfl,hc⟩:=hz.c;have kB:ab h N (h.set N (.cells zF 101 true)) (N+1):=ab.refl.new _;have yJ:=k1.le;have g1:=k1.get N (by omega);rw[T.ag,av rfl]at g1;obtain⟨e1,e2⟩:=hc.len;have jT:(V.agg c).cells=c:=rfl;have e4:ae zF 0 c=c:=by unfold ae;rw[e1];simp[zF]
 have A5:tc zF:=by intro x hx m;simp[zF]at hx;rcases hx with rfl|rfl|rfl|rfl<;>simp
 unfold zF at e4;simp[-V.cells, -V.one,jT,e1,e2,e4,bM,l1];generalize hH:(h1.set n1 (.cells [.int .i64 0,.aa,.int .i64 0,.aa] 101 true)).set n1 (.cells c 101 true)=H1;have kA:ab h1 n1 H1 (n1+1):=by rw[<-hH];exact(ab.refl.new _).set (aN _)
 have kC:ab h N H1 (n1+1):=(kB.trans k1).trans kA;have g2:H1.get n1=some (.cells c 101 true):=by rw[<-hH];simp
 have g3:=(kA.get N (by omega)).trans g1;clear hH;refine cB [(6,6),(10,24)] (fun e r st=>e=.exit 0/\DtI h N n1 a b 0 r st) (DtI h N n1 a b) a.length ?_ ?_ ?_
 ·exact⟨by simp;omega,kC,0,c,by omega,by simp,by show n1<n1+1;omega,g3,g2,by simpa[lI]using hc.ad kA⟩
 ·rintro m r ⟨H,n2,W⟩ hr hf ⟨hW,hK,t,c0,ht,iN,Ej,uN,jG,yw⟩;simp only at hW hK Ej uN jG yw;rw[bG];cases m with
  |zero=>
   obtain rfl:t=a.length:=by omega
   simp[A.yv,hr,hf,iN];exact⟨hW,hK,a.length,c0,by omega,by simp[iN],Ej,uN,jG,yw⟩
  |succ m=>
   have aD:t<a.length:=by omega
   have bV:(t:Int)<(a.length:Int):=by omega
   have nt:t<b.length:=by omega
   have CE:(t:Int)<(b.length:Int):=by omega
   obtain⟨x,hx⟩:=bs aD;obtain⟨y,hy⟩:=bs nt;have Bt:=ha x (cP hx);have j_:=hb y (cP hy);have AZ:=VC ha hb hj hk t;have VB:=Bt.mul j_;have hmul:t*(j+k+1)<=a.length*(j+k+1):=kg _ (by omega);have ee:lI a b (t+1)=lI a b t+x*y:=by simp[lI,hx,hy]
   obtain⟨i,o,cc,e,rw,ca,q1,q2,q3,q4,q5⟩:=(hu.ad hK).at hx;obtain⟨i',o',cc',e',sO,cb,p1,p2,p3,p4,p5⟩:=(hv.ad hK).at hy;have s0:aO c0 0 4=some c0:=by unfold aO;rw[yw.len.1];simp;exact gm (by rw[yw.len.1];omega)
   simp[A.yv,hr,iN,l1,l2,bV,CE,jG,s0,q1,q2,q3,q4,p1,p2,p3,p4];have w1:=wE Bt.1;have w2:=wE (z:=(x.den:Int)) (k:=j) (by rw[dT];exact Bt.2);have w3:=wE j_.1;have w4:=wE (z:=(y.den:Int)) (k:=k) (by rw[dT];exact j_.2);have w5:=wE AZ.1;have w6:=wE (z:=((lI a b t).den:Int)) (by rw[dT];exact AZ.2);have w7:=wE VB.1;have w8:=wE (z:=((x*y).den:Int)) (by rw[dT];exact VB.2);refine au (VA q5.fc p5.fc (by omega) (by omega) (by omega) (by omega)) ?_;rintro x3 h3 n3 k3 hm3;simp[];refine au (Y6 (yw.ad k3).fc hm3 (by omega) (by omega) (by omega) (by omega)) ?_;rintro _ h4' n4 k4 V3;rw[<-ee]at V3;obtain⟨c4,rfl,hc4⟩:=V3.c;have yG:=k3.le;have Bj:=k4.le;have gp4:=(k4.get n1 (by omega)).trans ((k3.get n1 (by omega)).trans jG);have g04:=(k4.get N (by omega)).trans ((k3.get N (by omega)).trans uN);obtain⟨f1,f2⟩:=hc4.len;have f3:=yw.len.1;have za3:(V.agg c4).cells=c4:=rfl;have e5:ae c0 0 c4=c4:=by unfold ae;rw[f1];simp[f3]
   simp[-V.cells, -V.one,hr,za3,f1,f2,f3,e5,gp4,bM];have d2:n1<n4:=by omega
   have d3:¬N=n1:=by omega
   have d4:¬n1<N:=by omega
   refine(wP (by simp[-az,Ej,d2])).2 ?_;simp(disch:=first|(simp;done)|omega|rfl) [hf,iN,d2];exact⟨m,by omega,by simp[az,hW,d4],((hK.trans k3).trans k4).set (by omega),t+1,c4,by omega,by simp,d2,by show T.get _ N=_;rw[T.ag,ak d3];exact g04,by show T.get _ n1=_;rw[T.ag,av rfl],hc4.aG gp4 yw.IH (by rw[f1,f3])⟩
 rintro _ r ⟨H,n2,W⟩ hr ⟨rfl,hW,hK,t,c0,ht,iN,Ej,uN,jG,yw⟩;simp only at hW hK Ej uN jG yw;obtain rfl:t=a.length:=by omega
 have s0:aO c0 0 4=some c0:=by unfold aO;rw[yw.len.1];simp;exact gm (by rw[yw.len.1];omega)
 have za4:(V.agg c0).cells=c0:=rfl;have e5:ae zF 0 c0=c0:=by unfold ae;rw[yw.len.1];simp[zF]
 have f1:=yw.len.1;have f2:=yw.len.2;unfold zF at e5 uN;simp[-V.cells, -V.one,hr,jG,uN,s0,bM,za4,f1,f2,e5,ay];exact⟨hW,hK.set (aN N),(yw.aG uN A5 (by rw[f1];rfl)).fc⟩
variable {N k:Nat} {h:T O} {m:List (List Rat)} {u v:V}
def A.b72:=A.q Tryz.f72
def A.k72:=@A.kk 72 11 [.tmp 4] A.b72 (by kernel_rfl) rfl
def A.b102:=A.q Tryz.f102
def A.k102:=@A.kk 102 8 [.tmp 4] A.b102 (by kernel_rfl) rfl
def A.b169:=A.q Tryz.f169
def A.k169:=@A.kk 169 8 [.cell 3 (some 4)] A.b169 (by kernel_rfl) rfl
def A.b56:=A.q Tryz.f56
def A.k56:=@A.kk 56 5 [.tmp 2] A.b56 (by kernel_rfl) rfl
def Yew(hu:iM h N u a)(hv:iM h N v b)(eF:a.length<=b.length)(ha:∀q∈a,Qb j q)(hb:∀q∈b,Qb k q)(hj:1<=j)(hk:1<=k)(hl:a.length*(j+k+1)+j+k+1<=400000000):fW A.C (.func 154 [v] []) [u] h N (fun x h' n'=>Fc h' n' x (ed a b)):=by
 intro w;have kB:ab h N (h.set N (.cells zF 101 true)) (N+1):=ab.refl.new _;rw[aP,A.k154 (by simp)];simp[A.b154];refine au (Yid (hu.ad kB) (hv.ad kB) eF ha hb hj hk hl) ?_;rintro _ h1 n1 k1 hz;obtain⟨c,rfl,hc⟩:=hz.c;have yJ:=k1.le;have g1:=k1.get N (by omega);rw[T.ag,av rfl]at g1;obtain⟨e1,e2⟩:=hc.len;have jT:(V.agg c).cells=c:=rfl;have e4:ae zF 0 c=c:=by unfold ae;rw[e1];simp[zF]
 have A5:tc zF:=by intro x hx m;simp[zF]at hx;rcases hx with rfl|rfl|rfl|rfl<;>simp
 have kk:=(kB.trans k1).set (h:=h) (n:=N) (i:=N) (o:=.cells c 101 true) (aN N);have nv:=(hc.aG (e1:=101) (w1:=true) (c1:=c) g1 A5 (by rw[e1];rfl)).fc;have s0:aO c 0 4=some c:=by unfold aO;rw[e1];simp;exact gm (by omega)
 have aD:N<n1:=by omega
 unfold zF at e4;simp[-V.cells, -V.one,jT,e1,e2,e4,s0,g1,bM,ay];exact⟨kk,nv⟩
def fj(h:T O)(N:Nat)(v:V)(m:List (List Rat)):Prop:=∃us:List V,Sl h N v us/\us.length=m.length/\∀(j:Nat) (l:List Rat),m[j]?=some l->∃u,us[j]?=some u/\dR h N u l
def fj.ad{h':T O}{N':Nat}(s:fj h N v m)(k:ab h N h' N'):fj h' N' v m:=by obtain⟨us,h1,h2,h3⟩:=s;refine⟨us,h1.ad k,h2,fun j l hl=>?_⟩;obtain⟨u,g1,g2⟩:=h3 j l hl;exact⟨u,g1,g2.ad k⟩
def fj.len(s:fj h N v m):oe v=some m.length:=by obtain⟨us,h1,h2,_⟩:=s;rw[h1.len,h2]
def iM.form(s:iM h N v l):V.one v=true/\V.cells v=[v]/\NW v:=by
 obtain⟨cs,⟨_,rfl|rfl⟩|⟨i,o,cp,c,e,rw,rfl,_⟩,_⟩:=s
 ·exact⟨rfl,rfl,fun m=>by simp⟩
 ·exact⟨rfl,rfl,fun m=>by simp⟩
 exact⟨rfl,rfl,fun m=>by simp⟩
def NS(hs:uF h N v m)(hl:m.length<1000000000)(hm:∀l∈m,l.length<1000000000/\∀q∈l,Qb k0 q)(pG:k0<=4000):Fn A.C 56 [v] h N (fun u h' n'=>fj h' n' u m):=by
 intro w;obtain⟨us,h1,h2,h3⟩:=hs;rw[aP,A.k56 (by simp)];simp[A.b56];refine au (Yl0 (Q:=fun j h n u=>∀l,m[j]?=some l->dR h n u l) NW (fun j h n h' n' c u hq k hd l hl=>(hq l hl).bE k hd (by simp)) h1 (by omega) ?_) ?_
 ·intro j x hx h' n' hk;obtain⟨l,hl⟩:=bs (l:=m) (k:=j) (by have:=fv hx;omega);obtain⟨u,g1,g2⟩:=h3 j l hl;rw[hx]at g1;obtain rfl:x=u:=by simpa using g1
  obtain⟨b1,b2⟩:=hm l (cP hl);refine fun w=>(F4 (k0:=k0) (g2.ad hk) b1 b2 pG w).mono fun y st=>?_;rintro⟨q1,q2,q3⟩;obtain⟨f1,f2,f3⟩:=q3.1.form;refine⟨q1,q2,y,rfl,rfl,by simp only[List.all_cons,List.all_nil,f1,Bool.and_true],by simpa using f3,fun l' iO=>?_⟩;rw[hl]at iO;obtain rfl:l=l':=by simpa using iO
  exact q3
 rintro u h4 n4 k4 ⟨out,o1,o2,o3⟩;simp[ay];refine⟨k4,?_⟩;have hx:∀x∈out,∃y,x=[y]:=fun x hx=>by
  have:=o1.1 x hx;cases x with
  |nil=>simp at this
  |cons y t=>cases t with
   |nil=>exact⟨y,rfl⟩
   |cons a b=>simp at this
 obtain⟨ys,PU⟩:∃ys:List V,out=ys.map fun y=>[y]:=by
  clear o1 o2 o3;induction out with
  |nil=>exact⟨[],rfl⟩
  |cons x t ih=> obtain⟨y,rfl⟩:=hx x (by simp);obtain⟨ys,rfl⟩:=ih fun x kO=>hx x (by simp[kO]);exact⟨y::ys,rfl⟩
 subst PU;refine⟨ys,Sn.one.1 o1.sn,by simpa[h2]using o2,fun j l hl=>?_⟩;obtain⟨y,g1,g2⟩:=o3 j (by have:=fv hl;omega);refine⟨y,?_,g2 l hl⟩;rw[eH]at g1;cases hy:ys[j]? with
 |none=>rw[hy]at g1;simp at g1
 |some z=>rw[hy]at g1;simpa using g1
def YX(F:List Rat->Rat)(hs:fj h N v m)(hl:m.length<1000000000)(hf:∀l∈m,∀u h' n',ab h N h' n'->dR h' n' u l->fW A.C f [u] h' n' (fun x h2 n2=>Fc h2 n2 x (F l))):Fn A.C 87 [v,f] h N (fun u h' n'=>dR h' n' u (m.map F)):=by
 obtain⟨us,h1,h2,h3⟩:=hs;have key:=Yag (f:=f) (Q:=fun j h n c=>∀q,(m.map F)[j]?=some q->fI h n c q) NW (fun j h n h' n' c u hq k hd q nQ=>(hq q nQ).bE k hd) h1 (by omega) ?_
 ·intro w;refine(key w).mono fun u st=>?_;rintro⟨q1,q2,out,o1,o2,o3⟩;exact⟨q1,q2,Tm o1 (by simpa[h2]using o2) fun j hj=>o3 j (by simp at hj;omega)⟩
 intro j x hx h' n' hk;obtain⟨l,hl⟩:=bs (l:=m) (k:=j) (by have:=fv hx;omega);obtain⟨u,g1,g2⟩:=h3 j l hl;rw[hx]at g1;obtain rfl:x=u:=by simpa using g1
 refine fun w=>(hf l (cP hl) x h' n' hk (g2.ad hk) w).mono fun y st=>?_;rintro⟨q1,q2,q3⟩;obtain⟨c,rfl,hc⟩:=q3.c;refine⟨q1,q2,c,rfl,hc.len.1,hc.len.2,hc.IH,fun q hq=>?_⟩;simp[hl]at hq;rw[<-hq];exact hc
def YV(hu:fj h N u m)(hv:iM h N v b)(hm:∀r∈m,r.length=n/\∀q∈r,Qb j q)(hn:n<=b.length)(hb:∀q∈b,Qb k q)(hj:1<=j)(hk:1<=k)(hl:n*(j+k+1)+j+k+1<=400000000)(jR:m.length<100000):Fn A.C 72 [u,v] h N (fun x h' n'=>dR h' n' x (m.map fun r=>ed r b)):=by
 intro w;rw[aP,A.k72 (by simp)];simp[A.b72];refine au (YX (fun r=>ed r b) hu (by omega) fun l iC x h' n' jV hx=>?_) ?_
 ·obtain⟨b1,b2⟩:=hm l iC;exact Yew hx.1 (hv.ad jV) (by omega) b2 hb hj hk (by rw[b1];exact hl)
 rintro x h4 n4 k4 hx;simp[ay];exact⟨k4,hx⟩
def Yt1{p:Nat}{e:TypeId}(hp:h.get p=some (.cells [.int .i64 k] e rw))(jA:p<N)(hu:iM h N u l)(hk:k<l.length):fW A.C (.func 169 [] [.ptr p 0]) [u] h N (fun x h' n'=>Fc h' n' x (l[k]?.getD 0)):=by
 intro w;have l1:=hu.len;have gW:(k:Int)<(l.length:Int):=by omega
 obtain⟨q,hq⟩:=bs hk;obtain⟨i,o,cc,e,rw,c,q1,q2,q3,q4,q5⟩:=hu.at hq;obtain⟨e1,e2⟩:=q5.len;have kB:ab h N (h.set N (.cells zF 101 true)) (N+1):=ab.refl.new _;have jT:(V.agg c).cells=c:=rfl;have e4:ae zF 0 c=c:=by unfold ae;rw[e1];simp[zF]
 have A5:tc zF:=by intro x hx m;simp[zF]at hx;rcases hx with rfl|rfl|rfl|rfl<;>simp
 have s0:aO c 0 4=some c:=by unfold aO;rw[e1];simp;exact gm (by omega)
 have kk:=kB.set (h:=h) (n:=N) (i:=N) (o:=.cells c 101 true) (aN N);have nv:=((q5.ad kB).aG (i:=N) (e0:=101) (w0:=true) (e1:=101) (w1:=true) (c1:=c) (by rw[T.ag,av rfl]) A5 (by rw[e1];rfl)).fc;have d1:¬p=N:=by omega
 have d2:¬i=N:=by omega
 rw[hq];unfold zF at e4;rw[aP,A.k169 (by simp)];simp[-V.cells, -V.one,A.b169,hp,d1,d2,l1,gW,q1,q3,q4,jT,e1,e2,e4,s0,bM,ay];exact⟨kk,nv⟩
def Ybb(hu:fj h N u m)(jR:m.length<100000)(hm:∀r∈m,r.length=n)(hk:k<n):Fn A.C 102 [u,.int .i64 k] h N (fun x h' n'=>dR h' n' x (qL m k)):=by
 intro w;rw[aP,A.k102 (by simp)];have kB:ab h N (h.set N (.cells [.int .i64 k] 3 true)) (N+1):=ab.refl.new _;simp[A.b102];refine au (YX (fun r=>r[k]?.getD 0) (hu.ad kB) (by omega) fun l iC x h' n' jV hx=>?_) ?_
 ·exact Yt1 (e:=3) (rw:=true) (by rw[jV.get N (by omega)];simp) (by have:=jV.le;omega) hx.1 (by rw[hm l iC];exact hk)
 rintro x h4 n4 k4 hx;simp[ay];exact⟨kB.trans k4,hx⟩
end
end Go.Mx
