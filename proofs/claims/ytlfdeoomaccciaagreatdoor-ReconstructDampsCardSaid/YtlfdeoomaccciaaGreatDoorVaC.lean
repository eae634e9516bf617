/-lensletref05-/
import Derived.Test.YtlfdeoomaccciaaGreatDoorNfB
set_option linter.all false
namespace Go.Mx
noncomputable section
open Go Go.Proofs
variable {N n:Nat} {h:T O} {m:List (List aM)} {v:V} {w:List Nat}
set_option maxRecDepth 1000000
def A.w5:=A.q Tryz.f5
def A.o8:=A.ql A.w5 0 []
def A.b5:=(fun x0=>A.qb A.w5 [x0]) A.o8
def A.k5:=@A.kk 5 32 [.tmp 4] A.b5 (by kernel_rfl) rfl
def A.w4:=A.q Tryz.f4
def A.o9:=A.ql A.w4 0 []
def A.b4:=(fun x0=>A.qb A.w4 [x0]) A.o9
def A.k4:=@A.kk 4 35 [.tmp 6] A.b4 (by kernel_rfl) rfl
def A.w23:=A.q Tryz.f23
def A.wC:=A.ql A.w23 0 []
def A.b23:=(fun x0=>A.qb A.w23 [x0]) A.wC
def A.k23:=@A.kk 23 26 [.tmp 4] A.b23 (by kernel_rfl) rfl
def Ymd{u:V}{l:List aM}(hu:Sl h N u (strs l))(hv:Sl h N v (strs l))(hl:l.length<100000):A.C.call (.func 23 [] []) [u,v] ⟨h,N,w⟩=some (.bool true,⟨h,N,w⟩):=by
 apply Call.eq
 have l1:=hu.len
 have l2:=hv.len
 rw[wP]at l1 l2
 rw[aN,A.k23 (by simp)]
 simp[A.b23,l1,l2,aE]
 refine bG [(4,5),(11,25)] (fun e r st=>st=⟨h,N,[]⟩/\e=.exit 0) (fun m r st=>st=⟨h,N,[]⟩/\∃k,k+m=l.length/\r.get 5=some (.int .i64 k)) l.length ?_ ?_ ?_
 ·exact⟨rfl,0,by omega,by simp⟩
 ·rintro m r _ hr hf ⟨rfl,k,hk,h5⟩
  rw[bk]
  cases m with
  |zero=>
   obtain rfl:k=l.length:=by omega
   simp[A.wC,hr,hf,h5,l1]
  |succ m=>
   have ax:k<l.length:=by omega
   obtain⟨s,hs⟩:=bh ax
   obtain⟨i,o,c,e,rw,q1,q2,q3,q4⟩:=hu.at (DH hs)
   obtain⟨i',o',c',e',pn,p1,p2,p3,p4⟩:=hv.at (DH hs)
   have bL:(k:Int)<(l.length:Int):=by omega
   simp(disch:=first|(simp;done)|omega|rfl) [A.wC,hr,hf,h5,l1,l2,bL,ax,q1,q2,q3,q4,p1,p2,p3,p4,g_,aE,ct.cv]
   exact⟨m,by omega,k+1,by omega,by simp⟩
 ·rintro _ r _ hr ⟨rfl,rfl⟩
  simp[hr]
def pC(s:aM):Bool:=decide (s.length<=24)
def nW(k n:Nat):Bool:=decide (k<=n\/64<k/\k<=66)
def fW(n:Nat)(l:List aM):Bool:=nW l.length n&&l.all pC
def US{k:Nat}(h:nW k n=true)(hn:n<64):k<=66:=by
 simp[nW]at h
 omega
def Vg{l:List aM}(hs:Sl h N v (strs l))(hl:l.length<9223372036854775808)(hn:n<64):A.C.call (.func 5 [] []) [v,.int .i64 n] ⟨h,N,w⟩=some (.bool (fW n l),⟨h,N,w⟩):=by
 apply Call.eq
 have lg:=hs.len
 rw[wP]at lg
 rw[aN,A.k5 (by simp)]
 have fin:nW l.length n=true->fW n l=l.all pC:=fun h=>by simp[fW,h]
 by_cases c1:l.length<=n
 ·rw[fin (by simp[nW,c1])]
  have a1:¬(n:Int)<(l.length:Int):=by omega
  have a2:¬66<(l.length:Int):=by omega
  simp[A.b5,lg,a1,a2]
  refine bG [(4,5),(20,31)] (fun e r st=>st=⟨h,N,[]⟩/\((e=.exit 0/\l.all pC=true)\/(e=.ret/\l.all pC=false/\r.get 4=some (.bool false)))) (fun m r st=>st=⟨h,N,[]⟩/\∃k,k+m=l.length/\r.get 5=some (.int .i64 k)/\l.all pC=(l.drop k).all pC) l.length ?_ ?_ ?_
  ·exact⟨rfl,0,by omega,by simp,by simp⟩
  ·rintro m r _ hr hf ⟨rfl,k,hk,hx,hz⟩
   rw[bk]
   cases m with
   |zero=>
    obtain rfl:k=l.length:=by omega
    rw[pg,List.all_nil]at hz
    simp[A.o8,hr,hf,hx,lg,hz]
   |succ m=>
    have ax:k<l.length:=by omega
    have bL:(k:Int)<(l.length:Int):=by omega
    obtain⟨s,hc⟩:=bh ax
    obtain⟨i,o,cc,e,rw,q1,q2,q3,q4⟩:=hs.at (DH hc)
    rw[lH hc,List.all_cons]at hz
    by_cases c4:pC s=true
    ·rw[c4,Bool.true_and]at hz
     have c6:¬24<(s.length:Int):=by simp[pC]at c4;omega
     simp(disch:=first|(simp;done)|omega|rfl) [A.o8,hr,hf,hx,lg,bL,q1,q3,q4,c6]
     exact⟨m,by omega,k+1,by omega,by simp,hz⟩
    ·have c5:pC s=false:=by simpa using c4
     rw[c5,B4]at hz
     have c6:24<(s.length:Int):=by simp[pC]at c5;omega
     simp[A.o8,hr,hf,hx,lg,bL,q1,q3,q4,c6,hz]
  ·rintro e r _ hr ⟨rfl,⟨rfl,hq⟩|⟨rfl,hq,h2⟩⟩
   ·simp[hq]
   ·simp[hq,h2]
 ·have a1:(n:Int)<(l.length:Int):=by omega
  have RA:n<l.length:=by omega
  by_cases c2:l.length<=64
  ·have a3:(l.length:Int)<=64:=by omega
   have e1:fW n l=false:=by simp[fW,nW,c1];omega
   simp[A.b5,lg,a1,a3,e1]
  ·have a3:¬(l.length:Int)<=64:=by omega
   by_cases c3:66<l.length
   ·have a4:66<(l.length:Int):=by omega
    have e1:fW n l=false:=by simp[fW,nW,c1];omega
    simp[A.b5,lg,a1,a3,a4,e1]
   ·have a4:¬66<(l.length:Int):=by omega
    rw[fin (by simp[nW];omega)]
    simp[A.b5,lg,a1,a3,a4]
    refine bG [(4,5),(20,31)] (fun e r st=>st=⟨h,N,[]⟩/\((e=.exit 0/\l.all pC=true)\/(e=.ret/\l.all pC=false/\r.get 4=some (.bool false)))) (fun m r st=>st=⟨h,N,[]⟩/\∃k,k+m=l.length/\r.get 5=some (.int .i64 k)/\l.all pC=(l.drop k).all pC) l.length ?_ ?_ ?_
    ·exact⟨rfl,0,by omega,by simp,by simp⟩
    ·rintro m r _ hr hf ⟨rfl,k,hk,hx,hz⟩
     rw[bk]
     cases m with
     |zero=>
      obtain rfl:k=l.length:=by omega
      rw[pg,List.all_nil]at hz
      simp[A.o8,hr,hf,hx,lg,hz]
     |succ m=>
      have ax:k<l.length:=by omega
      have bL:(k:Int)<(l.length:Int):=by omega
      obtain⟨s,hc⟩:=bh ax
      obtain⟨i,o,cc,e,rw,q1,q2,q3,q4⟩:=hs.at (DH hc)
      rw[lH hc,List.all_cons]at hz
      by_cases c4:pC s=true
      ·rw[c4,Bool.true_and]at hz
       have c6:¬24<(s.length:Int):=by simp[pC]at c4;omega
       simp(disch:=first|(simp;done)|omega|rfl) [A.o8,hr,hf,hx,lg,bL,q1,q3,q4,c6]
       exact⟨m,by omega,k+1,by omega,by simp,hz⟩
      ·have c5:pC s=false:=by simpa using c4
       rw[c5,B4]at hz
       have c6:24<(s.length:Int):=by simp[pC]at c5;omega
       simp[A.o8,hr,hf,hx,lg,bL,q1,q3,q4,c6,hz]
    ·rintro e r _ hr ⟨rfl,⟨rfl,hq⟩|⟨rfl,hq,h2⟩⟩
     ·simp[hq]
     ·simp[hq,h2]
def iJ(h:T O)(N:Nat)(v:V)(m:List (List aM)):Prop:=∃us:List V,Sl h N v us/\us.length=m.length/\∀(j:Nat) (l:List aM),m[j]?=some l->∃u,us[j]?=some u/\Sl h N u (strs l)
def iJ.ae{h':T O}{N':Nat}(s:iJ h N v m)(k:ab h N h' N'):iJ h' N' v m:=by
 obtain⟨us,h1,h2,h3⟩:=s
 refine⟨us,h1.ae k,h2,fun j l hl=>?_⟩
 obtain⟨u,g1,g2⟩:=h3 j l hl
 exact⟨u,g1,g2.ae k⟩
def iJ.len(s:iJ h N v m):pw v=some m.length:=by
 obtain⟨us,h1,h2,_⟩:=s
 rw[h1.len,h2]
def iJ.at(s:iJ h N v m){j:Nat}{l:List aM}(hj:m[j]?=some l):∃i o c e rw u,w_ v=some (i,o)/\i<N/\h.get i=some (.cells c e rw)/\c[o+j]?=some u/\Sl h N u (strs l):=by
 obtain⟨us,h1,h2,h3⟩:=s
 obtain⟨u,g1,g2⟩:=h3 j l hj
 obtain⟨i,o,c,e,rw,q1,q2,q3,q4⟩:=h1.at g1
 exact⟨i,o,c,e,rw,u,q1,q2,q3,q4,g2⟩
def iJ.ya{m:List (List Rat)}(s:iJ h N v (m.map fun l=>l.map aR)):gj h N v m:=by
 obtain⟨us,h1,h2,h3⟩:=s
 refine⟨us,h1,by simpa using h2,fun j l hl=>?_⟩
 exact h3 j (l.map aR) (by simp[hl])
def pR(r c:Nat)(m:List (List aM)):Bool:=nW m.length r&&m.all (fW c)
def Ygw{l:List (List aM)}{p:Nat}(hs:iJ h N v l)(hl:l.length<9223372036854775808)(mG:∀x∈l,x.length<9223372036854775808)(hn:n<64)(hp:p<64):A.C.call (.func 4 [] []) [v,.int .i64 n,.int .i64 p] ⟨h,N,w⟩=some (.bool (pR n p l),⟨h,N,w⟩):=by
 apply Call.eq
 have lg:=hs.len
 rw[aN,A.k4 (by simp)]
 have fin:nW l.length n=true->pR n p l=l.all (fW p):=fun h=>by simp[pR,h]
 by_cases c1:l.length<=n
 ·rw[fin (by simp[nW,c1])]
  have a1:¬(n:Int)<(l.length:Int):=by omega
  have a2:¬66<(l.length:Int):=by omega
  simp[A.b4,lg,a1,a2]
  refine bG [(6,7),(22,34)] (fun e r st=>st=⟨h,N,[]⟩/\((e=.exit 0/\l.all (fW p)=true)\/(e=.ret/\l.all (fW p)=false/\r.get 6=some (.bool false)))) (fun m r st=>st=⟨h,N,[]⟩/\∃k,k+m=l.length/\r.get 7=some (.int .i64 k)/\l.all (fW p)=(l.drop k).all (fW p)) l.length ?_ ?_ ?_
  ·exact⟨rfl,0,by omega,by simp,by simp⟩
  ·rintro m r _ hr hf ⟨rfl,k,hk,hx,hz⟩
   rw[bk]
   cases m with
   |zero=>
    obtain rfl:k=l.length:=by omega
    rw[pg,List.all_nil]at hz
    simp[A.o9,hr,hf,hx,lg,hz]
   |succ m=>
    have ax:k<l.length:=by omega
    have bL:(k:Int)<(l.length:Int):=by omega
    obtain⟨s,hc⟩:=bh ax
    obtain⟨i,o,cc,e,rw,u,q1,q2,q3,q4,q5⟩:=hs.at hc
    have cy:=fun w=>Vg (w:=w) q5 (mG s (bU hc)) hp
    rw[lH hc,List.all_cons]at hz
    by_cases c4:(fW p) s=true
    ·rw[c4,Bool.true_and]at hz
     simp(disch:=first|(simp;done)|omega|rfl) [A.o9,hr,hf,hx,lg,bL,q1,q3,q4,cy,c4]
     exact⟨m,by omega,k+1,by omega,by simp,hz⟩
    ·have c5:(fW p) s=false:=by simpa using c4
     rw[c5,B4]at hz
     simp[A.o9,hr,hf,hx,lg,bL,q1,q3,q4,cy,c5,hz]
  ·rintro e r _ hr ⟨rfl,⟨rfl,hq⟩|⟨rfl,hq,h2⟩⟩
   ·simp[hq]
   ·simp[hq,h2]
 ·have a1:(n:Int)<(l.length:Int):=by omega
  have RA:n<l.length:=by omega
  by_cases c2:l.length<=64
  ·have a3:(l.length:Int)<=64:=by omega
   have e1:pR n p l=false:=by simp[pR,nW,c1];omega
   simp[A.b4,lg,a1,a3,e1]
  ·have a3:¬(l.length:Int)<=64:=by omega
   by_cases c3:66<l.length
   ·have a4:66<(l.length:Int):=by omega
    have e1:pR n p l=false:=by simp[pR,nW,c1];omega
    simp[A.b4,lg,a1,a3,a4,e1]
   ·have a4:¬66<(l.length:Int):=by omega
    rw[fin (by simp[nW];omega)]
    simp[A.b4,lg,a1,a3,a4]
    refine bG [(6,7),(22,34)] (fun e r st=>st=⟨h,N,[]⟩/\((e=.exit 0/\l.all (fW p)=true)\/(e=.ret/\l.all (fW p)=false/\r.get 6=some (.bool false)))) (fun m r st=>st=⟨h,N,[]⟩/\∃k,k+m=l.length/\r.get 7=some (.int .i64 k)/\l.all (fW p)=(l.drop k).all (fW p)) l.length ?_ ?_ ?_
    ·exact⟨rfl,0,by omega,by simp,by simp⟩
    ·rintro m r _ hr hf ⟨rfl,k,hk,hx,hz⟩
     rw[bk]
     cases m with
     |zero=>
      obtain rfl:k=l.length:=by omega
      rw[pg,List.all_nil]at hz
      simp[A.o9,hr,hf,hx,lg,hz]
     |succ m=>
      have ax:k<l.length:=by omega
      have bL:(k:Int)<(l.length:Int):=by omega
      obtain⟨s,hc⟩:=bh ax
      obtain⟨i,o,cc,e,rw,u,q1,q2,q3,q4,q5⟩:=hs.at hc
      have cy:=fun w=>Vg (w:=w) q5 (mG s (bU hc)) hp
      rw[lH hc,List.all_cons]at hz
      by_cases c4:(fW p) s=true
      ·rw[c4,Bool.true_and]at hz
       simp(disch:=first|(simp;done)|omega|rfl) [A.o9,hr,hf,hx,lg,bL,q1,q3,q4,cy,c4]
       exact⟨m,by omega,k+1,by omega,by simp,hz⟩
      ·have c5:(fW p) s=false:=by simpa using c4
       rw[c5,B4]at hz
       simp[A.o9,hr,hf,hx,lg,bL,q1,q3,q4,cy,c5,hz]
    ·rintro e r _ hr ⟨rfl,⟨rfl,hq⟩|⟨rfl,hq,h2⟩⟩
     ·simp[hq]
     ·simp[hq,h2]
variable {N:Nat} {h:T O} {v:V}
def A.O7:=A.q Tryz.f196
def A.sG:=A.ql A.O7 0 []
def A.b196:=(fun x0=>A.qb A.O7 [x0]) A.sG
def A.k196:=@A.kk 196 19 [.tmp 2] A.b196 (by kernel_rfl) rfl
def A.b127:=A.q Tryz.f127
def A.k127:=@A.kk 127 11 [.tmp 4] A.b127 (by kernel_rfl) rfl
def A.w48:=A.q Tryz.f48
def A.wD:=A.ql A.w48 0 []
def A.b48:=(fun x0=>A.qb A.w48 [x0]) A.wD
def A.k48:=@A.kk 48 49 [.tmp 6] A.b48 (by kernel_rfl) rfl
def Ypb{l:List aM}(hs:Sl h N v (strs l))(hl:l.length<100000)(uM:∀s∈l,s.length<=100000):Fn A.C 196 [v] h N (fun u _ _=>u=.int .i64 (cH (l.map fun s=>((bf s:Nat):Int)))):=by
 intro w
 have hlen:=hs.len
 rw[wP]at hlen
 rw[aN,A.k196 (by simp)]
 simp[A.b196]
 refine bG [(2,18)] (fun e r st=>av N st.w=[]/\ab h N st.h st.n/\((e=.exit 0/\cH (l.map fun s=>((bf s:Nat):Int))=0)\/(e=.ret/\r.get 2=some (.int .i64 (cH (l.map fun s=>((bf s:Nat):Int))))))) (fun m r st=>av N st.w=[]/\ab h N st.h st.n/\∃k,k+m=l.length/\r.get 3=some (.int .i64 k)/\cH (l.map fun s=>((bf s:Nat):Int))=cH ((l.drop k).map fun s=>((bf s:Nat):Int))) l.length ?_ ?_ ?_
 ·exact⟨by simp,ab.refl,0,by omega,by simp,by simp⟩
 ·rintro m r ⟨H,n1,W⟩ hr hf ⟨hW,hK,k,hk,h7,hz⟩
  simp only at hW hK
  rw[bk]
  cases m with
  |zero=>
   obtain rfl:k=l.length:=by omega
   rw[pg,wW,cH]at hz
   simp[A.sG,hr,hf,h7,hlen,hz,hW,hK]
  |succ m=>
   have ax:k<l.length:=by omega
   obtain⟨s,hc⟩:=bh ax
   obtain⟨i,o,cc,e,rw,q1,q2,q3,q4⟩:=(hs.ae hK).at (DH hc)
   rw[lH hc,nZ,cH]at hz
   have bL:(k:Int)<(l.length:Int):=by omega
   simp[A.sG,hr,hf,h7,bL,ax,hlen,q1,q3,q4]
   refine aB (Zso (uM s (bU hc))) ?_
   rintro _ h3 n3 k3 rfl
   have kk:=hK.trans k3
   by_cases h0:bf s=0
   ·rw[ay (by omega)]at hz
    simp(disch:=first|(simp;done)|omega|rfl) [hr,hf,h7,h0,hW,aE]
    exact⟨m,by omega,kk,k+1,by omega,by simp,by simpa using hz⟩
   ·rw[ak (by omega)]at hz
    have jU:¬((bf s:Nat):Int)=0:=by omega
    simp[hr,hf,h7,h0,jU,hW,aE,hz]
    exact kk
 ·rintro _ r ⟨H,n1,W⟩ hr ⟨hW,hK,⟨rfl,hz⟩|⟨rfl,h2⟩⟩
  ·simp only at hW hK
   simp[hr,hz,aA,hW,hK]
  ·simp only at hW hK
   simp[hr,h2,aA,hW,hK]
def pP(l:List aM)(n:Nat):Int:=if l.length=n then cH (l.map fun s=>((bf s:Nat):Int)) else 2
def dR(l:List (List aM)):Nat:=(l[0]?.getD []).length
def mb(l:List (List aM))(r c:Nat):Int:=if l.length=0\/dR l=0 then 12 else if r<l.length\/c<dR l then 5 else cH (l.map fun x=>pP x (dR l))
def Yju{l:List aM}{n:Nat}(hs:Sl h N v (strs l))(hl:l.length<100000)(uM:∀s∈l,s.length<=100000):Fn A.C 127 [v,.int .i64 n] h N (fun u _ _=>u=.int .i64 (pP l n)):=by
 intro w
 have hlen:=hs.len
 rw[wP]at hlen
 rw[aN,A.k127 (by simp)]
 by_cases c:l.length=n
 ·subst c
  simp[A.b127,hlen,aE]
  refine aB (Ypb hs hl uM) ?_
  rintro _ H2 n2 k2 rfl
  simp[aA,pP]
  exact k2
 ·have c':¬(l.length:Int)=(n:Int):=by omega
  simp[A.b127,hlen,c',pP,c,aA,aE]
  exact ab.refl
def Ypj{l:List (List aM)}{a b:Nat}(hs:iJ h N v l)(hl:l.length<100000)(hx:∀x∈l,x.length<100000/\∀s∈x,s.length<=100000):Fn A.C 48 [v,.int .i64 a,.int .i64 b] h N (fun u _ _=>u=.int .i64 (mb l a b)):=by
 intro w
 have hlen:=hs.len
 rw[aN,A.k48 (by simp)]
 by_cases c0:l.length=0
 ·have c0':(l.length:Int)=0:=by omega
  simp[A.b48,hlen,c0,c0',mb,aA,aE]
  exact ab.refl
 have c0':¬(l.length:Int)=0:=by omega
 have mE:0<l.length:=by omega
 have jd:0<(l.length:Int):=by omega
 obtain⟨l0,gX⟩:=bh mE
 obtain⟨i0,o0,cc0,e0,HH,u0,z1,z2,z3,z4,z5⟩:=hs.at gX
 have z6:=z5.len
 rw[wP]at z6
 rw[mP]at z4
 obtain⟨n,hn⟩:∃n,n=l0.length:=⟨_,rfl⟩
 have en:dR l=n:=by simp[dR,gX,hn]
 rw[<-hn]at z6
 have xy:n<100000:=by have:=(hx l0 (bU gX)).1;omega
 by_cases c1:n=0
 ·have c1':(n:Int)=0:=by omega
  simp[A.b48,hlen,c0,c0',mE,jd,z1,z2,z3,z4,z6,c1,c1',mb,en,aA,aE]
  exact ab.refl
 have c1':¬(n:Int)=0:=by omega
 by_cases c2:a<l.length
 ·have c2':(a:Int)<(l.length:Int):=by omega
  simp[A.b48,hlen,c0,c0',mE,jd,z1,z2,z3,z4,z6,c1,c1',c2,c2',mb,en,aA,aE]
  exact ab.refl
 have c2':¬(a:Int)<(l.length:Int):=by omega
 by_cases c3:b<n
 ·have c3':(b:Int)<(n:Int):=by omega
  simp[A.b48,hlen,c0,c0',mE,jd,z1,z2,z3,z4,z6,c1,c1',c2,c2',c3,c3',mb,en,aA,aE]
  exact ab.refl
 ·have c3':¬(b:Int)<(n:Int):=by omega
  have e1:mb l a b=cH (l.map fun x=>pP x n):=by simp[mb,en,c0,c1,c2,c3]
  rw[e1]
  simp[A.b48,hlen,c0,c0',mE,jd,z1,z2,z3,z4,z6,c1,c1',c2,c2',c3,c3',aA,aE]
  refine bG [(6,8),(31,48)] (fun e r st=>av N st.w=[]/\ab h N st.h st.n/\((e=.exit 0/\cH (l.map fun x=>pP x n)=0)\/(e=.ret/\r.get 6=some (.int .i64 (cH (l.map fun x=>pP x n)))))) (fun m r st=>av N st.w=[]/\ab h N st.h st.n/\∃k,k+m=l.length/\r.get 7=some (.int .i64 k)/\cH (l.map fun x=>pP x n)=cH ((l.drop k).map fun x=>pP x n)) l.length ?_ ?_ ?_
  ·exact⟨by simp,ab.refl,0,by omega,by simp,by simp⟩
  ·rintro m r ⟨H,n1,W⟩ hr hf ⟨hW,hK,k,hk,h7,hz⟩
   simp only at hW hK
   rw[bk]
   cases m with
   |zero=>
    obtain rfl:k=l.length:=by omega
    rw[pg,wW,cH]at hz
    simp[A.wD,hr,hf,h7,hlen,hz,hW,hK]
   |succ m=>
    have ax:k<l.length:=by omega
    obtain⟨s,hc⟩:=bh ax
    obtain⟨i,o,cc,e,rw,u,q1,q2,q3,q4,q5⟩:=(hs.ae hK).at hc
    rw[lH hc,nZ,cH]at hz
    have bL:(k:Int)<(l.length:Int):=by omega
    obtain⟨i1,o1,PX,e1,ZB,u1,y1,y2,y3,y4,y5⟩:=(hs.ae hK).at gX
    have y6:=y5.len
    rw[wP,<-hn]at y6
    rw[mP]at y4
    obtain⟨rfl,rfl⟩:i=i1/\o=o1:=by rw[q1]at y1;simpa using y1
    obtain⟨rfl,rfl,rfl⟩:cc=PX/\e=e1/\rw=ZB:=by rw[q3]at y3;simpa using y3
    simp[A.wD,hr,hf,h7,bL,ax,hlen,q1,q2,q3,q4,mE,jd,y4,y6]
    refine aB (Yju q5 (hx s (bU hc)).1 (hx s (bU hc)).2) ?_
    rintro _ h3 n3 k3 rfl
    have kk:=hK.trans k3
    by_cases h0:pP s n=0
    ·rw[ay h0]at hz
     simp(disch:=first|(simp;done)|omega|rfl) [hr,hf,h7,h0,hW,aE]
     exact⟨m,by omega,kk,k+1,by omega,by simp,by simpa using hz⟩
    ·rw[ak h0]at hz
     simp[hr,hf,h7,h0,hW,aE,hz]
     exact kk
  ·rintro _ r ⟨H,n1,W⟩ hr ⟨hW,hK,⟨rfl,hz⟩|⟨rfl,h2⟩⟩
   ·simp only at hW hK
    simp[hr,hz,aA,hW,hK]
   ·simp only at hW hK
    simp[hr,h2,aA,hW,hK]
def A.w11:=A.q Tryz.f11
def A.wE:=A.ql A.w11 0 []
def A.b11:=(fun x0=>A.qb A.w11 [x0]) A.wE
def A.k11:=@A.kk 11 34 [.tmp 6] A.b11 (by kernel_rfl) rfl
def A.O8:=A.q Tryz.f142
def A.nQ:=A.ql A.O8 0 []
def A.b142:=(fun x0=>A.qb A.O8 [x0]) A.nQ
def A.k142:=@A.kk 142 16 [.tmp 2] A.b142 (by kernel_rfl) rfl
def kL(least:Int)(s:aM):Int:=if bf s=0 then (if dX (fw s).num<least then 3 else 0) else ((bf s:Nat):Int)
def nY(l:List aM)(n:Nat)(least:Int):Int:=if l.length=n then cH (l.map (kL least)) else 2
def Yle{h:T O}{N:Nat}{v:V}{l:List aM}{n:Nat}{z:Int}(hs:Sl h N v (strs l))(hl:l.length<100000)(uM:∀s∈l,s.length<=100000):Fn A.C 11 [v,.int .i64 n,.int .i64 z] h N (fun u _ _=>u=.int .i64 (nY l n z)):=by
 intro w
 have hlen:=hs.len
 rw[wP]at hlen
 rw[aN,A.k11 (by simp)]
 by_cases c:l.length=n
 ·have e1:nY l n z=cH (l.map (kL z)):=by simp[nY,c]
  rw[e1]
  subst c
  simp[A.b11,hlen]
  refine bG [(6,8),(13,33)] (fun e r st=>av N st.w=[]/\ab h N st.h st.n/\((e=.exit 0/\cH (l.map (kL z))=0)\/(e=.ret/\r.get 6=some (.int .i64 (cH (l.map (kL z))))))) (fun m r st=>av N st.w=[]/\ab h N st.h st.n/\∃k,k+m=l.length/\r.get 7=some (.int .i64 k)/\cH (l.map (kL z))=cH ((l.drop k).map (kL z))) l.length ?_ ?_ ?_
  ·exact⟨by simp,ab.refl,0,by omega,by simp,by simp⟩
  ·rintro m r ⟨H,n1,W⟩ hr hf ⟨hW,hK,k,hk,h7,hz⟩
   simp only at hW hK
   rw[bk]
   cases m with
   |zero=>
    obtain rfl:k=l.length:=by omega
    rw[pg,wW,cH]at hz
    simp[A.wE,hr,hf,h7,hlen,hz,hW,hK]
   |succ m=>
    have ax:k<l.length:=by omega
    obtain⟨s,hc⟩:=bh ax
    have CV:=DH hc
    obtain⟨i,o,cc,e,rw,q1,q2,q3,q4⟩:=(hs.ae hK).at CV
    rw[lH hc,nZ,cH]at hz
    have bL:(k:Int)<(l.length:Int):=by omega
    simp[A.wE,hr,h7,bL,hlen,q1,q3,q4]
    refine aB (Zso (uM s (bU hc))) ?_
    rintro _ h3 n3 k3 rfl
    have kk:=hK.trans k3
    by_cases h0:bf s=0
    ·obtain⟨t1,_⟩:=FR h0
     obtain⟨i',o',Zv,e',pn,p1,p2,p3,p4⟩:=(hs.ae kk).at CV
     rw[<-t1]at p4
     have jU:((bf s:Nat):Int)=0:=by omega
     by_cases h2:dX (fw s).num<z
     ·have e2:kL z s=3:=by simp[kL,h0,h2]
      rw[e2,ak (by decide)]at hz
      simp[hr,hf,h7,h0,hW,bL,hlen,p1,p3,p4,Sq,h2,hz]
      exact kk
     ·have e2:kL z s=0:=by simp[kL,h0,h2]
      rw[e2,ay rfl]at hz
      simp(disch:=first|(simp;done)|omega|rfl) [hr,hf,h7,h0,hW,hlen,p1,p3,p4,Sq,h2]
      exact⟨m,by omega,kk,k+1,by omega,by simp,by simpa using hz⟩
    ·have e2:kL z s=((bf s:Nat):Int):=by simp[kL,h0]
     have jU:¬((bf s:Nat):Int)=0:=by omega
     rw[e2,ak jU]at hz
     simp[hf,h0,hW,hz]
     exact kk
  ·rintro _ r ⟨H,n1,W⟩ hr ⟨hW,hK,⟨rfl,hz⟩|⟨rfl,h2⟩⟩
   ·simp only at hW hK
    simp[hz,aA,hW,hK]
   ·simp only at hW hK
    simp[h2,aA,hW,hK]
 ·have c':¬(l.length:Int)=(n:Int):=by omega
  simp[A.b11,hlen,c',nY,c,aA]
  exact ab.refl
def pO(l:List Rat):Bool:=l.any BJ
def Yn2{h:T O}{N:Nat}{v:V}{l:List Rat}{w:List Nat}(hs:Tx h N v l)(hl:l.length<100000)(uM:∀q∈l,(aR q).length<1000000000):A.C.call (.func 142 [] []) [v] ⟨h,N,w⟩=some (.int .i64 (if pO l=true then 4 else 0),⟨h,N,w⟩):=by
 apply Call.eq
 have hlen:=hs.len
 rw[aN,A.k142 (by simp)]
 simp[A.b142]
 refine bG [(2,15)] (fun e r st=>st=⟨h,N,[]⟩/\((e=.exit 0/\pO l=false)\/(e=.ret/\pO l=true/\r.get 2=some (.int .i64 4)))) (fun m r st=>st=⟨h,N,[]⟩/\∃k,k+m=l.length/\r.get 3=some (.int .i64 k)/\pO l=pO (l.drop k)) l.length ?_ ?_ ?_
 ·exact⟨rfl,0,by omega,by simp,by simp⟩
 ·rintro m r _ hr hf ⟨rfl,k,hk,h7,hz⟩
  rw[bk]
  cases m with
  |zero=>
   obtain rfl:k=l.length:=by omega
   rw[pg]at hz
   simp[pO]at hz
   simp[A.nQ,hr,hf,h7,hlen]
   simpa[pO]using hz
  |succ m=>
   have ax:k<l.length:=by omega
   obtain⟨q,hc⟩:=bh ax
   obtain⟨i,o,cc,e,rw,q1,q2,q3,q4⟩:=Sl.at hs (uV hc)
   rw[lH hc]at hz
   have bL:(k:Int)<(l.length:Int):=by omega
   have Sv:=fun st=>Ydz (st:=st) (uM q (bU hc))
   by_cases h0:BJ q=true
   ·have e1:pO l=true:=by rw[hz];simp[pO,h0]
    rw[ay h0]at Sv
    simp[A.nQ,hr,hf,h7,bL,ax,hlen,q1,q2,q3,q4,Sv,aE,e1]
   ·have e1:pO l=pO (l.drop (k+1)):=by rw[hz];simp[pO,h0]
    rw[ak h0]at Sv
    simp(disch:=first|(simp;done)|omega|rfl) [A.nQ,hr,hf,h7,bL,ax,hlen,q1,q2,q3,q4,Sv,aE]
    exact⟨m,by omega,k+1,by omega,by simp,e1⟩
 ·rintro _ r _ hr ⟨rfl,⟨rfl,hz⟩|⟨rfl,hz,h2⟩⟩
  ·simp[hr,hz]
  ·simp[hr,h2,hz]
variable {N:Nat} {h:T O}
def A.w87:=A.q Tryz.f87
def A.wF:=A.ql A.w87 0 []
def A.b87:=(fun x0=>A.qb A.w87 [x0]) A.wF
def A.k87:=@A.kk 87 21 [.tmp 4] A.b87 (by kernel_rfl) rfl
def A.b62:=A.q Tryz.f62
def A.k62:=@A.kk 62 11 [.tmp 4] A.b62 (by kernel_rfl) rfl
def A.b39:=A.q Tryz.f39
def A.k39:=@A.kk 39 4 [.tmp 2] A.b39 (by kernel_rfl) rfl
def A.b113:=A.q Tryz.f113
def A.k113:=@A.kk 113 16 [.tmp 3] A.b113 (by kernel_rfl) rfl
def Yeo{v f:V}{l:List aM}(P:aM->Int)(hs:Sl h N v (strs l))(hl:l.length<100000)(hf:∀s∈l,∀h' n',ab h N h' n'->jg A.C f [.str s] h' n' (fun u _ _=>u=.int .i64 (P s))):Fn A.C 87 [v,f] h N (fun u _ _=>u=.int .i64 (cH (l.map P))):=by
 intro w
 have hlen:=hs.len
 rw[wP]at hlen
 rw[aN,A.k87 (by simp)]
 simp[A.b87,hlen]
 refine bG [(4,4),(6,7),(10,20)] (fun e r st=>av N st.w=[]/\ab h N st.h st.n/\((e=.exit 0/\cH (l.map P)=0)\/(e=.ret/\r.get 4=some (.int .i64 (cH (l.map P)))))) (fun m r st=>av N st.w=[]/\ab h N st.h st.n/\∃k,k+m=l.length/\r.get 10=some (.int .i64 k)/\cH (l.map P)=cH ((l.drop k).map P)) l.length ?_ ?_ ?_
 ·exact⟨by simp,ab.refl,0,by omega,by simp,by simp⟩
 ·rintro m r ⟨H,n1,W⟩ hr cU ⟨hW,hK,k,hk,h7,hz⟩
  simp only at hW hK
  rw[bk]
  cases m with
  |zero=>
   obtain rfl:k=l.length:=by omega
   rw[pg,wW,cH]at hz
   simp[A.wF,hr,cU,h7,hz,hW,hK]
  |succ m=>
   have ax:k<l.length:=by omega
   obtain⟨s,hc⟩:=bh ax
   obtain⟨i,o,cc,e,rw,q1,q2,q3,q4⟩:=(hs.ae hK).at (DH hc)
   rw[lH hc,nZ,cH]at hz
   have bL:(k:Int)<(l.length:Int):=by omega
   simp[A.wF,hr,cU,h7,bL,ax,hlen,q1,q2,q3,q4]
   refine zz (hf s (bU hc) _ _ hK) ?_
   rintro _ h3 n3 k3 rfl
   have kk:=hK.trans k3
   by_cases h0:P s=0
   ·rw[ay h0]at hz
    simp(disch:=first|(simp;done)|omega|rfl) [hr,cU,h7,h0,hW,aE]
    exact⟨m,by omega,kk,k+1,by omega,by simp,by simpa using hz⟩
   ·rw[ak h0]at hz
    simp[hr,cU,h7,h0,hW,aE,hz]
    exact kk
 ·rintro _ r ⟨H,n1,W⟩ hr ⟨hW,hK,⟨rfl,hz⟩|⟨rfl,h2⟩⟩
  ·simp only at hW hK
   simp[hr,hz,aA,hW,hK]
  ·simp only at hW hK
   simp[hr,h2,aA,hW,hK]
def Ycq{v:V}{l:List aM}{n:Nat}(hs:Sl h N v (strs l))(hl:l.length<100000)(uM:∀s∈l,s.length<=100000):Fn A.C 62 [v,.int .i64 n] h N (fun u _ _=>u=.int .i64 (pP l n)):=by
 intro w
 have hlen:=hs.len
 rw[wP]at hlen
 rw[aN,A.k62 (by simp)]
 by_cases c:l.length=n
 ·subst c
  simp[A.b62,hlen,aE]
  refine aB (Yeo (fun s=>((bf s:Nat):Int)) hs hl fun s hs h' n' _=>Zx6 (uM s hs)) ?_
  rintro _ H2 n2 k2 rfl
  simp[aA,pP]
  exact k2
 ·have c':¬(l.length:Int)=(n:Int):=by omega
  simp[A.b62,hlen,c',pP,c,aA,aE]
  exact ab.refl
def Zpj{q:Nat}{s:aM}{z:Int}{e:TypeId}{rw:Bool}(hq:h.get q=some (.cells [.int .i64 z] e rw))(ax:q<N)(hl:s.length<=100000):jg A.C (.func 113 [] [.ptr q 0]) [.str s] h N (fun u _ _=>u=.int .i64 (kL z s)):=by
 intro w
 rw[aN,A.k113 (by simp)]
 simp[A.b113]
 refine aB (Zx6 hl) ?_
 rintro _ h2 n2 k2 rfl
 by_cases h0:bf s=0
 ·have jU:((bf s:Nat):Int)=0:=by omega
  obtain⟨t1,t2,t3⟩:=FR h0
  have l1:(aK (fw s).num).length<=100000:=by
   have:(aK (fw s).num).length<=(ar (fw s).num.natAbs).length+1:=by unfold aK;split<;>simp
   omega
  have kp:=(k2.get q ax).trans hq
  have sV:=UT (q:=fw s) (h:=h2) (N:=n2) l1 (by omega)
  rw[t1]at sV
  simp[h0,jU,aE]
  refine aB sV ?_
  rintro x3 h3 n3 k3 hx
  have kl2:=k2.le
  have Nc:=(k3.get q (by omega)).trans kp
  simp[]
  refine aB (VC hx) ?_
  rintro _ h4 n4 k4 rfl
  have kl3:=k3.le
  have xc:=(k4.get q (by omega)).trans Nc
  have kl4:=k4.le
  have d4:q<n4:=by omega
  by_cases h5:dX (fw s).num<z
  ·simp[xc,h5,Ybh,aA,kL,h0]
   refine(G9 (by simp[-av,d4,ZM,ZN])).2 ?_
   simp[aA]
   exact(k2.trans k3).trans k4
  ·simp[xc,h5,Ybh,aA,kL,h0]
   refine(G9 (by simp[-av,d4,ZM,ZN])).2 ?_
   simp[aA]
   exact(k2.trans k3).trans k4
 ·have jU:¬((bf s:Nat):Int)=0:=by omega
  simp[h0,jU,aE,aA,kL]
  exact k2
set_option maxHeartbeats 1000000
def A.b218:=A.q Tryz.f218
def A.k218:=@A.kk 218 10 [.cell 2 (some 2)] A.b218 (by kernel_rfl) rfl
def A.O9:=A.q Tryz.f143
def A.sH:=A.ql A.O9 0 []
def A.b143:=(fun x0=>A.qb A.O9 [x0]) A.sH
def A.k143:=@A.kk 143 47 [.tmp 4] A.b143 (by kernel_rfl) rfl
def Ygu{h:T O}{N:Nat}{v:V}{l:List (List aM)}{l0:List aM}(hs:iJ h N v l)(h0:l[0]?=some l0):Fn A.C 218 [v] h N (fun u _ _=>u=.agg [.int .i64 l.length,.int .i64 l0.length]):=by
 intro w
 have hlen:=hs.len
 have mE:0<l.length:=f_ h0
 have jd:0<(l.length:Int):=by omega
 obtain⟨i0,o0,cc0,e0,HH,u0,z1,z2,z3,z4,z5⟩:=hs.at h0
 have z6:=z5.len
 rw[wP]at z6
 rw[mP]at z4
 have d1:¬i0=N:=by omega
 have d2:¬N=i0:=by omega
 rw[aN,A.k218 (by simp)]
 simp[A.b218,hlen,mE,jd,z1,z2,z3,z4,z6,d1,d2,ad,bD,aO,aD,aA]
 exact(ab.refl.new _).set (aQ _)
def Yhn{h:T O}{N:Nat}{v:V}{l:List (List aM)}{a b:Nat}(hs:iJ h N v l)(hl:l.length<100000)(hx:∀x∈l,x.length<100000/\∀s∈x,s.length<=100000):Fn A.C 143 [v,.agg [.int .i64 a,.int .i64 b]] h N (fun u _ _=>u=.int .i64 (mb l a b)):=by
 intro w
 have hlen:=hs.len
 rw[aN,A.k143 (by simp)]
 by_cases c0:l.length=0
 ·have c0':(l.length:Int)=0:=by omega
  simp[A.b143,hlen,c0,c0',mb,aA,aE]
  exact ab.refl.new _
 have c0':¬(l.length:Int)=0:=by omega
 have mE:0<l.length:=by omega
 have jd:0<(l.length:Int):=by omega
 obtain⟨l0,gX⟩:=bh mE
 obtain⟨i0,o0,cc0,e0,HH,u0,z1,z2,z3,z4,z5⟩:=hs.at gX
 have z6:=z5.len
 rw[wP]at z6
 rw[mP]at z4
 obtain⟨n,hn⟩:∃n,n=l0.length:=⟨_,rfl⟩
 have en:dR l=n:=by simp[dR,gX,hn]
 rw[<-hn]at z6
 have xy:n<100000:=by have:=(hx l0 (bU gX)).1;omega
 have d1:¬i0=N:=by omega
 have d2:¬N=i0:=by omega
 by_cases c1:n=0
 ·have c1':(n:Int)=0:=by omega
  simp[A.b143,hlen,c0,c0',mE,jd,z1,z2,z3,z4,z6,d1,d2,c1,c1',mb,en,aA,aE]
  exact ab.refl.new _
 have c1':¬(n:Int)=0:=by omega
 have e1:mb l a b=if a<l.length\/b<n then 5 else cH (l.map fun x=>pP x n):=by simp[mb,en,c0,c1]
 rw[e1]
 simp[A.b143,hlen,c0,c0',mE,jd,z1,z2,z3,z4,z6,d1,d2,c1,c1',aE]
 generalize hH:h.set N (.cells [.int .i64 a,.int .i64 b] 159 true)=H
 have k1:ab h N H (N+1):=by rw[<-hH];exact ab.refl.new _
 have g1:H.get N=some (.cells [.int .i64 a,.int .i64 b] 159 true):=by rw[<-hH];simp
 clear hH
 refine aB (Ygu (hs.ae k1) gX) ?_
 rintro _ H2 n2 k2 rfl
 rw[<-hn]
 have kl2:=k2.le
 have g2:=(k2.get N (by omega)).trans g1
 have d3:¬N=n2:=by omega
 have d4:¬n2=N:=by omega
 have kz:ab h N ((H2.set n2 (.cells [.int .i64 0,.int .i64 0] 159 true)).set n2 (.cells [.int .i64 l.length,.int .i64 n] 159 true)) (n2+1):=((k1.trans k2).new _).set (by omega)
 by_cases c2:a<l.length
 ·have c2':(a:Int)<(l.length:Int):=by omega
  simp[hlen,g2,d3,d4,ad,bD,aO,aD,c2,c2',aA,aE]
  exact⟨by omega,kz⟩
 have c2':¬(a:Int)<(l.length:Int):=by omega
 by_cases c3:b<n
 ·have c3':(b:Int)<(n:Int):=by omega
  simp[hlen,g2,d3,d4,ad,bD,aO,aD,c2,c2',c3,c3',aA,aE]
  exact⟨by omega,kz⟩
 have c3':¬(b:Int)<(n:Int):=by omega
 simp[hlen,g2,d3,d4,ad,bD,aO,aD,c2,c2',c3,c3',aA,aE]
 generalize hH3:(H2.set n2 (.cells [.int .i64 0,.int .i64 0] 159 true)).set n2 (.cells [.int .i64 l.length,.int .i64 n] 159 true)=H3 at*
 have g3:H3.get n2=some (.cells [.int .i64 l.length,.int .i64 n] 159 true):=by rw[<-hH3];simp
 clear hH3
 have kd:ab H3 (n2+1) H3 (n2+1):=ab.refl
 refine bG [(4,4),(7,8),(35,46)] (fun e r st=>av N st.w=[]/\ab h N st.h st.n/\((e=.exit 0/\cH (l.map (fun x=>pP x n))=0)\/(e=.ret/\r.get 4=some (.int .i64 (cH (l.map (fun x=>pP x n))))))) (fun m r st=>av N st.w=[]/\ab h N st.h st.n/\(n2<st.n/\st.h.get n2=H3.get n2)/\∃k,k+m=l.length/\r.get 35=some (.int .i64 k)/\cH (l.map (fun x=>pP x n))=cH ((l.drop k).map (fun x=>pP x n))) l.length ?_ ?_ ?_
 ·exact⟨by simp;omega,kz,⟨by simp,rfl⟩,0,by omega,by simp,by simp⟩
 ·rintro m r ⟨H,n1,W⟩ hr cU ⟨hW,hK,⟨cX,hG⟩,k,hk,h7,hz⟩
  simp only at hW hK cX hG
  rw[bk]
  cases m with
  |zero=>
   obtain rfl:k=l.length:=by omega
   rw[pg,wW,cH]at hz
   simp[A.sH,hr,cU,h7,hz,hW,hK]
  |succ m=>
   have ax:k<l.length:=by omega
   obtain⟨s,hc⟩:=bh ax
   obtain⟨i,o,cc,e,rw,u,q1,q2,q3,q4,q5⟩:=(hs.ae hK).at hc
   have g4:=hG.trans g3
   rw[lH hc,nZ,cH]at hz
   have bL:(k:Int)<(l.length:Int):=by omega
   simp[A.sH,hr,cU,h7,bL,ax,hlen,q1,q2,q3,q4,g4,cX]
   refine aB (Ycq q5 (hx s (bU hc)).1 (hx s (bU hc)).2) ?_
   rintro _ h3 n3 k3 rfl
   have kk:=hK.trans k3
   by_cases h0:pP s n=0
   ·rw[ay h0]at hz
    simp(disch:=first|(simp;done)|omega|rfl) [hr,cU,h7,h0,hW,aE]
    exact⟨m,by omega,kk,⟨by have:=k3.le;omega,(k3.get n2 cX).trans hG⟩,k+1,by omega,by simp,by simpa using hz⟩
   ·rw[ak h0]at hz
    simp[hr,cU,h7,h0,hW,aE,hz]
    exact kk
 ·rintro _ r ⟨H,n1,W⟩ hr ⟨hW,hK,⟨rfl,hz⟩|⟨rfl,h2⟩⟩
  ·simp only at hW hK
   simp[hr,hz,aA,hW,hK]
  ·simp only at hW hK
   simp[hr,h2,aA,hW,hK]
def A.w35:=A.q Tryz.f35
def A.wG:=A.ql A.w35 0 []
def A.b35:=(fun x0=>A.qb A.w35 [x0]) A.wG
def A.k35:=@A.kk 35 18 [.tmp 2] A.b35 (by kernel_rfl) rfl
def Zyf{h:T O}{N:Nat}{v:V}{fs:List V}{l:List Int}(hs:Sl h N v fs)(Pa:fs.length=l.length)(hl:l.length<1000)(hf:∀(j:Nat) (f:V) (e:Int),fs[j]?=some f->l[j]?=some e->(∀(i:Nat) (x:Int),i<j->l[i]?=some x->x=0)->∀h' n',ab h N h' n'->jg A.C f [] h' n' (fun u _ _=>u=.int .i64 e)):Fn A.C 35 [v] h N (fun u _ _=>u=.int .i64 (cH l)):=by
 intro w
 have hlen:=hs.len
 rw[Pa]at hlen
 rw[aN,A.k35 (by simp)]
 simp[A.b35,hlen]
 refine bG [(2,2),(4,5),(8,17)] (fun e r st=>av N st.w=[]/\ab h N st.h st.n/\((e=.exit 0/\cH l=0)\/(e=.ret/\r.get 2=some (.int .i64 (cH l))))) (fun m r st=>av N st.w=[]/\ab h N st.h st.n/\∃k,k+m=l.length/\r.get 8=some (.int .i64 k)/\cH l=cH (l.drop k)/\∀(i:Nat) (x:Int),i<k->l[i]?=some x->x=0) l.length ?_ ?_ ?_
 ·exact⟨by simp,ab.refl,0,by omega,by simp,by simp,fun i x hi=>by omega⟩
 ·rintro m r ⟨H,n1,W⟩ hr cU ⟨hW,hK,k,hk,h7,hz,O3⟩
  simp only at hW hK
  rw[bk]
  cases m with
  |zero=>
   obtain rfl:k=l.length:=by omega
   rw[pg,cH]at hz
   simp[A.wG,hr,cU,h7,hz,hW,hK]
  |succ m=>
   have ax:k<l.length:=by omega
   obtain⟨s,hc⟩:=bh ax
   obtain⟨f,hfk⟩:=bh (show k<fs.length by omega)
   obtain⟨i,o,cc,e,rw,q1,q2,q3,q4⟩:=(hs.ae hK).at hfk
   rw[lH hc,cH]at hz
   have bL:(k:Int)<(l.length:Int):=by omega
   simp[A.wG,hr,cU,h7,bL,ax,hlen,q1,q2,q3,q4]
   refine zz (hf k f s hfk hc O3 _ _ hK) ?_
   rintro _ h3 n3 k3 rfl
   have kk:=hK.trans k3
   by_cases h0:s=0
   ·rw[ay h0]at hz
    simp(disch:=first|(simp;done)|omega|rfl) [hr,cU,h7,h0,hW,aE]
    refine⟨m,by omega,kk,k+1,by omega,by simp,hz,fun i x hi hx=>?_⟩
    by_cases Ln:i<k
    ·exact O3 i x Ln hx
    ·obtain rfl:i=k:=by omega
     rw[hc]at hx
     rw[<-h0]
     simpa using hx.symm
   ·rw[ak h0]at hz
    simp[hr,cU,h7,h0,hW,aE,hz]
    exact kk
 ·rintro _ r ⟨H,n1,W⟩ hr ⟨hW,hK,⟨rfl,hz⟩|⟨rfl,h2⟩⟩
  ·simp only at hW hK
   simp[hr,hz,aA,hW,hK]
  ·simp only at hW hK
   simp[hr,h2,aA,hW,hK]
end
end Go.Mx
