/-lensletref05-/
import Derived.Test.YteojhfjdbpdolaaGreatDoorNfB
set_option linter.all false
namespace Go.Mx
noncomputable section
open Go Go.Proofs
variable {N n:Nat} {h:T O} {m:List (List aQ)} {v:V} {w:List Nat}
set_option maxRecDepth 1000000
def A.w5:=A.q Tryz.f5
def A.oR:=A.ql A.w5 0 []
def A.b5:=(fun x0=>A.qb A.w5 [x0]) A.oR
def A.k5:=@A.kk 5 32 [.tmp 4] A.b5 (by kernel_rfl) rfl
def A.w4:=A.q Tryz.f4
def A.oS:=A.ql A.w4 0 []
def A.b4:=(fun x0=>A.qb A.w4 [x0]) A.oS
def A.k4:=@A.kk 4 35 [.tmp 6] A.b4 (by kernel_rfl) rfl
def A.w14:=A.q Tryz.f14
def A.wz:=A.ql A.w14 0 []
def A.b14:=(fun x0=>A.qb A.w14 [x0]) A.wz
def A.k14:=@A.kk 14 26 [.tmp 4] A.b14 (by kernel_rfl) rfl
def Yc0{u:V}{l:List aQ}(hu:Sl h N u (strs l))(hv:Sl h N v (strs l))(hl:l.length<100000):A.C.call (.func 14 [] []) [u,v] ⟨h,N,w⟩=some (.bool true,⟨h,N,w⟩):=by
 apply Call.eq
 have l1:=hu.len
 have l2:=hv.len
 rw[w_]at l1 l2
 rw[aR,A.k14 (by simp)]
 simp[A.b14,l1,l2,aG]
 refine bL [(4,5),(11,25)] (fun e r st=>st=⟨h,N,[]⟩/\e=.exit 0) (fun m r st=>st=⟨h,N,[]⟩/\∃k,k+m=l.length/\r.get 5=some (.int .i64 k)) l.length ?_ ?_ ?_
 ·exact⟨rfl,0,by omega,by simp⟩
 ·rintro m r _ hr hf ⟨rfl,k,hk,h5⟩
  rw[bl]
  cases m with
  |zero=>
   obtain rfl:k=l.length:=by omega
   simp[A.wz,hr,hf,h5,l1]
  |succ m=>
   have ay:k<l.length:=by omega
   obtain⟨s,hs⟩:=bk ay
   obtain⟨i,o,c,e,rw,q1,q2,q3,q4⟩:=hu.at (FV hs)
   obtain⟨i',o',c',e',pO,p1,p2,p3,p4⟩:=hv.at (FV hs)
   have bM:(k:Int)<(l.length:Int):=by omega
   simp(disch:=first|(simp;done)|omega|rfl) [A.wz,hr,hf,h5,l1,l2,bM,ay,q1,q2,q3,q4,p1,p2,p3,p4,gL,aG,ct.cv]
   exact⟨m,by omega,k+1,by omega,by simp⟩
 ·rintro _ r _ hr ⟨rfl,rfl⟩
  simp[hr]
def pJ(s:aQ):Bool:=decide (s.length<=24)
def mb(k n:Nat):Bool:=decide (k<=n\/64<k/\k<=66)
def gF(n:Nat)(l:List aQ):Bool:=mb l.length n&&l.all pJ
def VS{k:Nat}(h:mb k n=true)(hn:n<64):k<=66:=by
 simp[mb]at h
 omega
def Zn3{l:List aQ}(hs:Sl h N v (strs l))(hl:l.length<9223372036854775808)(hn:n<64):A.C.call (.func 5 [] []) [v,.int .i64 n] ⟨h,N,w⟩=some (.bool (gF n l),⟨h,N,w⟩):=by
 apply Call.eq
 have lg:=hs.len
 rw[w_]at lg
 rw[aR,A.k5 (by simp)]
 have fin:mb l.length n=true->gF n l=l.all pJ:=fun h=>by simp[gF,h]
 by_cases c1:l.length<=n
 ·rw[fin (by simp[mb,c1])]
  have a1:¬(n:Int)<(l.length:Int):=by omega
  have a2:¬66<(l.length:Int):=by omega
  simp[A.b5,lg,a1,a2]
  refine bL [(4,5),(20,31)] (fun e r st=>st=⟨h,N,[]⟩/\((e=.exit 0/\l.all pJ=true)\/(e=.ret/\l.all pJ=false/\r.get 4=some (.bool false)))) (fun m r st=>st=⟨h,N,[]⟩/\∃k,k+m=l.length/\r.get 5=some (.int .i64 k)/\l.all pJ=(l.drop k).all pJ) l.length ?_ ?_ ?_
  ·exact⟨rfl,0,by omega,by simp,by simp⟩
  ·rintro m r _ hr hf ⟨rfl,k,hk,hx,hz⟩
   rw[bl]
   cases m with
   |zero=>
    obtain rfl:k=l.length:=by omega
    rw[qW,List.all_nil]at hz
    simp[A.oR,hr,hf,hx,lg,hz]
   |succ m=>
    have ay:k<l.length:=by omega
    have bM:(k:Int)<(l.length:Int):=by omega
    obtain⟨s,hc⟩:=bk ay
    obtain⟨i,o,cc,e,rw,q1,q2,q3,q4⟩:=hs.at (FV hc)
    rw[my hc,List.all_cons]at hz
    by_cases c4:pJ s=true
    ·rw[c4,Bool.true_and]at hz
     have c6:¬24<(s.length:Int):=by simp[pJ]at c4;omega
     simp(disch:=first|(simp;done)|omega|rfl) [A.oR,hr,hf,hx,lg,bM,q1,q3,q4,c6]
     exact⟨m,by omega,k+1,by omega,by simp,hz⟩
    ·have c5:pJ s=false:=by simpa using c4
     rw[c5,Cf]at hz
     have c6:24<(s.length:Int):=by simp[pJ]at c5;omega
     simp[A.oR,hr,hf,hx,lg,bM,q1,q3,q4,c6,hz]
  ·rintro e r _ hr ⟨rfl,⟨rfl,hq⟩|⟨rfl,hq,h2⟩⟩
   ·simp[hq]
   ·simp[hq,h2]
 ·have a1:(n:Int)<(l.length:Int):=by omega
  have RN:n<l.length:=by omega
  by_cases c2:l.length<=64
  ·have a3:(l.length:Int)<=64:=by omega
   have e1:gF n l=false:=by simp[gF,mb,c1];omega
   simp[A.b5,lg,a1,a3,e1]
  ·have a3:¬(l.length:Int)<=64:=by omega
   by_cases c3:66<l.length
   ·have a4:66<(l.length:Int):=by omega
    have e1:gF n l=false:=by simp[gF,mb,c1];omega
    simp[A.b5,lg,a1,a3,a4,e1]
   ·have a4:¬66<(l.length:Int):=by omega
    rw[fin (by simp[mb];omega)]
    simp[A.b5,lg,a1,a3,a4]
    refine bL [(4,5),(20,31)] (fun e r st=>st=⟨h,N,[]⟩/\((e=.exit 0/\l.all pJ=true)\/(e=.ret/\l.all pJ=false/\r.get 4=some (.bool false)))) (fun m r st=>st=⟨h,N,[]⟩/\∃k,k+m=l.length/\r.get 5=some (.int .i64 k)/\l.all pJ=(l.drop k).all pJ) l.length ?_ ?_ ?_
    ·exact⟨rfl,0,by omega,by simp,by simp⟩
    ·rintro m r _ hr hf ⟨rfl,k,hk,hx,hz⟩
     rw[bl]
     cases m with
     |zero=>
      obtain rfl:k=l.length:=by omega
      rw[qW,List.all_nil]at hz
      simp[A.oR,hr,hf,hx,lg,hz]
     |succ m=>
      have ay:k<l.length:=by omega
      have bM:(k:Int)<(l.length:Int):=by omega
      obtain⟨s,hc⟩:=bk ay
      obtain⟨i,o,cc,e,rw,q1,q2,q3,q4⟩:=hs.at (FV hc)
      rw[my hc,List.all_cons]at hz
      by_cases c4:pJ s=true
      ·rw[c4,Bool.true_and]at hz
       have c6:¬24<(s.length:Int):=by simp[pJ]at c4;omega
       simp(disch:=first|(simp;done)|omega|rfl) [A.oR,hr,hf,hx,lg,bM,q1,q3,q4,c6]
       exact⟨m,by omega,k+1,by omega,by simp,hz⟩
      ·have c5:pJ s=false:=by simpa using c4
       rw[c5,Cf]at hz
       have c6:24<(s.length:Int):=by simp[pJ]at c5;omega
       simp[A.oR,hr,hf,hx,lg,bM,q1,q3,q4,c6,hz]
    ·rintro e r _ hr ⟨rfl,⟨rfl,hq⟩|⟨rfl,hq,h2⟩⟩
     ·simp[hq]
     ·simp[hq,h2]
def iV(h:T O)(N:Nat)(v:V)(m:List (List aQ)):Prop:=∃us:List V,Sl h N v us/\us.length=m.length/\∀(j:Nat) (l:List aQ),m[j]?=some l->∃u,us[j]?=some u/\Sl h N u (strs l)
def iV.ae{h':T O}{N':Nat}(s:iV h N v m)(k:ab h N h' N'):iV h' N' v m:=by
 obtain⟨us,h1,h2,h3⟩:=s
 refine⟨us,h1.ae k,h2,fun j l hl=>?_⟩
 obtain⟨u,g1,g2⟩:=h3 j l hl
 exact⟨u,g1,g2.ae k⟩
def iV.len(s:iV h N v m):pD v=some m.length:=by
 obtain⟨us,h1,h2,_⟩:=s
 rw[h1.len,h2]
def iV.at(s:iV h N v m){j:Nat}{l:List aQ}(hj:m[j]?=some l):∃i o c e rw u,yd v=some (i,o)/\i<N/\h.get i=some (.cells c e rw)/\c[o+j]?=some u/\Sl h N u (strs l):=by
 obtain⟨us,h1,h2,h3⟩:=s
 obtain⟨u,g1,g2⟩:=h3 j l hj
 obtain⟨i,o,c,e,rw,q1,q2,q3,q4⟩:=h1.at g1
 exact⟨i,o,c,e,rw,u,q1,q2,q3,q4,g2⟩
def iV.yB{m:List (List Rat)}(s:iV h N v (m.map fun l=>l.map aS)):iw h N v m:=by
 obtain⟨us,h1,h2,h3⟩:=s
 refine⟨us,h1,by simpa using h2,fun j l hl=>?_⟩
 exact h3 j (l.map aS) (by simp[hl])
def pT(r c:Nat)(m:List (List aQ)):Bool:=mb m.length r&&m.all (gF c)
def Yii{l:List (List aQ)}{p:Nat}(hs:iV h N v l)(hl:l.length<9223372036854775808)(mH:∀x∈l,x.length<9223372036854775808)(hn:n<64)(hp:p<64):A.C.call (.func 4 [] []) [v,.int .i64 n,.int .i64 p] ⟨h,N,w⟩=some (.bool (pT n p l),⟨h,N,w⟩):=by
 apply Call.eq
 have lg:=hs.len
 rw[aR,A.k4 (by simp)]
 have fin:mb l.length n=true->pT n p l=l.all (gF p):=fun h=>by simp[pT,h]
 by_cases c1:l.length<=n
 ·rw[fin (by simp[mb,c1])]
  have a1:¬(n:Int)<(l.length:Int):=by omega
  have a2:¬66<(l.length:Int):=by omega
  simp[A.b4,lg,a1,a2]
  refine bL [(6,7),(22,34)] (fun e r st=>st=⟨h,N,[]⟩/\((e=.exit 0/\l.all (gF p)=true)\/(e=.ret/\l.all (gF p)=false/\r.get 6=some (.bool false)))) (fun m r st=>st=⟨h,N,[]⟩/\∃k,k+m=l.length/\r.get 7=some (.int .i64 k)/\l.all (gF p)=(l.drop k).all (gF p)) l.length ?_ ?_ ?_
  ·exact⟨rfl,0,by omega,by simp,by simp⟩
  ·rintro m r _ hr hf ⟨rfl,k,hk,hx,hz⟩
   rw[bl]
   cases m with
   |zero=>
    obtain rfl:k=l.length:=by omega
    rw[qW,List.all_nil]at hz
    simp[A.oS,hr,hf,hx,lg,hz]
   |succ m=>
    have ay:k<l.length:=by omega
    have bM:(k:Int)<(l.length:Int):=by omega
    obtain⟨s,hc⟩:=bk ay
    obtain⟨i,o,cc,e,rw,u,q1,q2,q3,q4,q5⟩:=hs.at hc
    have cC:=fun w=>Zn3 (w:=w) q5 (mH s (cG hc)) hp
    rw[my hc,List.all_cons]at hz
    by_cases c4:(gF p) s=true
    ·rw[c4,Bool.true_and]at hz
     simp(disch:=first|(simp;done)|omega|rfl) [A.oS,hr,hf,hx,lg,bM,q1,q3,q4,cC,c4]
     exact⟨m,by omega,k+1,by omega,by simp,hz⟩
    ·have c5:(gF p) s=false:=by simpa using c4
     rw[c5,Cf]at hz
     simp[A.oS,hr,hf,hx,lg,bM,q1,q3,q4,cC,c5,hz]
  ·rintro e r _ hr ⟨rfl,⟨rfl,hq⟩|⟨rfl,hq,h2⟩⟩
   ·simp[hq]
   ·simp[hq,h2]
 ·have a1:(n:Int)<(l.length:Int):=by omega
  have RN:n<l.length:=by omega
  by_cases c2:l.length<=64
  ·have a3:(l.length:Int)<=64:=by omega
   have e1:pT n p l=false:=by simp[pT,mb,c1];omega
   simp[A.b4,lg,a1,a3,e1]
  ·have a3:¬(l.length:Int)<=64:=by omega
   by_cases c3:66<l.length
   ·have a4:66<(l.length:Int):=by omega
    have e1:pT n p l=false:=by simp[pT,mb,c1];omega
    simp[A.b4,lg,a1,a3,a4,e1]
   ·have a4:¬66<(l.length:Int):=by omega
    rw[fin (by simp[mb];omega)]
    simp[A.b4,lg,a1,a3,a4]
    refine bL [(6,7),(22,34)] (fun e r st=>st=⟨h,N,[]⟩/\((e=.exit 0/\l.all (gF p)=true)\/(e=.ret/\l.all (gF p)=false/\r.get 6=some (.bool false)))) (fun m r st=>st=⟨h,N,[]⟩/\∃k,k+m=l.length/\r.get 7=some (.int .i64 k)/\l.all (gF p)=(l.drop k).all (gF p)) l.length ?_ ?_ ?_
    ·exact⟨rfl,0,by omega,by simp,by simp⟩
    ·rintro m r _ hr hf ⟨rfl,k,hk,hx,hz⟩
     rw[bl]
     cases m with
     |zero=>
      obtain rfl:k=l.length:=by omega
      rw[qW,List.all_nil]at hz
      simp[A.oS,hr,hf,hx,lg,hz]
     |succ m=>
      have ay:k<l.length:=by omega
      have bM:(k:Int)<(l.length:Int):=by omega
      obtain⟨s,hc⟩:=bk ay
      obtain⟨i,o,cc,e,rw,u,q1,q2,q3,q4,q5⟩:=hs.at hc
      have cC:=fun w=>Zn3 (w:=w) q5 (mH s (cG hc)) hp
      rw[my hc,List.all_cons]at hz
      by_cases c4:(gF p) s=true
      ·rw[c4,Bool.true_and]at hz
       simp(disch:=first|(simp;done)|omega|rfl) [A.oS,hr,hf,hx,lg,bM,q1,q3,q4,cC,c4]
       exact⟨m,by omega,k+1,by omega,by simp,hz⟩
      ·have c5:(gF p) s=false:=by simpa using c4
       rw[c5,Cf]at hz
       simp[A.oS,hr,hf,hx,lg,bM,q1,q3,q4,cC,c5,hz]
    ·rintro e r _ hr ⟨rfl,⟨rfl,hq⟩|⟨rfl,hq,h2⟩⟩
     ·simp[hq]
     ·simp[hq,h2]
variable {N:Nat} {h:T O} {v:V}
def A.w54:=A.q Tryz.f54
def A.wA:=A.ql A.w54 0 []
def A.b54:=(fun x0=>A.qb A.w54 [x0]) A.wA
def A.k54:=@A.kk 54 19 [.tmp 2] A.b54 (by kernel_rfl) rfl
def A.b10:=A.q Tryz.f10
def A.k10:=@A.kk 10 11 [.tmp 4] A.b10 (by kernel_rfl) rfl
def A.w53:=A.q Tryz.f53
def A.wB:=A.ql A.w53 0 []
def A.b53:=(fun x0=>A.qb A.w53 [x0]) A.wB
def A.k53:=@A.kk 53 49 [.tmp 6] A.b53 (by kernel_rfl) rfl
def Yqx{l:List aQ}(hs:Sl h N v (strs l))(hl:l.length<100000)(xP:∀s∈l,s.length<=100000):Fn A.C 54 [v] h N (fun u _ _=>u=.int .i64 (cF (l.map fun s=>((cf s:Nat):Int)))):=by
 intro w
 have hlen:=hs.len
 rw[w_]at hlen
 rw[aR,A.k54 (by simp)]
 simp[A.b54]
 refine bL [(2,18)] (fun e r st=>ax N st.w=[]/\ab h N st.h st.n/\((e=.exit 0/\cF (l.map fun s=>((cf s:Nat):Int))=0)\/(e=.ret/\r.get 2=some (.int .i64 (cF (l.map fun s=>((cf s:Nat):Int))))))) (fun m r st=>ax N st.w=[]/\ab h N st.h st.n/\∃k,k+m=l.length/\r.get 3=some (.int .i64 k)/\cF (l.map fun s=>((cf s:Nat):Int))=cF ((l.drop k).map fun s=>((cf s:Nat):Int))) l.length ?_ ?_ ?_
 ·exact⟨by simp,ab.refl,0,by omega,by simp,by simp⟩
 ·rintro m r ⟨H,n1,W⟩ hr hf ⟨hW,hK,k,hk,h7,hz⟩
  simp only at hW hK
  rw[bl]
  cases m with
  |zero=>
   obtain rfl:k=l.length:=by omega
   rw[qW,yY,cF]at hz
   simp[A.wA,hr,hf,h7,hlen,hz,hW,hK]
  |succ m=>
   have ay:k<l.length:=by omega
   obtain⟨s,hc⟩:=bk ay
   obtain⟨i,o,cc,e,rw,q1,q2,q3,q4⟩:=(hs.ae hK).at (FV hc)
   rw[my hc,py,cF]at hz
   have bM:(k:Int)<(l.length:Int):=by omega
   simp[A.wA,hr,hf,h7,bM,ay,hlen,q1,q3,q4]
   refine aA (Ydz (xP s (cG hc))) ?_
   rintro _ h3 n3 k3 rfl
   have kk:=hK.trans k3
   by_cases h0:cf s=0
   ·rw[av (by omega)]at hz
    simp(disch:=first|(simp;done)|omega|rfl) [hr,hf,h7,h0,hW,aG]
    exact⟨m,by omega,kk,k+1,by omega,by simp,by simpa using hz⟩
   ·rw[ak (by omega)]at hz
    have iO:¬((cf s:Nat):Int)=0:=by omega
    simp[hr,hf,h7,h0,iO,hW,aG,hz]
    exact kk
 ·rintro _ r ⟨H,n1,W⟩ hr ⟨hW,hK,⟨rfl,hz⟩|⟨rfl,h2⟩⟩
  ·simp only at hW hK
   simp[hr,hz,aE,hW,hK]
  ·simp only at hW hK
   simp[hr,h2,aE,hW,hK]
def kK(l:List aQ)(n:Nat):Int:=if l.length=n then cF (l.map fun s=>((cf s:Nat):Int)) else 2
def dS(l:List (List aQ)):Nat:=(l[0]?.getD []).length
def lS(l:List (List aQ))(r c:Nat):Int:=if l.length=0\/dS l=0 then 12 else if r<l.length\/c<dS l then 5 else cF (l.map fun x=>kK x (dS l))
def Zy8{l:List aQ}{n:Nat}(hs:Sl h N v (strs l))(hl:l.length<100000)(xP:∀s∈l,s.length<=100000):Fn A.C 10 [v,.int .i64 n] h N (fun u _ _=>u=.int .i64 (kK l n)):=by
 intro w
 have hlen:=hs.len
 rw[w_]at hlen
 rw[aR,A.k10 (by simp)]
 by_cases c:l.length=n
 ·subst c
  simp[A.b10,hlen,aG]
  refine aA (Yqx hs hl xP) ?_
  rintro _ H2 n2 k2 rfl
  simp[aE,kK]
  exact k2
 ·have c':¬(l.length:Int)=(n:Int):=by omega
  simp[A.b10,hlen,c',kK,c,aE,aG]
  exact ab.refl
def Yq1{l:List (List aQ)}{a b:Nat}(hs:iV h N v l)(hl:l.length<100000)(hx:∀x∈l,x.length<100000/\∀s∈x,s.length<=100000):Fn A.C 53 [v,.int .i64 a,.int .i64 b] h N (fun u _ _=>u=.int .i64 (lS l a b)):=by
 intro w
 have hlen:=hs.len
 rw[aR,A.k53 (by simp)]
 by_cases c0:l.length=0
 ·have c0':(l.length:Int)=0:=by omega
  simp[A.b53,hlen,c0,c0',lS,aE,aG]
  exact ab.refl
 have c0':¬(l.length:Int)=0:=by omega
 have mr:0<l.length:=by omega
 have fU:0<(l.length:Int):=by omega
 obtain⟨l0,gb⟩:=bk mr
 obtain⟨i0,o0,VU,e0,DV,u0,z1,z2,z3,z4,z5⟩:=hs.at gb
 have z6:=z5.len
 rw[w_]at z6
 rw[kv]at z4
 obtain⟨n,hn⟩:∃n,n=l0.length:=⟨_,rfl⟩
 have en:dS l=n:=by simp[dS,gb,hn]
 rw[<-hn]at z6
 have vR:n<100000:=by have:=(hx l0 (cG gb)).1;omega
 by_cases c1:n=0
 ·have c1':(n:Int)=0:=by omega
  simp[A.b53,hlen,c0,c0',mr,fU,z1,z2,z3,z4,z6,c1,c1',lS,en,aE,aG]
  exact ab.refl
 have c1':¬(n:Int)=0:=by omega
 by_cases c2:a<l.length
 ·have c2':(a:Int)<(l.length:Int):=by omega
  simp[A.b53,hlen,c0,c0',mr,fU,z1,z2,z3,z4,z6,c1,c1',c2,c2',lS,en,aE,aG]
  exact ab.refl
 have c2':¬(a:Int)<(l.length:Int):=by omega
 by_cases c3:b<n
 ·have c3':(b:Int)<(n:Int):=by omega
  simp[A.b53,hlen,c0,c0',mr,fU,z1,z2,z3,z4,z6,c1,c1',c2,c2',c3,c3',lS,en,aE,aG]
  exact ab.refl
 ·have c3':¬(b:Int)<(n:Int):=by omega
  have e1:lS l a b=cF (l.map fun x=>kK x n):=by simp[lS,en,c0,c1,c2,c3]
  rw[e1]
  simp[A.b53,hlen,c0,c0',mr,fU,z1,z2,z3,z4,z6,c1,c1',c2,c2',c3,c3',aE,aG]
  refine bL [(6,8),(31,48)] (fun e r st=>ax N st.w=[]/\ab h N st.h st.n/\((e=.exit 0/\cF (l.map fun x=>kK x n)=0)\/(e=.ret/\r.get 6=some (.int .i64 (cF (l.map fun x=>kK x n)))))) (fun m r st=>ax N st.w=[]/\ab h N st.h st.n/\∃k,k+m=l.length/\r.get 7=some (.int .i64 k)/\cF (l.map fun x=>kK x n)=cF ((l.drop k).map fun x=>kK x n)) l.length ?_ ?_ ?_
  ·exact⟨by simp,ab.refl,0,by omega,by simp,by simp⟩
  ·rintro m r ⟨H,n1,W⟩ hr hf ⟨hW,hK,k,hk,h7,hz⟩
   simp only at hW hK
   rw[bl]
   cases m with
   |zero=>
    obtain rfl:k=l.length:=by omega
    rw[qW,yY,cF]at hz
    simp[A.wB,hr,hf,h7,hlen,hz,hW,hK]
   |succ m=>
    have ay:k<l.length:=by omega
    obtain⟨s,hc⟩:=bk ay
    obtain⟨i,o,cc,e,rw,u,q1,q2,q3,q4,q5⟩:=(hs.ae hK).at hc
    rw[my hc,py,cF]at hz
    have bM:(k:Int)<(l.length:Int):=by omega
    obtain⟨i1,o1,PL,e1,rw1,u1,y1,y2,y3,y4,y5⟩:=(hs.ae hK).at gb
    have y6:=y5.len
    rw[w_,<-hn]at y6
    rw[kv]at y4
    obtain⟨rfl,rfl⟩:i=i1/\o=o1:=by rw[q1]at y1;simpa using y1
    obtain⟨rfl,rfl,rfl⟩:cc=PL/\e=e1/\rw=rw1:=by rw[q3]at y3;simpa using y3
    simp[A.wB,hr,hf,h7,bM,ay,hlen,q1,q2,q3,q4,mr,fU,y4,y6]
    refine aA (Zy8 q5 (hx s (cG hc)).1 (hx s (cG hc)).2) ?_
    rintro _ h3 n3 k3 rfl
    have kk:=hK.trans k3
    by_cases h0:kK s n=0
    ·rw[av h0]at hz
     simp(disch:=first|(simp;done)|omega|rfl) [hr,hf,h7,h0,hW,aG]
     exact⟨m,by omega,kk,k+1,by omega,by simp,by simpa using hz⟩
    ·rw[ak h0]at hz
     simp[hr,hf,h7,h0,hW,aG,hz]
     exact kk
  ·rintro _ r ⟨H,n1,W⟩ hr ⟨hW,hK,⟨rfl,hz⟩|⟨rfl,h2⟩⟩
   ·simp only at hW hK
    simp[hr,hz,aE,hW,hK]
   ·simp only at hW hK
    simp[hr,h2,aE,hW,hK]
def A.w13:=A.q Tryz.f13
def A.su:=A.ql A.w13 0 []
def A.b13:=(fun x0=>A.qb A.w13 [x0]) A.su
def A.k13:=@A.kk 13 16 [.tmp 2] A.b13 (by kernel_rfl) rfl
def fv(l:List Rat):Bool:=l.any A6
def Ye6{h:T O}{N:Nat}{v:V}{l:List Rat}{w:List Nat}(hs:Tx h N v l)(hl:l.length<100000)(xP:∀q∈l,(aS q).length<1000000000):A.C.call (.func 13 [] []) [v] ⟨h,N,w⟩=some (.int .i64 (if fv l=true then 4 else 0),⟨h,N,w⟩):=by
 apply Call.eq
 have hlen:=hs.len
 rw[aR,A.k13 (by simp)]
 simp[A.b13]
 refine bL [(2,15)] (fun e r st=>st=⟨h,N,[]⟩/\((e=.exit 0/\fv l=false)\/(e=.ret/\fv l=true/\r.get 2=some (.int .i64 4)))) (fun m r st=>st=⟨h,N,[]⟩/\∃k,k+m=l.length/\r.get 3=some (.int .i64 k)/\fv l=fv (l.drop k)) l.length ?_ ?_ ?_
 ·exact⟨rfl,0,by omega,by simp,by simp⟩
 ·rintro m r _ hr hf ⟨rfl,k,hk,h7,hz⟩
  rw[bl]
  cases m with
  |zero=>
   obtain rfl:k=l.length:=by omega
   rw[qW]at hz
   simp[fv]at hz
   simp[A.su,hr,hf,h7,hlen]
   simpa[fv]using hz
  |succ m=>
   have ay:k<l.length:=by omega
   obtain⟨q,hc⟩:=bk ay
   obtain⟨i,o,cc,e,rw,q1,q2,q3,q4⟩:=Sl.at hs (xV hc)
   rw[my hc]at hz
   have bM:(k:Int)<(l.length:Int):=by omega
   have SJ:=fun st=>Yfh (st:=st) (xP q (cG hc))
   by_cases h0:A6 q=true
   ·have e1:fv l=true:=by rw[hz];simp[fv,h0]
    rw[av h0]at SJ
    simp[A.su,hr,hf,h7,bM,ay,hlen,q1,q2,q3,q4,SJ,aG,e1]
   ·have e1:fv l=fv (l.drop (k+1)):=by rw[hz];simp[fv,h0]
    rw[ak h0]at SJ
    simp(disch:=first|(simp;done)|omega|rfl) [A.su,hr,hf,h7,bM,ay,hlen,q1,q2,q3,q4,SJ,aG]
    exact⟨m,by omega,k+1,by omega,by simp,e1⟩
 ·rintro _ r _ hr ⟨rfl,⟨rfl,hz⟩|⟨rfl,hz,h2⟩⟩
  ·simp[hr,hz]
  ·simp[hr,h2,hz]
def A.w89:=A.q Tryz.f89
def A.wC:=A.ql A.w89 0 []
def A.b89:=(fun x0=>A.qb A.w89 [x0]) A.wC
def A.k89:=@A.kk 89 21 [.tmp 4] A.b89 (by kernel_rfl) rfl
def A.b39:=A.q Tryz.f39
def A.k39:=@A.kk 39 11 [.tmp 4] A.b39 (by kernel_rfl) rfl
def Yqm{h:T O}{N:Nat}{v f:V}{l:List aQ}(P:aQ->Int)(hs:Sl h N v (strs l))(hl:l.length<100000)(hf:∀s∈l,∀h' n',ab h N h' n'->mJ A.C f [.str s] h' n' (fun u _ _=>u=.int .i64 (P s))):Fn A.C 89 [v,f] h N (fun u _ _=>u=.int .i64 (cF (l.map P))):=by
 intro w
 have hlen:=hs.len
 rw[w_]at hlen
 rw[aR,A.k89 (by simp)]
 simp[A.b89,hlen]
 refine bL [(4,4),(6,7),(10,20)] (fun e r st=>ax N st.w=[]/\ab h N st.h st.n/\((e=.exit 0/\cF (l.map P)=0)\/(e=.ret/\r.get 4=some (.int .i64 (cF (l.map P)))))) (fun m r st=>ax N st.w=[]/\ab h N st.h st.n/\∃k,k+m=l.length/\r.get 10=some (.int .i64 k)/\cF (l.map P)=cF ((l.drop k).map P)) l.length ?_ ?_ ?_
 ·exact⟨by simp,ab.refl,0,by omega,by simp,by simp⟩
 ·rintro m r ⟨H,n1,W⟩ hr c9 ⟨hW,hK,k,hk,h7,hz⟩
  simp only at hW hK
  rw[bl]
  cases m with
  |zero=>
   obtain rfl:k=l.length:=by omega
   rw[qW,yY,cF]at hz
   simp[A.wC,hr,c9,h7,hz,hW,hK]
  |succ m=>
   have ay:k<l.length:=by omega
   obtain⟨s,hc⟩:=bk ay
   obtain⟨i,o,cc,e,rw,q1,q2,q3,q4⟩:=(hs.ae hK).at (FV hc)
   rw[my hc,py,cF]at hz
   have bM:(k:Int)<(l.length:Int):=by omega
   simp[A.wC,hr,c9,h7,bM,ay,hlen,q1,q2,q3,q4]
   refine CL (hf s (cG hc) _ _ hK) ?_
   rintro _ h3 n3 k3 rfl
   have kk:=hK.trans k3
   by_cases h0:P s=0
   ·rw[av h0]at hz
    simp(disch:=first|(simp;done)|omega|rfl) [hr,c9,h7,h0,hW,aG]
    exact⟨m,by omega,kk,k+1,by omega,by simp,by simpa using hz⟩
   ·rw[ak h0]at hz
    simp[hr,c9,h7,h0,hW,aG,hz]
    exact kk
 ·rintro _ r ⟨H,n1,W⟩ hr ⟨hW,hK,⟨rfl,hz⟩|⟨rfl,h2⟩⟩
  ·simp only at hW hK
   simp[hr,hz,aE,hW,hK]
  ·simp only at hW hK
   simp[hr,h2,aE,hW,hK]
def Ztb{h:T O}{N:Nat}{v:V}{l:List aQ}{n:Nat}(hs:Sl h N v (strs l))(hl:l.length<100000)(xP:∀s∈l,s.length<=100000):Fn A.C 39 [v,.int .i64 n] h N (fun u _ _=>u=.int .i64 (kK l n)):=by
 intro w
 have hlen:=hs.len
 rw[w_]at hlen
 rw[aR,A.k39 (by simp)]
 by_cases c:l.length=n
 ·subst c
  simp[A.b39,hlen,aG]
  refine aA (Yqm (fun s=>((cf s:Nat):Int)) hs hl fun s hs h' n' _=>Ylc (xP s hs)) ?_
  rintro _ H2 n2 k2 rfl
  simp[aE,kK]
  exact k2
 ·have c':¬(l.length:Int)=(n:Int):=by omega
  simp[A.b39,hlen,c',kK,c,aE,aG]
  exact ab.refl
set_option maxHeartbeats 1000000
def A.b171:=A.q Tryz.f171
def A.k171:=@A.kk 171 10 [.cell 2 (some 2)] A.b171 (by kernel_rfl) rfl
def A.Pg:=A.q Tryz.f112
def A.sD:=A.ql A.Pg 0 []
def A.b112:=(fun x0=>A.qb A.Pg [x0]) A.sD
def A.k112:=@A.kk 112 47 [.tmp 4] A.b112 (by kernel_rfl) rfl
def Yig{h:T O}{N:Nat}{v:V}{l:List (List aQ)}{l0:List aQ}(hs:iV h N v l)(h0:l[0]?=some l0):Fn A.C 171 [v] h N (fun u _ _=>u=.agg [.int .i64 l.length,.int .i64 l0.length]):=by
 intro w
 have hlen:=hs.len
 have mr:0<l.length:=iY h0
 have fU:0<(l.length:Int):=by omega
 obtain⟨i0,o0,VU,e0,DV,u0,z1,z2,z3,z4,z5⟩:=hs.at h0
 have z6:=z5.len
 rw[w_]at z6
 rw[kv]at z4
 have d1:¬i0=N:=by omega
 have d2:¬N=i0:=by omega
 rw[aR,A.k171 (by simp)]
 simp[A.b171,hlen,mr,fU,z1,z2,z3,z4,z6,d1,d2,ad,bC,aO,aF,aE]
 exact(ab.refl.new _).set (aM _)
def Yi3{h:T O}{N:Nat}{v:V}{l:List (List aQ)}{a b:Nat}(hs:iV h N v l)(hl:l.length<100000)(hx:∀x∈l,x.length<100000/\∀s∈x,s.length<=100000):Fn A.C 112 [v,.agg [.int .i64 a,.int .i64 b]] h N (fun u _ _=>u=.int .i64 (lS l a b)):=by
 intro w
 have hlen:=hs.len
 rw[aR,A.k112 (by simp)]
 by_cases c0:l.length=0
 ·have c0':(l.length:Int)=0:=by omega
  simp[A.b112,hlen,c0,c0',lS,aE,aG]
  exact ab.refl.new _
 have c0':¬(l.length:Int)=0:=by omega
 have mr:0<l.length:=by omega
 have fU:0<(l.length:Int):=by omega
 obtain⟨l0,gb⟩:=bk mr
 obtain⟨i0,o0,VU,e0,DV,u0,z1,z2,z3,z4,z5⟩:=hs.at gb
 have z6:=z5.len
 rw[w_]at z6
 rw[kv]at z4
 obtain⟨n,hn⟩:∃n,n=l0.length:=⟨_,rfl⟩
 have en:dS l=n:=by simp[dS,gb,hn]
 rw[<-hn]at z6
 have vR:n<100000:=by have:=(hx l0 (cG gb)).1;omega
 have d1:¬i0=N:=by omega
 have d2:¬N=i0:=by omega
 by_cases c1:n=0
 ·have c1':(n:Int)=0:=by omega
  simp[A.b112,hlen,c0,c0',mr,fU,z1,z2,z3,z4,z6,d1,d2,c1,c1',lS,en,aE,aG]
  exact ab.refl.new _
 have c1':¬(n:Int)=0:=by omega
 have e1:lS l a b=if a<l.length\/b<n then 5 else cF (l.map fun x=>kK x n):=by simp[lS,en,c0,c1]
 rw[e1]
 simp[A.b112,hlen,c0,c0',mr,fU,z1,z2,z3,z4,z6,d1,d2,c1,c1',aG]
 generalize hH:h.set N (.cells [.int .i64 a,.int .i64 b] 137 true)=H
 have k1:ab h N H (N+1):=by rw[<-hH];exact ab.refl.new _
 have g1:H.get N=some (.cells [.int .i64 a,.int .i64 b] 137 true):=by rw[<-hH];simp
 clear hH
 refine aA (Yig (hs.ae k1) gb) ?_
 rintro _ H2 n2 k2 rfl
 rw[<-hn]
 have kl2:=k2.le
 have g2:=(k2.get N (by omega)).trans g1
 have d3:¬N=n2:=by omega
 have d4:¬n2=N:=by omega
 have kz:ab h N ((H2.set n2 (.cells [.int .i64 0,.int .i64 0] 137 true)).set n2 (.cells [.int .i64 l.length,.int .i64 n] 137 true)) (n2+1):=((k1.trans k2).new _).set (by omega)
 by_cases c2:a<l.length
 ·have c2':(a:Int)<(l.length:Int):=by omega
  simp[hlen,g2,d3,d4,ad,bC,aO,aF,c2,c2',aE,aG]
  exact⟨by omega,kz⟩
 have c2':¬(a:Int)<(l.length:Int):=by omega
 by_cases c3:b<n
 ·have c3':(b:Int)<(n:Int):=by omega
  simp[hlen,g2,d3,d4,ad,bC,aO,aF,c2,c2',c3,c3',aE,aG]
  exact⟨by omega,kz⟩
 have c3':¬(b:Int)<(n:Int):=by omega
 simp[hlen,g2,d3,d4,ad,bC,aO,aF,c2,c2',c3,c3',aE,aG]
 generalize hH3:(H2.set n2 (.cells [.int .i64 0,.int .i64 0] 137 true)).set n2 (.cells [.int .i64 l.length,.int .i64 n] 137 true)=H3 at*
 have g3:H3.get n2=some (.cells [.int .i64 l.length,.int .i64 n] 137 true):=by rw[<-hH3];simp
 clear hH3
 have kd:ab H3 (n2+1) H3 (n2+1):=ab.refl
 refine bL [(4,4),(7,8),(35,46)] (fun e r st=>ax N st.w=[]/\ab h N st.h st.n/\((e=.exit 0/\cF (l.map (fun x=>kK x n))=0)\/(e=.ret/\r.get 4=some (.int .i64 (cF (l.map (fun x=>kK x n))))))) (fun m r st=>ax N st.w=[]/\ab h N st.h st.n/\(n2<st.n/\st.h.get n2=H3.get n2)/\∃k,k+m=l.length/\r.get 35=some (.int .i64 k)/\cF (l.map (fun x=>kK x n))=cF ((l.drop k).map (fun x=>kK x n))) l.length ?_ ?_ ?_
 ·exact⟨by simp;omega,kz,⟨by simp,rfl⟩,0,by omega,by simp,by simp⟩
 ·rintro m r ⟨H,n1,W⟩ hr c9 ⟨hW,hK,⟨dj,hG⟩,k,hk,h7,hz⟩
  simp only at hW hK dj hG
  rw[bl]
  cases m with
  |zero=>
   obtain rfl:k=l.length:=by omega
   rw[qW,yY,cF]at hz
   simp[A.sD,hr,c9,h7,hz,hW,hK]
  |succ m=>
   have ay:k<l.length:=by omega
   obtain⟨s,hc⟩:=bk ay
   obtain⟨i,o,cc,e,rw,u,q1,q2,q3,q4,q5⟩:=(hs.ae hK).at hc
   have g4:=hG.trans g3
   rw[my hc,py,cF]at hz
   have bM:(k:Int)<(l.length:Int):=by omega
   simp[A.sD,hr,c9,h7,bM,ay,hlen,q1,q2,q3,q4,g4,dj]
   refine aA (Ztb q5 (hx s (cG hc)).1 (hx s (cG hc)).2) ?_
   rintro _ h3 n3 k3 rfl
   have kk:=hK.trans k3
   by_cases h0:kK s n=0
   ·rw[av h0]at hz
    simp(disch:=first|(simp;done)|omega|rfl) [hr,c9,h7,h0,hW,aG]
    exact⟨m,by omega,kk,⟨by have:=k3.le;omega,(k3.get n2 dj).trans hG⟩,k+1,by omega,by simp,by simpa using hz⟩
   ·rw[ak h0]at hz
    simp[hr,c9,h7,h0,hW,aG,hz]
    exact kk
 ·rintro _ r ⟨H,n1,W⟩ hr ⟨hW,hK,⟨rfl,hz⟩|⟨rfl,h2⟩⟩
  ·simp only at hW hK
   simp[hr,hz,aE,hW,hK]
  ·simp only at hW hK
   simp[hr,h2,aE,hW,hK]
def A.w35:=A.q Tryz.f35
def A.wD:=A.ql A.w35 0 []
def A.b35:=(fun x0=>A.qb A.w35 [x0]) A.wD
def A.k35:=@A.kk 35 18 [.tmp 2] A.b35 (by kernel_rfl) rfl
def Ylk{h:T O}{N:Nat}{v:V}{fs:List V}{l:List Int}(hs:Sl h N v fs)(Ph:fs.length=l.length)(hl:l.length<1000)(hf:∀(j:Nat) (f:V) (e:Int),fs[j]?=some f->l[j]?=some e->(∀(i:Nat) (x:Int),i<j->l[i]?=some x->x=0)->∀h' n',ab h N h' n'->mJ A.C f [] h' n' (fun u _ _=>u=.int .i64 e)):Fn A.C 35 [v] h N (fun u _ _=>u=.int .i64 (cF l)):=by
 intro w
 have hlen:=hs.len
 rw[Ph]at hlen
 rw[aR,A.k35 (by simp)]
 simp[A.b35,hlen]
 refine bL [(2,2),(4,5),(8,17)] (fun e r st=>ax N st.w=[]/\ab h N st.h st.n/\((e=.exit 0/\cF l=0)\/(e=.ret/\r.get 2=some (.int .i64 (cF l))))) (fun m r st=>ax N st.w=[]/\ab h N st.h st.n/\∃k,k+m=l.length/\r.get 8=some (.int .i64 k)/\cF l=cF (l.drop k)/\∀(i:Nat) (x:Int),i<k->l[i]?=some x->x=0) l.length ?_ ?_ ?_
 ·exact⟨by simp,ab.refl,0,by omega,by simp,by simp,fun i x hi=>by omega⟩
 ·rintro m r ⟨H,n1,W⟩ hr c9 ⟨hW,hK,k,hk,h7,hz,KG⟩
  simp only at hW hK
  rw[bl]
  cases m with
  |zero=>
   obtain rfl:k=l.length:=by omega
   rw[qW,cF]at hz
   simp[A.wD,hr,c9,h7,hz,hW,hK]
  |succ m=>
   have ay:k<l.length:=by omega
   obtain⟨s,hc⟩:=bk ay
   obtain⟨f,hfk⟩:=bk (show k<fs.length by omega)
   obtain⟨i,o,cc,e,rw,q1,q2,q3,q4⟩:=(hs.ae hK).at hfk
   rw[my hc,cF]at hz
   have bM:(k:Int)<(l.length:Int):=by omega
   simp[A.wD,hr,c9,h7,bM,ay,hlen,q1,q2,q3,q4]
   refine CL (hf k f s hfk hc KG _ _ hK) ?_
   rintro _ h3 n3 k3 rfl
   have kk:=hK.trans k3
   by_cases h0:s=0
   ·rw[av h0]at hz
    simp(disch:=first|(simp;done)|omega|rfl) [hr,c9,h7,h0,hW,aG]
    refine⟨m,by omega,kk,k+1,by omega,by simp,hz,fun i x hi hx=>?_⟩
    by_cases Lu:i<k
    ·exact KG i x Lu hx
    ·obtain rfl:i=k:=by omega
     rw[hc]at hx
     rw[<-h0]
     simpa using hx.symm
   ·rw[ak h0]at hz
    simp[hr,c9,h7,h0,hW,aG,hz]
    exact kk
 ·rintro _ r ⟨H,n1,W⟩ hr ⟨hW,hK,⟨rfl,hz⟩|⟨rfl,h2⟩⟩
  ·simp only at hW hK
   simp[hr,hz,aE,hW,hK]
  ·simp only at hW hK
   simp[hr,h2,aE,hW,hK]
end
end Go.Mx
