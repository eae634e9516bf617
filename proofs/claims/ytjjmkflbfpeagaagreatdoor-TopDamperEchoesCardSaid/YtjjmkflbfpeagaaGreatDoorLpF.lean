/-loop-/
import Derived.Test.YtjjmkflbfpeagaaGreatDoorLpC
set_option linter.all false
namespace Go.Mx
noncomputable section
open Go Go.Proofs
variable {N:Nat} {h:T O}
set_option maxRecDepth 1000000
def A.Ij:=A.q Tryz.f130
def A.oV:=A.ql A.Ij 0 []
def A.b130:=(fun x0=>A.qb A.Ij [x0]) A.oV
def A.k130:=@A.kk 130 19 [.tmp 4] A.b130 (by kernel_rfl) rfl
def Yk6{v f:V}(l:List (List V))(p:Nat->Bool)(hs:Sn 4 h N v l)(hl:l.length<1152921504606846976)(hf:∀(j:Nat) (x:List V),l[j]?=some x->∀h' n',ad h N h' n'->F8 A.C f [.agg x] h' n' (fun u _ _=>u=.bool (p j))):Fn A.C 130 [v,f] h N (fun u _ _=>u=.int .i64 (vg p 0 l.length)):=by
 intro w
 have hlen:=hs.len
 rw[aQ,A.k130 (by simp)]
 simp[A.b130,hlen]
 refine cX [(4,5),(8,18)] (fun e r st=>aB N st.w=[]/\ad h N st.h st.n/\((e=.exit 0/\vg p 0 l.length= -1)\/(e=.ret/\r.get 4=some (.int .i64 (vg p 0 l.length))))) (fun m r st=>aB N st.w=[]/\ad h N st.h st.n/\∃k,k+m=l.length/\r.get 8=some (.int .i64 k)/\vg p 0 l.length=vg p k m) l.length ?_ ?_ ?_
 ·exact⟨by simp,ad.refl,0,by omega,by simp,rfl⟩
 ·rintro m r ⟨H,n1,W⟩ hr jU ⟨hW,hK,k,hk,h8,hz⟩
  simp only at hW hK
  rw[cm]
  cases m with
  |zero=>
   have:k=l.length:=by omega
   subst this
   simp only[vg]at hz
   simp[A.oV,hr,jU,h8,hW,hK,hz]
  |succ m=>
   have aO:k<l.length:=by omega
   obtain⟨c,hc⟩:=eA aO
   obtain⟨i,o,cc,e,rw,q1,q2,q3,q4⟩:=hs.at hc
   have q3:=(hK.get _ q2).trans q3
   have ew:(k:Int)<(l.length:Int):=by omega
   simp only[vg]at hz
   simp[A.oV,hr,h8,ew,hlen,q1,q3,q4]
   refine Rk (hf k c hc _ _ hK) ?_
   rintro v h2 n2 k2 rfl
   have kk:=hK.trans k2
   cases hp:p k
   ·rw[hp]at hz
    simp(disch:=first|(simp;done)|omega|rfl) [jU,h8,hW,kk]
    exact⟨m,by omega,k+1,by omega,by simp,by simpa using hz⟩
   ·rw[hp]at hz
    simp[jU,hW,kk]
    simpa using hz.symm
 ·rintro e r ⟨H,n1,W⟩ hr ⟨hW,hK,⟨rfl,hz⟩|⟨rfl,h4⟩⟩
  ·simp only at hW hK
   simp[hz,aA,hW,hK]
  ·simp only at hW hK
   simp[h4,aA,hW,hK]
def A.b72:=A.q Tryz.f72
def A.k72:=@A.kk 72 9 [.tmp 4] A.b72 (by kernel_rfl) rfl
def A.b29:=A.q Tryz.f29
def A.k29:=@A.kk 29 8 [.tmp 2,.tmp 3] A.b29 (by kernel_rfl) rfl
def A.b7:=A.q Tryz.f7
def A.k7:=@A.kk 7 15 [.tmp 2,.tmp 3] A.b7 (by kernel_rfl) rfl
def Yg3{v f:V}(l:List (List V))(p:Nat->Bool)(hs:Sn 4 h N v l)(hl:l.length<1152921504606846976)(hf:∀(j:Nat) (x:List V),l[j]?=some x->∀h' n',ad h N h' n'->F8 A.C f [.agg x] h' n' (fun u _ _=>u=.bool (p j))):Fn A.C 72 [v,f] h N (fun u _ _=>u=.bool (decide (0<=vg p 0 l.length))):=by
 intro w
 rw[aQ,A.k72 (by simp)]
 simp[A.b72]
 refine au (Yk6 l p hs hl hf) ?_
 rintro v h2 n2 k2 rfl
 simp[aA,k2]
def Zy1{l:List Rat}:decide (0<=vg (fun j=>vZ (l[j]?.getD 0)) 0 l.length)=vd l:=by
 rw[Bool.eq_iff_iff,decide_eq_true_eq,XG]
 unfold vd
 rw[List.any_eq_true]
 constructor
 ·rintro⟨j,_,h2,h3⟩
  obtain⟨q,hq⟩:=eA (l:=l) (k:=j) (by omega)
  rw[hq]at h3
  exact⟨q,fW hq,h3⟩
 ·rintro⟨q,hq,h3⟩
  obtain⟨j,hj⟩:=F9 hq
  exact⟨j,tN _,by have:=uZ hj;omega,by rw[hj];exact h3⟩
def Xf{h:T O}{N:Nat}{u:V}{l:List Rat}{k:Nat}(hu:we h N u l)(hP:jB h N)(hl:l.length<1000000000)(hq:∀q∈l,Qb k q)(hk:k<=400000000):Fn A.C 29 [u] h N (fun x h' n'=>(vd l=true/\x=.aY [.aa,.int .i64 4])\/(vd l=false/\∃v,x=.aY [v,.int .i64 0]/\MP h' n' v l)):=by
 intro w
 obtain⟨cs,s1,s2,s3⟩:=id hu
 have key:=Yg3 (f:=.func 73 [] []) cs (fun j=>vZ (l[j]?.getD 0)) s1 (by omega) (fun j x hx h' n' jE=>by
  obtain⟨q,Rl⟩:=eA (l:=l) (k:=j) (by have:=uZ hx;omega)
  obtain⟨c,g1,g2⟩:=s3 j q Rl
  rw[hx]at g1
  obtain rfl:x=c:=by simpa using g1
  simp only[Rl,BH]
  exact XH (g2.ae jE).fc (hP.ae jE) (hq q (fW Rl)) (by omega))
 rw[s2,Zy1]at key
 rw[aQ,A.k29 (by simp)]
 simp(disch:=first|(simp;done)|omega|rfl) [-getElem?_pos,A.b29]
 refine au key ?_
 rintro _ h2 n2 k2 rfl
 cases hb:vd l with
 |true=>
  simp(disch:=first|(simp;done)|omega|rfl) [-getElem?_pos,aA]
  exact k2
 |false=>
  simp(disch:=first|(simp;done)|omega|rfl) [-getElem?_pos,]
  refine au (Yet (k0:=k) (hu.ae k2) (hP.ae k2) hl hq hk) ?_
  rintro v h3 n3 k3 t1
  simp(disch:=first|(simp;done)|omega|rfl) [-getElem?_pos,aA]
  exact⟨k2.trans k3,t1⟩
def MM{g l p:Rat}{k d:Nat}(bg:Qb k g)(bl:Qb k l)(bp:Qb k p)(hk:1<=k):∀q∈iR g l p d,Qb (3*k+2) q:=by
 intro q hm
 have b0:Qb k 0:=(Qb.int (z:=0) (k:=1) (by decide) (by decide)).mono hk
 have b1:Qb k 1:=(Qb.int (z:=1) (k:=1) (by decide) (by decide)).mono hk
 unfold iR at hm
 rcases BE hm with hm|rfl
 ·rcases BE hm with hm|rfl
  ·rcases BE hm with hm|rfl
   ·rcases BE hm with hm|rfl
    ·obtain⟨_,_,rfl⟩:=tV.1 hm
     exact b0.mono (by omega)
    ·exact b1.mono (by omega)
   ·exact bl.neg.mono (by omega)
  ·have bz:Qb k (if d=0 then -l else 0):=by
    split
    ·exact bl.neg
    ·exact b0
   exact((bz.add bg).add bp).mono (by omega)
 ·exact bp.neg.mono (by omega)
def Zzj{g l p:aU}{d:Int}{n:Nat}(hP:jB h N)(hg:g.length<=n)(hl:l.length<=n)(hp:p.length<=n)(hn:n<=12000):Fn A.C 7 [.agg [.str g,.str l,.str p,.int .i64 d]] h N (fun x h' n'=>(kj g l p d≠0/\x=.aY [.aa,.int .i64 (kj g l p d)])\/(kj g l p d=0/\((vd (iR (bu g) (bu l) (bu p) d.toNat)=true/\x=.aY [.aa,.int .i64 4])\/(vd (iR (bu g) (bu l) (bu p) d.toNat)=false/\∃v,x=.aY [v,.int .i64 0]/\MP h' n' v (iR (bu g) (bu l) (bu p) d.toNat))))):=by
 intro w
 rw[aQ,A.k7 (by simp)]
 have kB:=aG (ad.refl (h:=h) (n:=N)) (.cells [.str g,.str l,.str p,.int .i64 d] 24 true)
 have b0:(h.set N (.cells [.str g,.str l,.str p,.int .i64 d] 24 true)).get N=some (.cells [.str g,.str l,.str p,.int .i64 d] 24 true):=by simp
 simp(disch:=first|(simp;done)|omega|rfl) [-getElem?_pos,A.b7,aL,aM]
 generalize h.set N (.cells [.str g,.str l,.str p,.int .i64 d] 24 true)=hB at*
 refine au (WV hg hl hp (by omega)) ?_
 rintro _ h1 n1 k1 rfl
 have tU:=k1.le
 have f1:=(k1.get N (by omega)).trans b0
 have e1:N<n1:=by omega
 by_cases c:kj g l p d=0
 ·have hc:=c
  unfold kj at hc
  split at hc
  ·rename_i C3
   obtain⟨n0,rj⟩:=CT C3
   split at hc
   ·omega
   ·obtain⟨mw,dd⟩:=CT hc
    have kM:¬(d<0\/6<d):=fun hx=>by rw[aJ hx]at dd;omega
    obtain⟨cg,_⟩:=xb n0
    obtain⟨cl,_⟩:=xb rj
    obtain⟨cp,_⟩:=xb mw
    have qg:=F0 cg hg
    have ql:=F0 cl hl
    have qp:=F0 cp hp
    have eg:=(q8 cg).1
    have el:=(q8 cl).1
    have ep:=(q8 cp).1
    obtain⟨dn,rfl⟩:∃dn:Nat,d=(dn:Int):=⟨d.toNat,by omega⟩
    rw[Int.toNat_natCast]
    generalize bu g=qg' at*
    generalize bu l=ql' at*
    generalize bu p=qp' at*
    subst eg el ep
    simp(disch:=first|(simp;done)|omega|rfl) [-getElem?_pos,c,aW,f1,e1,aL,aM]
    refine au (Ym7 qg ql qp (by omega) (by omega)) ?_
    rintro v2 h2 n2 k2 hv
    have qc:∀q∈iR qg' ql' qp' dn,Qb (3*(4*n+4)+2) q:=MM qg ql qp (by omega)
    simp(disch:=first|(simp;done)|omega|rfl) [-getElem?_pos,]
    refine au (Xf (k:=3*(4*n+4)+2) hv.1 (((hP.ae kB).ae k1).ae k2) (by simp[iR];omega) qc (by omega)) ?_
    rintro v3 h3 n3 k3 Ga
    rcases Ga with⟨a1,rfl⟩|⟨a1,v4,rfl,t1⟩
    ·simp(disch:=first|(simp;done)|omega|rfl) [-getElem?_pos,aA,a1]
     exact((kB.trans k1).trans k2).trans k3
    ·simp(disch:=first|(simp;done)|omega|rfl) [-getElem?_pos,aA,a1]
     exact⟨((kB.trans k1).trans k2).trans k3,t1⟩
  ·rename_i C3;exact absurd hc C3
 ·simp(disch:=first|(simp;done)|omega|rfl) [-getElem?_pos,c,aW,aA]
  exact kB.trans k1
def MK{g l p:Rat}{d:Nat}:(iR g l p d).length=d+3/\pg (iR g l p d) (d+2)=1:=by
 have e:(iR g l p d).length=d+3:=by simp[iR]
 refine⟨e,?_⟩
 unfold pg iR
 rw[eB (by omega),eB (by omega),eB (by omega),nF (by simp)]
 rfl
def MJ(g l p:Rat)(d:Nat):Bool:=Zip (d+3) (iR g l p d)
def Xd{g l p:aU}{d:Int}(h:kj g l p d=0):aN g=0/\aN l=0/\aN p=0/\∃dn:Nat,d=(dn:Int)/\dn<=6/\¬bu g<0/\¬bu l<0/\¬1<bu l/\¬bu p<0:=by
 unfold kj at h
 split at h
 ·rename_i C3
  obtain⟨n0,n1⟩:=CT C3
  split at h
  ·omega
  ·rename_i zW
   obtain⟨n2,dd⟩:=CT h
   have kM:¬(d<0\/6<d):=fun hx=>by rw[aJ hx]at dd;omega
   exact⟨(xb n0).1,(xb n1).1,(xb n2).1,d.toNat,by omega,by omega,(xb n0).2,(xb n1).2,zW,(xb n2).2⟩
 ·rename_i C3;exact absurd h C3
def XI{q:Rat}{st:St}(hl:(av q).length<1000000000):A.C.call (.func 15 [] []) [.str (av q)] st=some (.str (av (dL q)),st):=by
 have hs:=fun st=>HR (q:=q) (st:=st)
 apply Call.eq
 rw[aQ,A.k15 (by simp)]
 by_cases hz:q<0
 ·have XJ:=hz
  rw[show q<0↔q.num<0 from by rw[Rat.lt_iff];simp]at XJ
  have h1:=Ac.2 hz
  have e1:av q=45::QB q:=by rw[wj,aJ XJ]
  have e2:av (dL q)=QB q:=by
   have:dL q= -q:=aJ hz
   rw[this,wj,aq (by rw[Rat.neg_num];omega),XK]
  rw[e2]
  rw[e1]at hs hl
  have a3:∀st:St,oW st (some (.str (45::QB q))) (some (some (.int .i64 1))) (some none)=some (.str (QB q),st):=fun st=>by rw[Ah (by omega) (by simp only[bf];omega)];rfl
  rw[e1]
  simp(disch:=first|(simp;done)|omega|rfl) [-getElem?_pos,A.b15,hs,h1,az,a3]
 ·have h1:¬cY q.num<0:=fun hc=>hz (Ac.1 hc)
  have e2:dL q=q:=aq hz
  rw[e2]
  simp(disch:=first|(simp;done)|omega|rfl) [-getElem?_pos,A.b15,hs,h1]
variable {l:List aU}
def A.b31:=A.q Tryz.f31
def A.k31:=@A.kk 31 27 [.tmp 2] A.b31 (by kernel_rfl) rfl
def A.XL:=A.q Tryz.f76
def A.sq:=A.ql A.XL 0 []
def A.b76:=(fun x0=>A.qb A.XL [x0]) A.sq
def A.k76:=@A.kk 76 18 [.tmp 2] A.b76 (by kernel_rfl) rfl
def qw(l:List aU):Int:=cN (l.map fun s=>((aN s:Nat):Int))
def rf(l:List aU):Int:=if l.length=0 then 12 else if 13<l.length then 5 else if qw l=0 then (if l[l.length-1]?=some [48] then 6 else 0) else qw l
def XM{l:List aU}(h:qw l=0):∀s∈l,aN s=0:=by
 induction l with
 |nil=>intro s hs;simp at hs
 |cons a l ih=>
  unfold qw at h ih
  rw[km,cN]at h
  by_cases c:((aN a:Nat):Int)=0
  ·rw[aJ c]at h
   intro s hs
   rcases jy.1 hs with rfl|hs
   ·omega
   ·exact ih h s hs
  ·rw[aq c]at h;omega
def Rm{h:T O}{N:Nat}{v:V}(hs:Sl h N v (jV l))(hl:l.length<100000)(ra:∀s∈l,s.length<=100000):Fn A.C 76 [v] h N (fun u _ _=>u=.int .i64 (qw l)):=by
 intro w
 have hlen:=hs.len
 rw[F4]at hlen
 unfold qw
 rw[aQ,A.k76 (by simp)]
 simp(disch:=first|(simp;done)|omega|rfl) [-getElem?_pos,A.b76,hlen]
 refine cX [(2,2),(4,5),(8,17)] (fun e r st=>aB N st.w=[]/\ad h N st.h st.n/\((e=.exit 0/\cN (l.map (fun s=>((aN s:Nat):Int)))=0)\/(e=.ret/\r.get 2=some (.int .i64 (cN (l.map (fun s=>((aN s:Nat):Int)))))))) (fun m r st=>aB N st.w=[]/\ad h N st.h st.n/\∃k,k+m=l.length/\r.get 8=some (.int .i64 k)/\cN (l.map (fun s=>((aN s:Nat):Int)))=cN ((l.drop k).map (fun s=>((aN s:Nat):Int)))) l.length ?_ ?_ ?_
 ·exact⟨by simp,ad.refl,0,by omega,by simp,by simp⟩
 ·rintro m r ⟨H,n1,W⟩ hr jU ⟨hW,hK,k,hk,h7,hz⟩
  simp only at hW hK
  rw[cm]
  cases m with
  |zero=>
   obtain rfl:k=l.length:=by omega
   rw[vS,rV,cN]at hz
   simp(disch:=first|(simp;done)|omega|rfl) [-getElem?_pos,A.sq,hr,jU,h7,hz,hW,hK]
  |succ m=>
   have aO:k<l.length:=by omega
   obtain⟨s,hc⟩:=eA aO
   obtain⟨i,o,cc,e,rw,q1,q2,q3,q4⟩:=(hs.ae hK).at (HV hc)
   rw[qm hc,km,cN]at hz
   have ew:(k:Int)<(l.length:Int):=by omega
   simp(disch:=first|(simp;done)|omega|rfl) [-getElem?_pos,A.sq,hr,jU,h7,ew,aO,hlen,q1,q2,q3,q4]
   refine au (Qx (ra s (fW hc))) ?_
   rintro _ h3 n3 k3 rfl
   have kk:=hK.trans k3
   by_cases h0:aN s=0
   ·rw[aJ (by omega)]at hz
    simp(disch:=first|(simp;done)|omega|rfl) [-getElem?_pos,hr,jU,h7,h0,hW,aW]
    exact⟨m,by omega,kk,k+1,by omega,by simp,by simpa using hz⟩
   ·rw[aq (by omega)]at hz
    simp(disch:=first|(simp;done)|omega|rfl) [-getElem?_pos,hr,jU,h7,h0,hW,aW,hz]
    exact kk
 ·rintro _ r ⟨H,n1,W⟩ hr ⟨hW,hK,⟨rfl,hz⟩|⟨rfl,h2⟩⟩
  ·simp only at hW hK
   simp(disch:=first|(simp;done)|omega|rfl) [-getElem?_pos,hr,hz,aA,hW,hK]
  ·simp only at hW hK
   simp(disch:=first|(simp;done)|omega|rfl) [-getElem?_pos,hr,h2,aA,hW,hK]
def Ym5{h:T O}{N:Nat}{v:V}(hs:Sl h N v (jV l))(hl:l.length<100000)(ra:∀s∈l,s.length<=100000):Fn A.C 31 [v] h N (fun u _ _=>u=.int .i64 (rf l)):=by
 intro w
 have hlen:=hs.len
 rw[F4]at hlen
 rw[aQ,A.k31 (by simp)]
 by_cases c0:l.length=0
 ·have c0':(l.length:Int)=0:=by omega
  have c1':¬13<(l.length:Int):=by omega
  have e1:rf l=12:=by simp[rf,c0]
  simp(disch:=first|(simp;done)|omega|rfl) [-getElem?_pos,A.b31,hlen,c0',xa,aW]
  refine au (Rm hs hl ra) ?_
  rintro _ h1 n1 k1 rfl
  have hi:n1<n1+1:=by omega
  simp(disch:=first|(simp;done)|omega|rfl) [-getElem?_pos,ag,cD.cG,CS hi,cN,aW,aA,e1]
  exact k1.trans (aG ad.refl _)
 have c0':¬(l.length:Int)=0:=by omega
 have ne:¬l=[]:=fun h=>c0 (by rw[h];rfl)
 by_cases c1:13<l.length
 ·have c1':13<(l.length:Int):=by omega
  have e1:rf l=5:=by simp[rf,c0,c1]
  simp(disch:=first|(simp;done)|omega|rfl) [-getElem?_pos,A.b31,hlen,c0',ne,c1',xa,aW]
  refine au (Rm hs hl ra) ?_
  rintro _ h1 n1 k1 rfl
  have hi:n1<n1+1:=by omega
  simp(disch:=first|(simp;done)|omega|rfl) [-getElem?_pos,ag,cD.cG,CS hi,cN,aW,aA,e1]
  exact k1.trans (aG ad.refl _)
 have c1':¬13<(l.length:Int):=by omega
 simp(disch:=first|(simp;done)|omega|rfl) [-getElem?_pos,A.b31,hlen,c0',ne,c1',xa,aW]
 refine au (Rm hs hl ra) ?_
 rintro _ h1 n1 k1 rfl
 have hi:n1<n1+1:=by omega
 have kD:ad h N (h1.set n1 (.cells [.int .i64 0,.int .i64 0,.int .i64 (qw l)] 29 true)) (n1+1):=k1.trans (aG ad.refl _)
 obtain⟨s,iU⟩:=eA (l:=l) (k:=l.length-1) (by omega)
 obtain⟨i,o,cc,e,rw,q1,q2,q3,q4⟩:=(hs.ae kD).at (HV iU)
 have d1:((l.length:Int)-1).toNat=l.length-1:=by omega
 have d2:(0:Int)<=(l.length:Int)-1:=by omega
 have d3:(l.length:Int)-1<(l.length:Int):=by omega
 by_cases ca:qw l=0
 ·have e1:rf l=if s=[48] then 6 else 0:=by simp[rf,c0,c1,ca,iU]
  rw[ca]at kD q3
  by_cases cz:s=[48]
  ·rw[e1,aJ cz]
   simp(disch:=first|(simp;done)|omega|rfl) [-getElem?_pos,ag,cD.cG,CS hi,cN,aW,ca,ne,hlen,q1,q2,q3,q4,d1,d2,d3,cz,xa,aA]
   exact kD
  ·rw[e1,aq cz]
   simp(disch:=first|(simp;done)|omega|rfl) [-getElem?_pos,ag,cD.cG,CS hi,cN,aW,ca,ne,hlen,q1,q2,q3,q4,d1,d2,d3,cz,xa,aA]
   exact kD
 ·have e1:rf l=qw l:=by simp[rf,c0,c1,ca]
  rw[e1]
  simp(disch:=first|(simp;done)|omega|rfl) [-getElem?_pos,ag,cD.cG,CS hi,cN,aW,ca,ne,aA]
  exact kD
def zb{c:List V}(h:c.length=4):aM c 0 4=some c:=by unfold aM;rw[h];simp;exact gI (by omega)
def tW{c d:List V}(h:c.length=4)(hd:d.length=4):ag d 0 c=c:=by unfold ag;rw[h];simp[h,hd]
variable {l:List aU}
set_option maxHeartbeats 1000000
def A.b32:=A.q Tryz.f32
def A.k32:=@A.kk 32 5 [.tmp 2] A.b32 (by kernel_rfl) rfl
def Zuc{h:T O}{N:Nat}{v:V}{l:List Rat}{k0:Nat}(hs:Sl h N v (tx l))(hl:l.length<1000000000)(hq:∀q∈l,Qb k0 q)(rb:k0<=4000):Fn A.C 51 [v] h N (fun u h' n'=>u=.slice N 0 l.length (some l.length) 4/\jA h' n' N l 0):=by
 intro w
 have hlen:=hs.len
 rw[Ik]at hlen
 have c1:(64:Int)*(l.length:Int)<=140737488355328:=by omega
 have c2:(l.length:Int)<4611686018427387904:=by omega
 have kB:ad h N (h.set N (.cells (df zF l.length) 72 true)) (N+1):=ad.refl.new _
 rw[aQ,A.k51 (by simp)]
 simp(disch:=first|(simp;done)|omega|rfl) [-getElem?_pos,A.b51,hlen,c1,c2]
 refine cX [(4,5),(11,21)] (fun e r st=>e=.exit 0/\XN h N l 0 r st) (XN h N l) l.length ?_ ?_ ?_
 ·exact⟨by simp,kB,0,[],by omega,by simp,by simp,by show N<N+1;omega,by rw[T.ai,aJ rfl];rfl,rfl,fun j q hj=>by omega⟩
 ·rintro m r ⟨H,n1,W⟩ hr hf ⟨hW,hK,k,cs,hk,jW,h3,su,hM,dM,rk⟩
  simp only at hW hK hM su rk
  rw[cm]
  cases m with
  |zero=>
   obtain rfl:k=l.length:=by omega
   simp(disch:=first|(simp;done)|omega|rfl) [-getElem?_pos,A.sw,hr,hf,jW]
   exact⟨hW,hK,l.length,cs,by omega,by simp[jW],by simp[h3],su,hM,dM,rk⟩
  |succ m=>
   have aO:k<l.length:=by omega
   have dB:(k:Int)<(l.length:Int):=by omega
   obtain⟨q,C4⟩:=eA aO
   have C5:=hq q (fW C4)
   obtain⟨i,o,cc,e,rw,q1,q2,q3,q4⟩:=(hs.ae hK).at (C6 C4)
   have la:=Ad C5.1
   have Rn:=C7 C5.2
   simp(disch:=first|(simp;done)|omega|rfl) [-getElem?_pos,A.sw,hr,hf,jW,h3,aO,dB,hlen,q1,q3,q4]
   refine au (WN (q:=q) (by omega) (by omega)) ?_
   rintro _ H2 n2 k2 jU
   obtain⟨c,rfl,hc⟩:=jU.c
   have nk:=k2.le
   have gJ:=hK.le
   have sA:=(k2.get N su).trans hM
   have Ro:∀(j:Nat) (q:Rat),j<cs.length->l[j]?=some q->∃c,cs[j]?=some c/\dX H2 n2 c q:=fun j q hj hq=>by
    obtain⟨c,g1,g2⟩:=rk j q (by omega) hq
    exact⟨c,g1,g2.ae k2⟩
   obtain⟨f1,f2,f3⟩:=QE (l:=l) (by omega) Ro
   have nW:=u9 f1
   obtain⟨e1,e2⟩:=hc.len
   have iP:ag (cs.flatten++df zF (m+1)) (k*4) c=(cs++[c]).flatten++df zF m:=by
    rw[F3,MC (n:=4) (by rw[nW,dM]) rfl e1,MD,qs]
   have hb:k*4+4<=(cs.flatten++df zF (m+1)).length:=by
    rw[iy,nW,W8];omega
   have pY:(V.agg c).cells=c:=rfl
   have BD:q_ (cs.flatten++df zF (m+1)):=f2.app HT
   have xh:((cs++[c]).flatten++df zF m).length=(cs.flatten++df zF (m+1)).length:=by
    rw[F3,MD];simp[e1,zF];omega
   generalize cs.flatten++df zF (m+1)=X at*
   obtain⟨Y,hY⟩:∃Y,(cs++[c]).flatten++df zF m=Y:=⟨_,rfl⟩
   rw[hY]at iP xh
   simp(disch:=first|(simp;done)|omega|rfl) [-getElem?_pos, -V.cells, -V.one,hr,hf,jW,h3,aO,dB,sA,bS,pY,e1,e2,hb,iP]
   have kQ:¬N<N:=by omega
   refine⟨m,by omega,⟨by simp[aB,hW],(hK.trans k2).set (aR N),k+1,cs++[c],by omega,by simp,by simp[h3],by show N<n2;omega,by show T.get _ N=_;rw[T.ai,aJ rfl,hY],by simp[dM],fun j q' hj BJ=>?_⟩⟩
   by_cases zc:j<k
   ·obtain⟨c',g1,g2⟩:=rk j q' zc BJ
    exact⟨c',by rw[nj (by omega)];exact g1,(g2.ae k2).aC sA BD xh⟩
   ·obtain rfl:j=k:=by omega
    rw[C4]at BJ
    simp only[ak]at BJ
    subst BJ
    exact⟨c,by rw[qu (by omega),dM];simp,hc.aC sA BD xh⟩
 ·rintro _ r ⟨H,n1,W⟩ hr ⟨rfl,hW,hK,k,cs,hk,jW,h3,su,hM,dM,rk⟩
  simp only at hW hK hM su rk
  obtain rfl:k=l.length:=by omega
  simp(disch:=first|(simp;done)|omega|rfl) [-getElem?_pos,hr,h3,aA,hW,hK]
  have hz:df zF 0=[]:=by simp[df]
  obtain⟨f1,_,_⟩:=QE (l:=l) (by omega) (fun j q hj hq=>rk j q (by omega) hq)
  have nW:=u9 f1
  exact⟨su,cs,hM,dM,fun j q hq=>rk j q (uZ hq) hq⟩
def Yfd{h:T O}{N:Nat}{v:V}{l:List Rat}{k0:Nat}(hs:Sl h N v (tx l))(hl:l.length<1000000000)(hq:∀q∈l,Qb k0 q)(rb:k0<=4000):Fn A.C 32 [v] h N (fun u h' n'=>u=.slice N 0 l.length (some l.length) 4/\jA h' n' N l 0):=by
 intro w
 rw[aQ,A.k32 (by simp)]
 simp(disch:=first|(simp;done)|omega|rfl) [-getElem?_pos,A.b32]
 refine au (Zuc hs hl hq rb) ?_
 rintro _ h1 n1 k1 ⟨rfl,hu⟩
 simp(disch:=first|(simp;done)|omega|rfl) [-getElem?_pos,aA]
 exact⟨k1,hu⟩
def jK(l:List aU):List Rat:=l.map bu
def Yjr(h:qw l=0):jV l=tx (jK l):=by
 unfold tx jK
 congr 1
 rw[List.map_map]
 conv=>lhs;rw[<-List.map_id l]
 apply List.map_congr_left
 intro s hs
 exact((q8 (XM h s hs)).1).symm
def Yfe{l:List aU}:(jK l).length=l.length:=by simp[jK]
def Yqd(h:rf l=0):0<l.length/\l.length<=13/\qw l=0/\pg (jK l) (l.length-1)≠0:=by
 unfold rf at h
 split at h
 ·omega
 rename_i h0
 split at h
 ·omega
 rename_i h1
 split at h
 ·rename_i ha
  split at h
  ·omega
  rename_i hz
  refine⟨by omega,by omega,ha,fun hc=>hz ?_⟩
  obtain⟨s,hs⟩:=eA (l:=l) (k:=l.length-1) (by omega)
  have e:pg (jK l) (l.length-1)=bu s:=by simp[pg,jK,hs]
  rw[e]at hc
  rw[hs,<-(q8 (XM ha s (fW hs))).1,hc,MN]
 ·omega
def Ysc(h:T O)(N:Nat)(x:V)(bad:Int)(l:List Rat):Prop:=(bad≠0/\x=.aY [.aa,.int .i64 bad])\/(bad=0/\((vd l=true/\x=.aY [.aa,.int .i64 4])\/(vd l=false/\∃v,x=.aY [v,.int .i64 0]/\MP h N v l)))
open Go
variable {D k:Nat} {r:Rat}
def qy(es:List Rat)(D k:Nat):Rat:=if D<=k then pg es (k-D) else 0
def dS(g l p:Rat)(D:Nat)(d:List Rat):Nat->List Rat×List Rat×Rat
 |0=>([],[],0)
 |k+1=>
  let s:=dS g l p D d k
  let e:=s.1++[pg d k-s.2.2]
  (e,s.2.1++[s.2.2],l*s.2.2+(g*qy e D k+p*(qy e D k-qy e (D+1) k)))
def eC(g l p:Rat)(D:Nat)(d:List Rat):List Rat:=(dS g l p D d d.length).1
def C8(g l p:Rat)(D:Nat)(d:List Rat):List Rat:=(dS g l p D d d.length).2.1
def BF{g l p:Rat}{D:Nat}{d:List Rat}:∀{k:Nat},(dS g l p D d k).1.length=k/\(dS g l p D d k).2.1.length=k
 |0=>⟨rfl,rfl⟩
 |k+1=>by
  have ih:=@BF g l p D d k
  simp[dS,ih.1,ih.2]
def Db(D B:Nat)(q:Rat):Prop:=∃z:Int,q*(D:Rat)=(z:Rat)/\z.natAbs<=B
def Db.zero{B:Nat}:Db D B 0:=⟨0,by simp[Rat.zero_mul],by simp⟩
def Db.mono{B C:Nat}{q:Rat}(h:Db D B q)(hc:B<=C):Db D C q:=by
 obtain⟨z,h1,h2⟩:=h
 exact⟨z,h1,by omega⟩
def Db.add{B C:Nat}{q:Rat}(h:Db D B q)(k:Db D C r):Db D (B+C) (q+r):=by
 obtain⟨z,h1,h2⟩:=h
 obtain⟨y,k1,k2⟩:=k
 exact⟨z+y,by rw[Rat.add_mul,h1,k1,Rat.intCast_add],by omega⟩
def Db.sub{B C:Nat}{q:Rat}(h:Db D B q)(k:Db D C r):Db D (B+C) (q-r):=by
 obtain⟨z,h1,h2⟩:=h
 obtain⟨y,k1,k2⟩:=k
 exact⟨z-y,by rw[Rat.sub_eq_add_neg,Rat.add_mul,Rat.neg_mul,h1,k1,Rat.intCast_sub,Rat.sub_eq_add_neg],by omega⟩
def Db.mul{E B C:Nat}{q:Rat}(h:Db D B q)(k:Db E C r):Db (D*E) (B*C) (q*r):=by
 obtain⟨z,h1,h2⟩:=h
 obtain⟨y,k1,k2⟩:=k
 refine⟨z*y,?_,by rw[sC];exact jL h2 k2⟩
 rw[Rat.intCast_mul,<-h1,<-k1,Rat.natCast_mul]
 grind
def Db.up{E B:Nat}{q:Rat}(h:Db D B q):Db (E*D) (E*B) q:=by
 obtain⟨z,h1,h2⟩:=h
 refine⟨(E:Int)*z,?_,by rw[sC];exact jL (by simp) h2⟩
 rw[Rat.intCast_mul,<-h1,Rat.natCast_mul]
 have:((E:Int):Rat)=(E:Rat):=rfl
 rw[this]
 grind
def Db.qb{B:Nat}{q:Rat}(h:Db D B q)(h0:0<D)(hd:D<2^k)(hb:B<2^k):Qb k q:=by
 obtain⟨z,h1,h2⟩:=h
 have hD:(D:Rat)≠0:=by
  intro hc
  have:((D:Nat):Rat)=((0:Nat):Rat):=hc
  rw[Rat.natCast_inj]at this
  omega
 have hq:q=Rat.divInt z (D:Int):=by
  rw[Rat.divInt_eq_div,<-h1]
  have:(((D:Nat):Int):Rat)=(D:Rat):=rfl
  rw[this]
  grind
 rw[hq]
 exact MQ (by omega) (by omega) (by simpa using hd)
def Db.own{q:Rat}(h:Qb k q):Db q.den (2^k) q:=⟨q.num,by
 have h1:=zd q
 rw[Rat.divInt_eq_div]at h1
 have h2:(((q.den:Nat):Int):Rat)=(q.den:Rat):=rfl
 rw[h2]at h1
 have hD:(q.den:Rat)≠0:=by
  intro hc
  have:((q.den:Nat):Rat)=((0:Nat):Rat):=hc
  rw[Rat.natCast_inj]at this
  have:=q.den_pos
  omega
 grind,by have:=h.1;omega⟩
def ze:List Rat->Nat
 |[]=>1
 |q::l=>q.den*ze l
def XO:∀{l:List Rat},0<ze l
 |[]=>by simp[ze]
 |q::l=>sh q.den_pos XO
def Rp{k:Nat}:∀{l:List Rat},(∀q∈l,Qb k q)->ze l<=2^(k*l.length)
 |[],_=>by simp[ze]
 |q::l,h=>by
  have ih:=Rp (l:=l) fun x hx=>h x (nt _ hx)
  have hq:=(h q nT).2
  have:2^(k*(q::l).length)=2^k*2^(k*l.length):=by
   rw[<-gL,bf,my,se,Nat.add_comm]
  rw[this]
  exact jL (by omega) ih
def XP{k:Nat}:∀{l:List Rat},(∀q∈l,Qb k q)->∀q∈l,Db (ze l) (2^(k*(l.length+1))) q
 |[],_,q,hq=>by simp at hq
 |x::l,h,q,hq=>by
  have hl:=Rp (l:=l) fun x hx=>h x (nt _ hx)
  have hx:=(h x nT)
  have e:2^(k*((x::l).length+1))=2^k*2^(k*(l.length+1)):=by
   rw[<-gL,bf];congr 1;rw[my k (l.length+1) 1];omega
  rw[e]
  rcases jy.1 hq with rfl|hq
  ·have h1:=(Db.own hx).up (E:=ze l)
   rw[fR]at h1
   refine h1.mono ?_
   have e2:2^(k*(l.length+1))=2^(k*l.length)*2^k:=by rw[<-gL,my,se]
   have h3:ze l*2^k<=2^(k*l.length)*2^k:=kp _ hl
   rw[e2]
   have h4:1<=2^k:=Nat.one_le_two_pow
   have h5:=jL h4 (aR (2^(k*l.length)*2^k))
   omega
  ·have h1:=(XP (fun x hx=>h x (nt _ hx)) q hq).up (E:=x.den)
   exact h1.mono (kp _ (by have:=hx.2;omega))
def ig(X B:Nat):Nat->Nat
 |0=>B
 |k+1=>8*X*ig X B k
def Db.raise{A D X B:Nat}{q:Rat}(hA:A<=X)(hX:1<=X):∀{j k:Nat},j<=k->Db (A^j*D) (2*ig X B j) q->Db (A^k*D) (2*ig X B k) q
 |j,0,h,hq=>by
  obtain rfl:j=0:=by omega
  exact hq
 |j,k+1,h,hq=>by
  by_cases e:j=k+1
  ·subst e;exact hq
  ·have ih:=(Db.raise hA hX (j:=j) (k:=k) (by omega) hq).up (E:=A)
   rw[<-tZ,<-Nat.pow_succ']at ih
   refine ih.mono ?_
   rw[ig]
   have h1:A*(2*ig X B k)<=X*(2*ig X B k):=kp _ hA
   have h2:X*(2*ig X B k)=2*(X*ig X B k):=by rw[Nat.mul_left_comm]
   have h3:8*X*ig X B k=8*(X*ig X B k):=tZ _ _ _
   omega
def XQ{g l p:Rat}{D A Δ X B:Nat}{d:List Rat}(hX:1<=X)(hA:A<=X)(hg:Db A X g)(hl:Db A X l)(hp:Db A X p)(hd:∀q∈d,Db Δ B q):∀{k:Nat},k<=d.length->Db (A^k*Δ) (ig X B k) (dS g l p D d k).2.2/\∀(j:Nat) (q:Rat),(dS g l p D d k).1[j]?=some q->Db (A^j*Δ) (2*ig X B j) q
 |0,_=>⟨Db.zero,fun j q h=>by simp[dS]at h⟩
 |k+1,hk=>by
  obtain⟨Rq,XR⟩:=XQ (D:=D) hX hA hg hl hp hd (k:=k) (by omega)
  have le:=(@BF g l p D d k).1
  have XT:Db (A^k*Δ) (A^k*B) (pg d k):=(hd _ (fW (gH (p:=d) (i:=k) (by omega)))).up
  have hAk:A^k*B<=ig X B k:=by
   clear XT Rq XR le hk
   induction k with
   |zero=>simp[ig]
   |succ k ih=>
    rw[ig,fv,Nat.mul_right_comm,fR]
    have h1:A*(A^k*B)<=X*ig X B k:=jL hA ih
    have h3:8*X*ig X B k=8*(X*ig X B k):=tZ _ _ _
    omega
  have hek:Db (A^k*Δ) (2*ig X B k) (pg d k-(dS g l p D d k).2.2):=(XT.sub Rq).mono (by omega)
  have hE:∀(j:Nat) (q:Rat),((dS g l p D d k).1++[pg d k-(dS g l p D d k).2.2])[j]?=some q->Db (A^j*Δ) (2*ig X B j) q:=fun j q hq=>by
   by_cases hj:j<k
   ·rw[nj (by omega)]at hq
    exact XR j q hq
   ·have nH:j=k:=by have:=uZ hq;simp at this;omega
    subst nH
    rw[qu (by omega),le]at hq
    simp at hq
    rw[<-hq];exact hek
  have xj:∀D',Db (A^k*Δ) (2*ig X B k) (qy ((dS g l p D d k).1++[pg d k-(dS g l p D d k).2.2]) D' k):=fun D'=>by
   unfold qy
   split
   ·exact Db.raise hA hX (j:=k-D') (by omega) (hE _ _ (gH (by simp[le];omega)))
   ·exact Db.zero
  refine⟨?_,fun j q hq=>by
   have:(dS g l p D d (k+1)).1=(dS g l p D d k).1++[pg d k-(dS g l p D d k).2.2]:=rfl
   rw[this]at hq
   exact hE j q hq⟩
  have h1:=((hl.mul Rq).add ((hg.mul (xj D)).add (hp.mul ((xj D).sub (xj (D+1))))))
  rw[<-tZ,<-Nat.pow_succ']at h1
  refine h1.mono ?_
  rw[ig]
  have h3:8*X*ig X B k=8*(X*ig X B k):=tZ _ _ _
  have h4:X*(2*ig X B k)=2*(X*ig X B k):=by rw[Nat.mul_left_comm]
  have h5:X*(2*ig X B k+2*ig X B k)=4*(X*ig X B k):=by rw[my,h4];omega
  omega
def A.b70:=A.q Tryz.f70
def A.k70:=@A.kk 70 11 [.cell 3 (some 4)] A.b70 (by kernel_rfl) rfl
def XU{a b:Nat}:∀{k:Nat},ig (2^a) (2^b) k=2^((a+3)*k+b)
 |0=>by simp[ig]
 |k+1=>by
  rw[ig,XU (k:=k)]
  have h8:(8:Nat)=2^3:=rfl
  rw[h8,<-gL,<-gL]
  congr 1
  rw[my (a+3) k 1];omega
def MH{g l p:Rat}{D kc kd:Nat}{d:List Rat}(hg:Qb kc g)(hl:Qb kc l)(hp:Qb kc p)(hd:∀q∈d,Qb kd q){k:Nat}(hk:k<=d.length):Qb ((3*kc+3)*d.length+kd*(d.length+1)+2) (dS g l p D d k).2.2/\∀q∈(dS g l p D d k).1,Qb ((3*kc+3)*d.length+kd*(d.length+1)+2) q:=by
 obtain⟨A,hA⟩:∃A,A=l.den*(p.den*g.den):=⟨_,rfl⟩
 have A0:0<A:=by rw[hA];exact sh l.den_pos (sh p.den_pos g.den_pos)
 have e3:2^(3*kc)=2^kc*(2^kc*2^kc):=by rw[<-gL,<-gL];congr 1;omega
 have tU:=Nat.le_of_lt hl.2
 have nk:=Nat.le_of_lt hp.2
 have vY:=Nat.le_of_lt hg.2
 have XV:A<=2^(3*kc):=by rw[hA,e3];exact jL tU (jL nk vY)
 have dg:Db A (2^(3*kc)) g:=by
  have:=((Db.own hg).up (E:=p.den)).up (E:=l.den)
  rw[hA,e3]
  exact this.mono (jL tU (jL nk (aR _)))
 have dp:Db A (2^(3*kc)) p:=by
  have:=((Db.own hp).up (E:=g.den)).up (E:=l.den)
  rw[hA,e3,fR p.den]
  exact this.mono (jL tU (jL vY (aR _)))
 have dl:Db A (2^(3*kc)) l:=by
  have:=((Db.own hl).up (E:=g.den)).up (E:=p.den)
  have e:l.den*(p.den*g.den)=p.den*(g.den*l.den):=by rw[Nat.mul_left_comm,fR l.den]
  rw[hA,e3,e]
  exact this.mono (jL nk (jL vY (aR _)))
 have X1:1<=2^(3*kc):=Nat.one_le_two_pow
 obtain⟨r1,r2⟩:=XQ (D:=D) X1 XV dg dl dp (XP hd) hk
 have hD:∀j,j<=d.length->A^j*ze d<2^((3*kc+3)*d.length+kd*(d.length+1)+2):=fun j hj=>by
  have h1:A^j<=(2^(3*kc))^j:=BK XV j
  have h2:=jL h1 (Rp hd)
  rw[<-Nat.pow_mul,<-gL]at h2
  refine mr h2 (Nat.pow_lt_pow_right (by decide) ?_)
  have h3:3*kc*j<=3*kc*d.length:=iT _ hj
  have h4:(3*kc+3)*d.length=3*kc*d.length+3*d.length:=jF _ _ _
  have h5:kd*(d.length+1)=kd*d.length+kd:=by rw[my,se]
  omega
 have hB:∀j,j<=d.length->2*ig (2^(3*kc)) (2^(kd*(d.length+1))) j<2^((3*kc+3)*d.length+kd*(d.length+1)+2):=fun j hj=>by
  rw[XU]
  have e:2*2^((3*kc+3)*j+kd*(d.length+1))=2^((3*kc+3)*j+kd*(d.length+1)+1):=by rw[fv,fR]
  rw[e]
  refine Nat.pow_lt_pow_right (by decide) ?_
  have h3:(3*kc+3)*j<=(3*kc+3)*d.length:=iT _ hj
  omega
 have pos:∀j,0<A^j*ze d:=fun j=>sh (vf A0) XO
 refine⟨r1.qb (pos k) (hD k hk) (by have:=hB k hk;omega),fun q hq=>?_⟩
 obtain⟨j,hj⟩:=F9 hq
 have zc:=uZ hj
 rw[BF.1]at zc
 exact(r2 j q hj).qb (pos j) (hD j (by omega)) (hB j (by omega))
def XW{h:T O}{N E:Nat}{ve:V}{es:List Rat}{D k:Nat}{z:Int}(hE:h.get E=some (.cells [ve] 67 true))(hEN:E<N)(he:we h N ve es)(hz:z=(k:Int)-(D:Int))(hl:es.length=k+1)(hk:k<1000):F8 A.C (.func 70 [] [.ptr E 0]) [.int .i64 z] h N (fun v h' n'=>Fc h' n' v (qy es D k)):=by
 intro w
 have pY:∀c:List V,(V.agg c).cells=c:=fun _=>rfl
 have lv:=he.len
 have e0:zF=[V.int .i64 0,.aa,.int .i64 0,.aa]:=rfl
 rw[aQ,A.k70 (by simp)]
 unfold qy
 by_cases c:D<=k
 ·rw[aJ c]
  have c1:¬z<0:=by omega
  have c2:z<((k+1:Nat):Int):=by omega
  have c3:z.toNat=k-D:=by omega
  have c4:0<=z:=by omega
  obtain⟨i,o,x,e,rw,cv,b1,b2,b3,b4,b5⟩:=he.at (gH (p:=es) (i:=k-D) (by omega))
  obtain⟨f1,f2⟩:=b5.len
  have e4:=tW (d:=zF) f1 rfl
  have s4:=zb f1
  have bK:¬i=N:=by omega
  have hEn:¬E=N:=by omega
  rw[hl]at lv
  rw[e0]at e4
  simp(disch:=first|(simp;done)|omega|rfl) [-getElem?_pos, -V.cells, -V.one,A.b70,c1,c2,c3,c4,hE,hEN,lv,b1,b2,b3,b4,pY,f1,f2,bS,e4,s4,aL,bK,hEn,aA]
  exact⟨(ad.refl.new _).set (aR _),(b5.ae ((ad.refl.new _).set (aR _))).up⟩
 ·rw[aq c]
  have c1:z<0:=by omega
  simp(disch:=first|(simp;done)|omega|rfl) [-getElem?_pos, -V.cells, -V.one,A.b70,c1]
  refine au (BB (z:=0) (by decide) (by decide)) ?_
  rintro _ h1 n1 k1 hz
  obtain⟨c0,rfl,ga⟩:=hz.c
  obtain⟨f1,f2⟩:=ga.len
  have e4:=tW (d:=zF) f1 rfl
  have s4:=zb f1
  rw[e0]at e4
  have gN:=(k1.get N (by omega)).trans (show (h.set N (.cells [V.int .i64 0,.aa,.int .i64 0,.aa] 72 true)).get N=_ by rw[T.ai,aJ rfl])
  have lN:=k1.le
  have lN2:N<n1:=by omega
  simp(disch:=first|(simp;done)|omega|rfl) [-getElem?_pos, -V.cells, -V.one,pY,f1,f2,bS,gN,lN2,e4,s4,aA]
  exact⟨((ad.refl.new _).trans k1).set (by omega),(ga.aC gN (by intro x hx m;simp at hx;rcases hx with rfl|rfl|rfl|rfl<;>simp) (by simp[f1])).up⟩
end
end Go.Mx
