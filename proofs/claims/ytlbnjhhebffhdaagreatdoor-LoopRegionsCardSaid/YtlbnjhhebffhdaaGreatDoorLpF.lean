/-loop-/
import Derived.Test.YtlbnjhhebffhdaaGreatDoorLpC
set_option linter.all false
set_option maxHeartbeats 4000000
namespace Go.Mx
noncomputable section
open Go Go.Proofs
variable {N k:Nat} {h:T O}
set_option maxRecDepth 1000000
def A.Nc:=A.q Tryz.f211
def A.pQ:=A.ql A.Nc 0 []
def A.b211:=(fun x0=>A.qb A.Nc [x0]) A.pQ
def A.k211:=@A.kk 211 19 [.tmp 4] A.b211 (by kernel_rfl) rfl
def Yny{v f:V}(l:List (List V))(p:Nat->Bool)(hs:Sn 4 h N v l)(hl:l.length<1152921504606846976)(hf:∀(j:Nat) (x:List V),l[j]?=some x->∀h' n',ah h N h' n'->FnV A.C f [.agg x] h' n' (fun u _ _=>u=.bool (p j))):Fn A.C 211 [v,f] h N (fun u _ _=>u=.int .i64 (wK p 0 l.length)):=by
 intro w
 have hlen:=hs.len
 rw[aZ,A.k211 (by simp)]
 simp[A.b211,hlen]
 refine Zal [(4,5),(8,18)] (fun e r st=>aL N st.w=[]/\ah h N st.h st.n/\((e=.exit 0/\wK p 0 l.length= -1)\/(e=.ret/\r.get 4=some (.int .i64 (wK p 0 l.length))))) (fun m r st=>aL N st.w=[]/\ah h N st.h st.n/\∃k,k+m=l.length/\r.get 8=some (.int .i64 k)/\wK p 0 l.length=wK p k m) l.length ?_ ?_ ?_
 ·exact⟨by simp,ah.refl,0,by omega,by simp,rfl⟩
 ·rintro m r ⟨H,n1,W⟩ hr ik ⟨hW,hK,k,hk,h8,hz⟩
  simp only at hW hK
  rw[cn]
  cases m with
  |zero=>
   have:k=l.length:=by omega
   subst this
   simp only[wK]at hz
   simp[A.pQ,hr,ik,h8,hW,hK,hz]
  |succ m=>
   have aW:k<l.length:=by omega
   obtain⟨c,hc⟩:=eQ aW
   obtain⟨i,o,cc,e,rw,q1,q2,q3,q4⟩:=hs.at hc
   have q3:=(hK.get _ q2).trans q3
   have hk1:(k:Int)<(l.length:Int):=by omega
   simp only[wK]at hz
   simp[A.pQ,hr,h8,hk1,hlen,q1,q3,q4]
   refine Ymf (hf k c hc _ _ hK) ?_
   rintro v h2 n2 k2 rfl
   have kk:=hK.trans k2
   cases hp:p k
   ·rw[hp]at hz
    simp(disch:=first|(simp;done)|omega|rfl) [ik,h8,hW,kk]
    exact⟨m,by omega,k+1,by omega,by simp,by simpa using hz⟩
   ·rw[hp]at hz
    simp[ik,hW,kk]
    simpa using hz.symm
 ·rintro e r ⟨H,n1,W⟩ hr ⟨hW,hK,⟨rfl,hz⟩|⟨rfl,h4⟩⟩
  ·simp only at hW hK
   simp[hz,Ret,hW,hK]
  ·simp only at hW hK
   simp[h4,Ret,hW,hK]
def A.b152:=A.q Tryz.f152
def A.k152:=@A.kk 152 9 [.tmp 4] A.b152 (by kernel_rfl) rfl
def A.b77:=A.q Tryz.f77
def A.k77:=@A.kk 77 8 [.tmp 2,.tmp 3] A.b77 (by kernel_rfl) rfl
def A.b83:=A.q Tryz.f83
def A.k83:=@A.kk 83 8 [.tmp 2,.tmp 3] A.b83 (by kernel_rfl) rfl
def A.b32:=A.q Tryz.f32
def A.k32:=@A.kk 32 15 [.tmp 2,.tmp 3] A.b32 (by kernel_rfl) rfl
def Yjo{v f:V}(l:List (List V))(p:Nat->Bool)(hs:Sn 4 h N v l)(hl:l.length<1152921504606846976)(hf:∀(j:Nat) (x:List V),l[j]?=some x->∀h' n',ah h N h' n'->FnV A.C f [.agg x] h' n' (fun u _ _=>u=.bool (p j))):Fn A.C 152 [v,f] h N (fun u _ _=>u=.bool (decide (0<=wK p 0 l.length))):=by
 intro w
 rw[aZ,A.k152 (by simp)]
 simp[A.b152]
 refine av (Yny l p hs hl hf) ?_
 rintro v h2 n2 k2 rfl
 simp[Ret,k2]
def Yaq{l:List Rat}:decide (0<=wK (fun j=>vk (l[j]?.getD 0)) 0 l.length)=BB l:=by
 rw[Bool.eq_iff_iff,decide_eq_true_eq,Zs7]
 unfold BB
 rw[List.any_eq_true]
 constructor
 ·rintro⟨j,_,h2,h3⟩
  obtain⟨q,hq⟩:=eQ (l:=l) (k:=j) (by omega)
  rw[hq]at h3
  exact⟨q,eI hq,h3⟩
 ·rintro⟨q,hq,h3⟩
  obtain⟨j,hj⟩:=Nd hq
  exact⟨j,tR _,by have:=yz hj;omega,by rw[hj];exact h3⟩
def Yg3{h:T O}{N:Nat}{u:V}{l:List Rat}{k:Nat}(hu:mV h N u l)(hP:j_ h N)(hl:l.length<1000000000)(hq:∀q∈l,Qb k q)(hk:k<=400000000):Fn A.C 77 [u] h N (fun x h' n'=>(BB l=true/\x=.aX [.ziA,.int .i64 4])\/(BB l=false/\∃v,x=.aX [v,.int .i64 0]/\TxT h' n' v l)):=by
 intro w
 obtain⟨cs,s1,s2,s3⟩:=id hu
 have key:=Yjo (f:=.func 153 [] []) cs (fun j=>vk (l[j]?.getD 0)) s1 (by omega) (fun j x hx h' n' jO=>by
  obtain⟨q,hqj⟩:=eQ (l:=l) (k:=j) (by have:=yz hx;omega)
  obtain⟨c,g1,g2⟩:=s3 j q hqj
  rw[hx]at g1
  obtain rfl:x=c:=by simpa using g1
  simp only[hqj,C8]
  exact Zs6 (g2.ai jO).fc (hP.ai jO) (hq q (eI hqj)) (by omega))
 rw[s2,Yaq]at key
 rw[aZ,A.k77 (by simp)]
 simp(disch:=first|(simp;done)|omega|rfl) [-getElem?_pos,A.b77]
 refine av key ?_
 rintro _ h2 n2 k2 rfl
 cases hb:BB l with
 |true=>
  simp(disch:=first|(simp;done)|omega|rfl) [-getElem?_pos,Ret]
  exact k2
 |false=>
  simp(disch:=first|(simp;done)|omega|rfl) [-getElem?_pos,]
  refine av (Yg7 (k0:=k) (hu.ai k2) (hP.ai k2) hl hq hk) ?_
  rintro v h3 n3 k3 t1
  simp(disch:=first|(simp;done)|omega|rfl) [-getElem?_pos,Ret]
  exact⟨k2.trans k3,t1⟩
def Ycq{h:T O}{N k:Nat}{x:V}{q:Rat}(hx:Fc h N x q)(hP:j_ h N)(hq:Qb k q)(hk:k<=400000000):Fn A.C 83 [x] h N (fun v _ _=>v=if vk q=true then .aX [.str [],.int .i64 4] else .aX [.str (Zao q),.int .i64 0]):=by
 intro w
 rw[aZ,A.k83 (by simp)]
 obtain⟨n1,u1,n2,u2,rfl,s1,s2⟩:=hx
 have o1:=Zaj s1
 have o2:=Zaj s2
 unfold V.one at o1 o2
 have kB:ah h N (h.set N (.cells [.int .i64 n1,u1,.int .i64 n2,u2] 102 true)) (N+1):=aO ah.refl _
 have b0:(h.set N (.cells [.int .i64 n1,u1,.int .i64 n2,u2] 102 true)).get N=some (.cells [.int .i64 n1,u1,.int .i64 n2,u2] 102 true):=by simp
 simp(disch:=first|(simp;done)|omega|rfl) [-getElem?_pos,A.b83,aI,aK,o1,o2]
 generalize gb:h.set N (.cells [.int .i64 n1,u1,.int .i64 n2,u2] 102 true)=hB at*
 clear gb
 have hx:Fc hB (N+1) (.agg [.int .i64 n1,u1,.int .i64 n2,u2]) q:=⟨n1,u1,n2,u2,rfl,s1.ai kB,s2.ai kB⟩
 have R8:=hP.ai kB
 have lg:=Zs6 hx R8 hq hk
 refine av lg ?_
 rintro _ h2 m2 k2 rfl
 have oH:=k2.le
 have f2:=(k2.get N (by omega)).trans b0
 have e2:N<m2:=by omega
 cases hb:vk q with
 |true=>
  simp(disch:=first|(simp;done)|omega|rfl) [-getElem?_pos,Ret]
  exact kB.trans k2
 |false=>
  simp(disch:=first|(simp;done)|omega|rfl) [-getElem?_pos,f2,e2,aI,aK]
  refine av (Yb0 (hx.ai k2) (R8.ai k2) (by have:=HT hq.1;omega) (by have:=HT hq.2;omega)) ?_
  rintro _ h3 m3 k3 rfl
  simp(disch:=first|(simp;done)|omega|rfl) [-getElem?_pos,Ret]
  exact(kB.trans k2).trans k3
def C9{g l p:Rat}{d:Nat}(bg:Qb k g)(bl:Qb k l)(bp:Qb k p)(hk:1<=k):∀q∈aJ g l p d,Qb (3*k+2) q:=by
 intro q hm
 have b0:Qb k 0:=(Qb.int (z:=0) (k:=1) (by decide) (by decide)).mono hk
 have b1:Qb k 1:=(Qb.int (z:=1) (k:=1) (by decide) (by decide)).mono hk
 unfold aJ at hm
 rcases Aw hm with hm|rfl
 ·rcases Aw hm with hm|rfl
  ·rcases Aw hm with hm|rfl
   ·rcases Aw hm with hm|rfl
    ·obtain⟨_,_,rfl⟩:=vo.1 hm
     exact b0.mono (by omega)
    ·exact b1.mono (by omega)
   ·exact bl.neg.mono (by omega)
  ·have bz:Qb k (if d=0 then -l else 0):=by
    split
    ·exact bl.neg
    ·exact b0
   exact((bz.add bg).add bp).mono (by omega)
 ·exact bp.neg.mono (by omega)
def Ya9{g l p:bj}{d:Int}{n:Nat}(hP:j_ h N)(hg:g.length<=n)(hl:l.length<=n)(hp:p.length<=n)(hn:n<=12000):Fn A.C 32 [.agg [.str g,.str l,.str p,.int .i64 d]] h N (fun x h' n'=>(gT g l p d≠0/\x=.aX [.ziA,.int .i64 (gT g l p d)])\/(gT g l p d=0/\((BB (aJ (aY g) (aY l) (aY p) d.toNat)=true/\x=.aX [.ziA,.int .i64 4])\/(BB (aJ (aY g) (aY l) (aY p) d.toNat)=false/\∃v,x=.aX [v,.int .i64 0]/\TxT h' n' v (aJ (aY g) (aY l) (aY p) d.toNat))))):=by
 intro w
 rw[aZ,A.k32 (by simp)]
 have kB:=aO (ah.refl (h:=h) (n:=N)) (.cells [.str g,.str l,.str p,.int .i64 d] 48 true)
 have b0:(h.set N (.cells [.str g,.str l,.str p,.int .i64 d] 48 true)).get N=some (.cells [.str g,.str l,.str p,.int .i64 d] 48 true):=by simp
 simp(disch:=first|(simp;done)|omega|rfl) [-getElem?_pos,A.b32,aI,aK]
 generalize h.set N (.cells [.str g,.str l,.str p,.int .i64 d] 48 true)=hB at*
 refine av (Yf3 hg hl hp (by omega)) ?_
 rintro _ h1 n1 k1 rfl
 have xF:=k1.le
 have f1:=(k1.get N (by omega)).trans b0
 have e1:N<n1:=by omega
 by_cases c:gT g l p d=0
 ·have hc:=c
  unfold gT at hc
  split at hc
  ·rename_i HU
   obtain⟨n0,gw⟩:=HV HU
   split at hc
   ·omega
   ·obtain⟨fj,dd⟩:=HV hc
    have lK:¬(d<0\/6<d):=fun hx=>by rw[aR hx]at dd;omega
    obtain⟨cg,_⟩:=yA n0
    obtain⟨cl,_⟩:=yA gw
    obtain⟨cp,_⟩:=yA fj
    have qg:=yB cg hg
    have ql:=yB cl hl
    have qp:=yB cp hp
    have eg:=(kr cg).1
    have el:=(kr cl).1
    have ep:=(kr cp).1
    obtain⟨dn,rfl⟩:∃dn:Nat,d=(dn:Int):=⟨d.toNat,by omega⟩
    rw[Int.toNat_natCast]
    generalize aY g=qg' at*
    generalize aY l=ql' at*
    generalize aY p=qp' at*
    subst eg el ep
    simp(disch:=first|(simp;done)|omega|rfl) [-getElem?_pos,c,a_,f1,e1,aI,aK]
    refine av (Yqg qg ql qp (by omega) (by omega)) ?_
    rintro v2 h2 n2 k2 hv
    have qc:∀q∈aJ qg' ql' qp' dn,Qb (3*(4*n+4)+2) q:=C9 qg ql qp (by omega)
    simp(disch:=first|(simp;done)|omega|rfl) [-getElem?_pos,]
    refine av (Yg3 (k:=3*(4*n+4)+2) hv.1 (((hP.ai kB).ai k1).ai k2) (by simp[aJ];omega) qc (by omega)) ?_
    rintro v3 h3 n3 k3 Da
    rcases Da with⟨a1,rfl⟩|⟨a1,v4,rfl,t1⟩
    ·simp(disch:=first|(simp;done)|omega|rfl) [-getElem?_pos,Ret,a1]
     exact((kB.trans k1).trans k2).trans k3
    ·simp(disch:=first|(simp;done)|omega|rfl) [-getElem?_pos,Ret,a1]
     exact⟨((kB.trans k1).trans k2).trans k3,t1⟩
  ·rename_i HU;exact absurd hc HU
 ·simp(disch:=first|(simp;done)|omega|rfl) [-getElem?_pos,c,a_,Ret]
  exact kB.trans k1
def xG{g l p:Rat}{d:Nat}:(aJ g l p d).length=d+3/\pg (aJ g l p d) (d+2)=1:=by
 have e:(aJ g l p d).length=d+3:=by simp[aJ]
 refine⟨e,?_⟩
 unfold pg aJ
 rw[eJ (by omega),eJ (by omega),eJ (by omega),lM (by simp)]
 rfl
def Ax(g l p:Rat)(d:Nat):Bool:=mW (d+3) (aJ g l p d)
def Yt0{g l p:bj}{d:Int}(h:gT g l p d=0):aV g=0/\aV l=0/\aV p=0/\∃dn:Nat,d=(dn:Int)/\dn<=6/\¬aY g<0/\¬aY l<0/\¬1<aY l/\¬aY p<0:=by
 unfold gT at h
 split at h
 ·rename_i HU
  obtain⟨n0,n1⟩:=HV HU
  split at h
  ·omega
  ·rename_i BA
   obtain⟨n2,dd⟩:=HV h
   have lK:¬(d<0\/6<d):=fun hx=>by rw[aR hx]at dd;omega
   exact⟨(yA n0).1,(yA n1).1,(yA n2).1,d.toNat,by omega,by omega,(yA n0).2,(yA n1).2,BA,(yA n2).2⟩
 ·rename_i HU;exact absurd h HU
def Yuc{k d:Nat}(hk:k<=494)(hd:d<=6):k*5^(d+3-1)<=400000000:=by
 have h1:5^(d+3-1)<=5^8:=Ywo (by omega) (by omega)
 have h2:=tU hk h1
 have:494*5^8=192968750:=by decide
 omega
def sR(f:Nat->Rat):Nat->Rat
 |0=>0
 |n+1=>sR f n+f n
def il{f g:Nat->Rat}:∀{n:Nat},(∀k,k<n->f k=g k)->sR f n=sR g n
 |0,_=>rfl
 |n+1,h=>by unfold sR;rw[il fun k hk=>h k (by omega),h n (by omega)]
def HW{f:Nat->Rat}:∀{n:Nat},sR (fun k=>f (k+1)) n+f 0=sR f (n+1)
 |0=>by simp[sR]
 |n+1=>by
  have:=HW (f:=f) (n:=n)
  unfold sR at this ⊢
  unfold sR
  grind
def R9{f:Nat->Rat}:∀{n:Nat},sR (fun k=>f (n-1-k)) n=sR f n
 |0=>rfl
 |n+1=>by
  have h1:=HW (f:=fun k=>f (n+1-1-k)) (n:=n)
  have h2:=R9 (f:=f) (n:=n)
  have h3:sR (fun k=>f (n+1-1-(k+1))) n=sR (fun k=>f (n-1-k)) n:=il fun k hk=>by
   show f (n+1-1-(k+1))=f (n-1-k)
   congr 1;omega
  rw[<-h1,h3,h2]
  show sR f n+f (n+1-1-0)=sR f n+f n
  rw[show n+1-1-0=n from by omega]
def Ay{f g:Nat->Rat}{r:Rat}:∀{n:Nat},sR (fun k=>f k-r*g k) n=sR f n-r*sR g n
 |0=>by
  show (0:Rat)=0-r*0
  grind
 |n+1=>by
  have:=Ay (f:=f) (g:=g) (r:=r) (n:=n)
  unfold sR
  grind
def Zuo{q:Rat}{st:St}(hl:(Zao q).length<1000000000):A.C.call (.func 34 [] []) [.str (Zao q)] st=some (.str (Zao (zgb q)),st):=by
 have hs:=fun st=>HY (q:=q) (st:=st)
 apply Call.eq
 rw[aZ,A.k34 (by simp)]
 by_cases hz:q<0
 ·have Sa:=hz
  rw[show q<0↔q.num<0 from by rw[Rat.lt_iff];simp]at Sa
  have h1:=wL.2 hz
  have e1:Zao q=45::QB q:=by rw[xH,aR Sa]
  have e2:Zao (zgb q)=QB q:=by
   have:zgb q= -q:=aR hz
   rw[this,xH,aA (by rw[Rat.neg_num];omega),Ylm]
  rw[e2]
  rw[e1]at hs hl
  have a3:∀st:St,pR st (some (.str (45::QB q))) (some (some (.int .i64 1))) (some none)=some (.str (QB q),st):=fun st=>by rw[BC (by omega) (by simp only[bC];omega)];rfl
  rw[e1]
  simp(disch:=first|(simp;done)|omega|rfl) [-getElem?_pos,A.b34,hs,h1,aH,a3]
 ·have h1:¬sg3 q.num<0:=fun hc=>hz (wL.1 hc)
  have e2:zgb q=q:=aA hz
  rw[e2]
  simp(disch:=first|(simp;done)|omega|rfl) [-getElem?_pos,A.b34,hs,h1]
def Nf{h:T O}{N:Nat}{w:List Nat}(hP:j_ h N):A.C.call (.func 7 [] []) [] ⟨h,N,w⟩=some (.bool true,⟨h,N,w⟩):=by
 exact A.known hP.2
variable {N:Nat} {h:T O} {l:List bj} {v:V}
def A.b9:=A.q Tryz.f9
def A.k9:=@A.kk 9 22 [.tmp 2] A.b9 (by kernel_rfl) rfl
def A.b61:=A.q Tryz.f61
def A.k61:=@A.kk 61 27 [.tmp 2] A.b61 (by kernel_rfl) rfl
def A.Ng:=A.q Tryz.f145
def A.pS:=A.ql A.Ng 0 []
def A.b145:=(fun x0=>A.qb A.Ng [x0]) A.pS
def A.k145:=@A.kk 145 18 [.tmp 2] A.b145 (by kernel_rfl) rfl
def gV(l:List bj):Int:=cN (l.map fun s=>((aV s:Nat):Int))
def ks(l:List bj):Int:=if l.length=0 then 12 else if 13<l.length then 5 else if gV l=0 then (if l[l.length-1]?=some [48] then 6 else 0) else gV l
def Nh{l:List bj}(h:gV l=0):∀s∈l,aV s=0:=by
 induction l with
 |nil=>intro s hs;simp at hs
 |cons a l ih=>
  unfold gV at h ih
  rw[Yw1,cN]at h
  by_cases c:((aV a:Nat):Int)=0
  ·rw[aR c]at h
   intro s hs
   rcases kV.1 hs with rfl|hs
   ·omega
   ·exact ih h s hs
  ·rw[aA c]at h;omega
def Zqk(hs:Sl h N v (strs l))(hl:l.length<100000)(rA:∀s∈l,s.length<=100000):Fn A.C 145 [v] h N (fun u _ _=>u=.int .i64 (gV l)):=by
 intro w
 have hlen:=hs.len
 rw[HZ]at hlen
 unfold gV
 rw[aZ,A.k145 (by simp)]
 simp(disch:=first|(simp;done)|omega|rfl) [-getElem?_pos,A.b145,hlen]
 refine Zal [(2,2),(4,5),(8,17)] (fun e r st=>aL N st.w=[]/\ah h N st.h st.n/\((e=.exit 0/\cN (l.map (fun s=>((aV s:Nat):Int)))=0)\/(e=.ret/\r.get 2=some (.int .i64 (cN (l.map (fun s=>((aV s:Nat):Int)))))))) (fun m r st=>aL N st.w=[]/\ah h N st.h st.n/\∃k,k+m=l.length/\r.get 8=some (.int .i64 k)/\cN (l.map (fun s=>((aV s:Nat):Int)))=cN ((l.drop k).map (fun s=>((aV s:Nat):Int)))) l.length ?_ ?_ ?_
 ·exact⟨by simp,ah.refl,0,by omega,by simp,by simp⟩
 ·rintro m r ⟨H,n1,W⟩ hr ik ⟨hW,hK,k,hk,h7,hz⟩
  simp only at hW hK
  rw[cn]
  cases m with
  |zero=>
   obtain rfl:k=l.length:=by omega
   rw[xD,tV,cN]at hz
   simp(disch:=first|(simp;done)|omega|rfl) [-getElem?_pos,A.pS,hr,ik,h7,hz,hW,hK]
  |succ m=>
   have aW:k<l.length:=by omega
   obtain⟨s,hc⟩:=eQ aW
   obtain⟨i,o,cc,e,rw,q1,q2,q3,q4⟩:=(hs.ai hK).at (KR hc)
   rw[rV hc,Yw1,cN]at hz
   have hk1:(k:Int)<(l.length:Int):=by omega
   simp(disch:=first|(simp;done)|omega|rfl) [-getElem?_pos,A.pS,hr,ik,h7,hk1,aW,hlen,q1,q2,q3,q4]
   refine av (Zrc (rA s (eI hc))) ?_
   rintro _ h3 n3 k3 rfl
   have kk:=hK.trans k3
   by_cases h0:aV s=0
   ·rw[aR (by omega)]at hz
    simp(disch:=first|(simp;done)|omega|rfl) [-getElem?_pos,hr,ik,h7,h0,hW,a_]
    exact⟨m,by omega,kk,k+1,by omega,by simp,by simpa using hz⟩
   ·rw[aA (by omega)]at hz
    simp(disch:=first|(simp;done)|omega|rfl) [-getElem?_pos,hr,ik,h7,h0,hW,a_,hz]
    exact kk
 ·rintro _ r ⟨H,n1,W⟩ hr ⟨hW,hK,⟨rfl,hz⟩|⟨rfl,h2⟩⟩
  ·simp only at hW hK
   simp(disch:=first|(simp;done)|omega|rfl) [-getElem?_pos,hr,hz,Ret,hW,hK]
  ·simp only at hW hK
   simp(disch:=first|(simp;done)|omega|rfl) [-getElem?_pos,hr,h2,Ret,hW,hK]
def Yqd(hs:Sl h N v (strs l))(hl:l.length<100000)(rA:∀s∈l,s.length<=100000):Fn A.C 61 [v] h N (fun u _ _=>u=.int .i64 (ks l)):=by
 intro w
 have hlen:=hs.len
 rw[HZ]at hlen
 rw[aZ,A.k61 (by simp)]
 by_cases c0:l.length=0
 ·have c0':(l.length:Int)=0:=by omega
  have c1':¬13<(l.length:Int):=by omega
  have e1:ks l=12:=by simp[ks,c0]
  simp(disch:=first|(simp;done)|omega|rfl) [-getElem?_pos,A.b61,hlen,c0',wM,a_]
  refine av (Zqk hs hl rA) ?_
  rintro _ h1 n1 k1 rfl
  have hi:n1<n1+1:=by omega
  simp(disch:=first|(simp;done)|omega|rfl) [-getElem?_pos,aj,b_.chk,Zje hi,cN,a_,Ret,e1]
  exact k1.trans (aO ah.refl _)
 have c0':¬(l.length:Int)=0:=by omega
 have ne:¬l=[]:=fun h=>c0 (by rw[h];rfl)
 by_cases c1:13<l.length
 ·have c1':13<(l.length:Int):=by omega
  have e1:ks l=5:=by simp[ks,c0,c1]
  simp(disch:=first|(simp;done)|omega|rfl) [-getElem?_pos,A.b61,hlen,c0',ne,c1',wM,a_]
  refine av (Zqk hs hl rA) ?_
  rintro _ h1 n1 k1 rfl
  have hi:n1<n1+1:=by omega
  simp(disch:=first|(simp;done)|omega|rfl) [-getElem?_pos,aj,b_.chk,Zje hi,cN,a_,Ret,e1]
  exact k1.trans (aO ah.refl _)
 have c1':¬13<(l.length:Int):=by omega
 simp(disch:=first|(simp;done)|omega|rfl) [-getElem?_pos,A.b61,hlen,c0',ne,c1',wM,a_]
 refine av (Zqk hs hl rA) ?_
 rintro _ h1 n1 k1 rfl
 have hi:n1<n1+1:=by omega
 have kD:ah h N (h1.set n1 (.cells [.int .i64 0,.int .i64 0,.int .i64 (gV l)] 26 true)) (n1+1):=k1.trans (aO ah.refl _)
 obtain⟨s,gg⟩:=eQ (l:=l) (k:=l.length-1) (by omega)
 obtain⟨i,o,cc,e,rw,q1,q2,q3,q4⟩:=(hs.ai kD).at (KR gg)
 have d1:((l.length:Int)-1).toNat=l.length-1:=by omega
 have d2:(0:Int)<=(l.length:Int)-1:=by omega
 have d3:(l.length:Int)-1<(l.length:Int):=by omega
 by_cases ca:gV l=0
 ·have e1:ks l=if s=[48] then 6 else 0:=by simp[ks,c0,c1,ca,gg]
  rw[ca]at kD q3
  by_cases cz:s=[48]
  ·rw[e1,aR cz]
   simp(disch:=first|(simp;done)|omega|rfl) [-getElem?_pos,aj,b_.chk,Zje hi,cN,a_,ca,ne,hlen,q1,q2,q3,q4,d1,d2,d3,cz,wM,Ret]
   exact kD
  ·rw[e1,aA cz]
   simp(disch:=first|(simp;done)|omega|rfl) [-getElem?_pos,aj,b_.chk,Zje hi,cN,a_,ca,ne,hlen,q1,q2,q3,q4,d1,d2,d3,cz,wM,Ret]
   exact kD
 ·have e1:ks l=gV l:=by simp[ks,c0,c1,ca]
  rw[e1]
  simp(disch:=first|(simp;done)|omega|rfl) [-getElem?_pos,aj,b_.chk,Zje hi,cN,a_,ca,ne,Ret]
  exact kD
def Yp9(hs:Sl h N v (strs l))(hl:l.length<100000)(rA:∀s∈l,s.length<=100000):Fn A.C 9 [v] h N (fun u _ _=>u=.int .i64 (ks l)):=by
 intro w
 have hlen:=hs.len
 rw[HZ]at hlen
 rw[aZ,A.k9 (by simp)]
 by_cases c0:l.length=0
 ·have c0':(l.length:Int)=0:=by omega
  have e1:ks l=12:=by simp[ks,c0]
  simp(disch:=first|(simp;done)|omega|rfl) [-getElem?_pos,A.b9,hlen,c0',a_,Ret,e1]
  exact ah.refl
 have c0':¬(l.length:Int)=0:=by omega
 have ne:¬l=[]:=fun h=>c0 (by rw[h];rfl)
 by_cases c1:13<l.length
 ·have c1':13<(l.length:Int):=by omega
  have e1:ks l=5:=by simp[ks,c0,c1]
  simp(disch:=first|(simp;done)|omega|rfl) [-getElem?_pos,A.b9,hlen,c0',ne,c1',a_,Ret,e1]
  exact ah.refl
 have c1':¬13<(l.length:Int):=by omega
 simp(disch:=first|(simp;done)|omega|rfl) [-getElem?_pos,A.b9,hlen,c0',ne,c1',a_]
 refine av (Zx7 hs hl fun s h=>by have:=rA s h;omega) ?_
 rintro _ h1 n1 k1 rfl
 rw[show cN (l.map fun s=>((aV s:Nat):Int))=gV l from rfl]
 obtain⟨s,gg⟩:=eQ (l:=l) (k:=l.length-1) (by omega)
 obtain⟨i,o,cc,e,rw,q1,q2,q3,q4⟩:=(hs.ai k1).at (KR gg)
 have d1:((l.length:Int)-1).toNat=l.length-1:=by omega
 have d2:(0:Int)<=(l.length:Int)-1:=by omega
 have d3:(l.length:Int)-1<(l.length:Int):=by omega
 by_cases ca:gV l=0
 ·have e1:ks l=if s=[48] then 6 else 0:=by simp[ks,c0,c1,ca,gg]
  have hq:=(kr (Nh ca s (eI gg))).1
  have ez:s=[48]↔aY s=0:=by
   constructor
   ·intro hc;rw[<-hq,<-xI]at hc;exact Zh8 hc
   ·intro hc;rw[<-hq,hc,xI]
  rw[e1]
  simp only[ez]
  rw[<-hq]at q4
  clear e1 ez hq gg
  generalize aY s=q at*
  by_cases cz:q=0
  ·simp(disch:=first|(simp;done)|omega|rfl) [-getElem?_pos,a_,ca,hlen,q1,q2,q3,q4,d1,d2,d3,cz,Zsw,Ret]
   exact k1
  ·simp(disch:=first|(simp;done)|omega|rfl) [-getElem?_pos,a_,ca,hlen,q1,q2,q3,q4,d1,d2,d3,cz,Zsw,Ret]
   exact k1
 ·have e1:ks l=gV l:=by simp[ks,c0,c1,ca]
  rw[e1]
  simp(disch:=first|(simp;done)|omega|rfl) [-getElem?_pos,a_,ca,Ret]
  exact k1
def pwR(x:Rat):Nat->Rat
 |0=>1
 |k+1=>pwR x k*x
def Ia{c:List V}(h:c.length=4):aK c 0 4=some c:=by unfold aK;rw[h];simp;exact jP (by omega)
def BD{c d:List V}(h:c.length=4)(hd:d.length=4):aj d 0 c=c:=by unfold aj;rw[h];simp[h,hd]
variable {l:List bj}
def A.b62:=A.q Tryz.f62
def A.k62:=@A.kk 62 5 [.tmp 2] A.b62 (by kernel_rfl) rfl
def Zvp{h:T O}{N:Nat}{v:V}{l:List Rat}{k0:Nat}(hs:Sl h N v (tx l))(hl:l.length<1000000000)(hq:∀q∈l,Qb k0 q)(sW:k0<=4000):Fn A.C 125 [v] h N (fun u h' n'=>u=.slice N 0 l.length (some l.length) 4/\jQ h' n' N l 0):=by
 intro w
 have hlen:=hs.len
 rw[Sb]at hlen
 have c1:(64:Int)*(l.length:Int)<=140737488355328:=by omega
 have c2:(l.length:Int)<4611686018427387904:=by omega
 have kB:ah h N (h.set N (.cells (dr zF l.length) 102 true)) (N+1):=ah.refl.new _
 rw[aZ,A.k125 (by simp)]
 simp(disch:=first|(simp;done)|omega|rfl) [-getElem?_pos,A.b125,hlen,c1,c2]
 refine Zal [(4,5),(11,21)] (fun e r st=>e=.exit 0/\FaI h N l 0 r st) (FaI h N l) l.length ?_ ?_ ?_
 ·exact⟨by simp,kB,0,[],by omega,by simp,by simp,by show N<N+1;omega,by rw[T.al,aR rfl];rfl,rfl,fun j q hj=>by omega⟩
 ·rintro m r ⟨H,n1,W⟩ hr hf ⟨hW,hK,k,cs,hk,jR,h3,tW,hM,dW,sX⟩
  simp only at hW hK hM tW sX
  rw[cn]
  cases m with
  |zero=>
   obtain rfl:k=l.length:=by omega
   simp(disch:=first|(simp;done)|omega|rfl) [-getElem?_pos,A.pT,hr,hf,jR]
   exact⟨hW,hK,l.length,cs,by omega,by simp[jR],by simp[h3],tW,hM,dW,sX⟩
  |succ m=>
   have aW:k<l.length:=by omega
   have zij:(k:Int)<(l.length:Int):=by omega
   obtain⟨q,Ib⟩:=eQ aW
   have Ic:=hq q (eI Ib)
   obtain⟨i,o,cc,e,rw,q1,q2,q3,q4⟩:=(hs.ai hK).at (Ykf Ib)
   have la:=BE Ic.1
   have la2:=Ie Ic.2
   simp(disch:=first|(simp;done)|omega|rfl) [-getElem?_pos,A.pT,hr,hf,jR,h3,aW,zij,hlen,q1,q3,q4]
   refine av (Ye6 (q:=q) (by omega) (by omega)) ?_
   rintro _ H2 n2 k2 ik
   obtain⟨c,rfl,hc⟩:=ik.c
   have oH:=k2.le
   have gW:=hK.le
   have tX:=(k2.get N tW).trans hM
   have zdX:∀(j:Nat) (q:Rat),j<cs.length->l[j]?=some q->∃c,cs[j]?=some c/\fz H2 n2 c q:=fun j q hj hq=>by
    obtain⟨c,g1,g2⟩:=sX j q (by omega) hq
    exact⟨c,g1,g2.ai k2⟩
   obtain⟨f1,f2,f3⟩:=Zvs (l:=l) (by omega) zdX
   have oX:=Zbj f1
   obtain⟨e1,e2⟩:=hc.len
   have hsp:aj (cs.flatten++dr zF (m+1)) (k*4) c=(cs++[c]).flatten++dr zF m:=by
    rw[KT,Sd (n:=4) (by rw[oX,dW]) rfl e1,Se,rB]
   have hb:k*4+4<=(cs.flatten++dr zF (m+1)).length:=by
    rw[iJ,oX,Ykc];omega
   have lO:(V.agg c).cells=c:=rfl
   have Dc:sY (cs.flatten++dr zF (m+1)):=f2.app Ni
   have yC:((cs++[c]).flatten++dr zF m).length=(cs.flatten++dr zF (m+1)).length:=by
    rw[KT,Se];simp[e1,zF];omega
   generalize cs.flatten++dr zF (m+1)=X at*
   obtain⟨Y,hY⟩:∃Y,(cs++[c]).flatten++dr zF m=Y:=⟨_,rfl⟩
   rw[hY]at hsp yC
   simp(disch:=first|(simp;done)|omega|rfl) [-getElem?_pos, -V.cells, -V.one,hr,hf,jR,h3,aW,zij,tX,bM,lO,e1,e2,hb,hsp]
   have lP:¬N<N:=by omega
   refine⟨m,by omega,⟨by simp[aL,hW],(hK.trans k2).set (Yv5 N),k+1,cs++[c],by omega,by simp,by simp[h3],by show N<n2;omega,by show T.get _ N=_;rw[T.al,aR rfl,hY],by simp[dW],fun j q' hj Sf=>?_⟩⟩
   by_cases Az:j<k
   ·obtain⟨c',g1,g2⟩:=sX j q' Az Sf
    exact⟨c',by rw[xJ (by omega)];exact g1,(g2.ai k2).ay tX Dc yC⟩
   ·obtain rfl:j=k:=by omega
    rw[Ib]at Sf
    simp only[au]at Sf
    subst Sf
    exact⟨c,by rw[Ig (by omega),dW];simp,hc.ay tX Dc yC⟩
 ·rintro _ r ⟨H,n1,W⟩ hr ⟨rfl,hW,hK,k,cs,hk,jR,h3,tW,hM,dW,sX⟩
  simp only at hW hK hM tW sX
  obtain rfl:k=l.length:=by omega
  simp(disch:=first|(simp;done)|omega|rfl) [-getElem?_pos,hr,h3,Ret,hW,hK]
  have hz:dr zF 0=[]:=by simp[dr]
  obtain⟨f1,_,_⟩:=Zvs (l:=l) (by omega) (fun j q hj hq=>sX j q (by omega) hq)
  have oX:=Zbj f1
  exact⟨tW,cs,hM,dW,fun j q hq=>sX j q (yz hq) hq⟩
def Yhs{h:T O}{N:Nat}{v:V}{l:List Rat}{k0:Nat}(hs:Sl h N v (tx l))(hl:l.length<1000000000)(hq:∀q∈l,Qb k0 q)(sW:k0<=4000):Fn A.C 62 [v] h N (fun u h' n'=>u=.slice N 0 l.length (some l.length) 4/\jQ h' n' N l 0):=by
 intro w
 rw[aZ,A.k62 (by simp)]
 simp(disch:=first|(simp;done)|omega|rfl) [-getElem?_pos,A.b62]
 refine av (Zvp hs hl hq sW) ?_
 rintro _ h1 n1 k1 ⟨rfl,hu⟩
 simp(disch:=first|(simp;done)|omega|rfl) [-getElem?_pos,Ret]
 exact⟨k1,hu⟩
def ziB(l:List bj):List Rat:=l.map aY
def Ymk(h:gV l=0):strs l=tx (ziB l):=by
 unfold tx ziB
 congr 1
 rw[List.map_map]
 conv=>lhs;rw[<-List.map_id l]
 apply Nj
 intro s hs
 exact((kr (Nh h s hs)).1).symm
def Yht{l:List bj}:(ziB l).length=l.length:=by simp[ziB]
def Yti(h:ks l=0):0<l.length/\l.length<=13/\gV l=0/\pg (ziB l) (l.length-1)≠0:=by
 unfold ks at h
 split at h
 ·omega
 rename_i h0
 split at h
 ·omega
 rename_i h1
 split at h
 ·rename_i ha
  split at h
  ·omega
  rename_i hz
  refine⟨by omega,by omega,ha,fun hc=>hz ?_⟩
  obtain⟨s,hs⟩:=eQ (l:=l) (k:=l.length-1) (by omega)
  have e:pg (ziB l) (l.length-1)=aY s:=by simp[pg,ziB,hs]
  rw[e]at hc
  rw[hs,<-(kr (Nh ha s (eI hs))).1,hc,xI]
 ·omega
def Ytr(p:List Rat)(x:Rat):Nat->Rat
 |0=>0
 |k+1=>Ytr p x k*x+pg p (p.length-1-k)
def Ytf(p:List Rat)(x:Rat):Rat:=Ytr p x p.length
open Go
def Xhg(r:T V)(n:Nat)(ps:List Nat)(a b:cC)(d:Nat):Yrr:={st:=.ready,iD:=none,r:=r,n:=n,ps:=ps,assign:=a,body:=b,defs:=d}
def Xgg:Option Ex->Ex
 |none=>.normal
 |some e=>e
def Xgv{C:Cx}{K:List Kf}{Q:Rs->Prop}{g:Src}{ps:List Nat}{a b:cC}{r:T V}{n N:Nat}{h:T O}{w:List Nat}{gv:V}{P:V->St->Prop}(hg:g.ev r=some gv)(hy:gv.LQ=false)(hc:Call C gv [.yield (N+1)] ⟨(h.set N (.defs true)).set (N+1) (.loop (Xhg r n ps a b N)),N+1+1,w⟩ P)(k:∀v st',P v st'->∃R,st'.h.get (N+1)=some (.loop R)/\R.st≠.busy/\Run C K (some (.ex (Xgg R.iD) ⟨r,n,[N]⟩ (st'.write (N+1) (.loop {R with st:=.exhausted})))) Q):Run C K (fx (C.code none (.zim g ps a b) ⟨r,n,[]⟩ ⟨h,N,w⟩)) Q:=by
 obtain⟨v,st',e,p⟩:=hc.ex
 obtain⟨R,h1,h2,h3⟩:=k v st' p
 have e2:C.code none (.zim g ps a b) ⟨r,n,[]⟩ ⟨h,N,w⟩=some (Xgg R.iD,⟨r,n,[N]⟩,st'.write (N+1) (.loop {R with st:=.exhausted})):=by
  rw[Cx.dJ]
  show B6 g ps a b C.call C.code none ⟨r,n,[]⟩ ⟨h,N,w⟩=_
  unfold B6
  simp only[hg,hy,Zuk,St.alloc]
  unfold Xhg at e
  simp only[gj,if_false,e,h1,h2]
  unfold Xgg
  rfl
 rw[e2]
 exact h3
def Xgq{C:Cx}{K:List Kf}{Q:Rs->Prop}{rs:List Iw}{st:St}{e:Ex}{r:T V}{n d:Nat}{h1:T O}{n1:Nat}{w1:List Nat}(hd:h1.get d=some (.defs true))(he:∀i,e≠.exit i):Run C (.fin rs st::K) (some (.ex e ⟨r,n,[d]⟩ ⟨h1,n1,w1⟩)) Q↔Run C K (Ytc (h1.set d (.defs false)) n1 (aL st.n (d::w1)++st.w) (gJ r ⟨h1.set d (.defs false),n1,d::w1⟩ rs)) Q:=iW (by
 have:shut ⟨h1,n1,w1⟩ [d]=some ⟨h1.set d (.defs false),n1,d::w1⟩:=by
  unfold shut
  simp only[hd]
  rfl
 cases e with
 |exit i=>exact absurd rfl (he i)
 |normal=>
  simp only[iV,l9,sE,this]
  rcases gJ r _ rs with _|_<;>rfl
 |ret=>
  simp only[iV,l9,sE,this]
  rcases gJ r _ rs with _|_<;>rfl)
def Xgz{C:Cx}{l:Nat}{args:List V}{st:St}{R:Yrr}{r0:T V}{P:V->St->Prop}(hx:C.x (.yield l) args st=none)(hl:st.h.get l=some (.loop R))(hs:R.st=.ready)(hp:I7 R.r R.n R.ps args=some r0)(hc:Code C (some l) R.assign ⟨r0,R.n,[]⟩ st (fun e fr cj=>e=.normal/\cj.h.get l=some (.loop R)/\Code C (some l) R.body fr (cj.write l (.loop {R with st:=.busy})) (fun e2 _ fh=>∃R2,fh.h.get l=some (.loop R2)/\P (.bool (Zev e2).isNone) (fh.write l (.loop {R2 with st:=Oe (Zev e2),iD:=Zev e2}))))):Call C (.yield l) args st P:=by
 obtain⟨e,fr,cj,e1,rfl,g1,hb⟩:=hc.ex
 obtain⟨e2,yc,fh,e3,R2,g2,p⟩:=hb.ex
 refine⟨_,_,?_,p⟩
 rw[Cx.qI]
 unfold rZ
 rw[hx]
 show I8 C.code l args st=_
 unfold I8
 simp only[hl,hp,e1,g1,hs,if_true,e3,g2]
def Yvu(x:V)(bad:Int)(q:Rat):Prop:=(bad≠0/\x=.aX [.str [],.int .i64 bad])\/(bad=0/\x=if vk q=true then .aX [.str [],.int .i64 4] else .aX [.str (Zao q),.int .i64 0])
def Db(D B:Nat)(q:Rat):Prop:=∃z:Int,q*(D:Rat)=(z:Rat)/\z.natAbs<=B
def Db.own{k:Nat}{q:Rat}(h:Qb k q):Db q.den (2^k) q:=⟨q.num,by
 have h1:=AA q
 rw[Rat.divInt_eq_div]at h1
 have h2:(((q.den:Nat):Int):Rat)=(q.den:Rat):=rfl
 rw[h2]at h1
 have hD:(q.den:Rat)≠0:=by
  intro hc
  have:((q.den:Nat):Rat)=((0:Nat):Rat):=hc
  rw[Rat.natCast_inj]at this
  have:=q.den_pos
  omega
 grind,by have:=h.1;omega⟩
def Yrg(l:List bj):Int:=if 64<l.length then 5 else gV l
structure RnH (g l p:bj) (D:Int) (d:List bj):Prop where
 lg:g.length<=40
 ll:l.length<=40
 lp:p.length<=40
 ld:d.length<100000
 fd:∀s∈d,s.length<=64
 q:gT g l p D=0->Qb 40 (aY g)/\Qb 40 (aY l)/\Qb 40 (aY p)
 s:Yrg d=0->d.length<=12
def A.b60:=A.q Tryz.f60
def A.k60:=@A.kk 60 31 [.tmp 4] A.b60 (by kernel_rfl) rfl
def A.w10:=A.q Tryz.f10
def A.tY:=A.ql A.w10 0 []
def A.b10:=(fun x0=>A.qb A.w10 [x0]) A.tY
def A.k10:=@A.kk 10 25 [.tmp 6] A.b10 (by kernel_rfl) rfl
def Nk(q:Rat)(d:Nat):Bool:=decide ((aq q.num.natAbs).length<=d)&&decide ((aq q.den).length<=d)
def pU(s:bj)(d:Nat):Bool:=decide (s.length<=2*d+2)&&(decide (aV s=0)&&Nk (aY s) d)
def wO(l:List bj)(n d:Nat):Bool:=decide (l.length<=n)&&l.all fun s=>pU s d
def Ztz(q:Rat):(aU q.num).length<=(Zao q).length:=by
 unfold Zao
 split<;>simp
def Yfd{h:T O}{N d:Nat}{s:bj}(hd:d<=100):Fn A.C 60 [.str s,.int .i64 (d:Nat)] h N (fun u _ _=>u=.bool (pU s d)):=by
 intro w
 rw[aZ,A.k60 (by simp)]
 by_cases c1:s.length<=2*d+2
 ·have c1':(s.length:Int)<=2*(d:Int)+2:=by omega
  simp(disch:=omega) [A.b60,c1']
  refine av (Ycy (s:=s) (by omega)) ?_
  rintro _ h1 n1 k1 rfl
  by_cases c2:aV s=0
  ·have et:=(kr c2).1
   obtain⟨q,hq⟩:∃q,aY s=q:=⟨_,rfl⟩
   rw[hq]at et
   have hl:(Zao q).length<1000000000:=by rw[et];omega
   have e1:=fun st=>Ymx (q:=q) (st:=st) hl
   have e2:=fun st=>Yok (q:=q) (st:=st) hl
   rw[et]at e1 e2
   have yD:(aU q.num).length<1000000000:=by
    have:=Ztz q
    rw[et]at this
    omega
   have e3:=fun st=>Yo5 (z:=q.num) (st:=st) yD
   by_cases c3:(aq q.num.natAbs).length<=d
   ·have c3':((aq q.num.natAbs).length:Int)<=(d:Int):=by omega
    by_cases c4:(aq q.den).length<=d
    ·have c4':((aq q.den).length:Int)<=(d:Int):=by omega
     simp[c2,e1,e2,e3,c3',c4',Ret]
     exact⟨k1,by simp[pU,Nk,c1,c2,hq,c3,c4]⟩
    ·have c4':¬((aq q.den).length:Int)<=(d:Int):=by omega
     simp[c2,e1,e2,e3,c3',c4',Ret]
     exact⟨k1,by simp[pU,Nk,c1,c2,hq,c3,c4]⟩
   ·have c3':¬((aq q.num.natAbs).length:Int)<=(d:Int):=by omega
    simp[c2,e1,e3,c3',Ret]
    exact⟨k1,by simp[pU,Nk,c1,c2,hq,c3]⟩
  ·have c2':¬((aV s:Nat):Int)=0:=by omega
   simp[c2,Ret]
   exact⟨k1,by simp[pU,c2]⟩
 ·have c1':¬(s.length:Int)<=2*(d:Int)+2:=by omega
  simp(disch:=omega) [A.b60,c1',Ret]
  exact⟨ah.refl,by simp[pU,c1]⟩
def Yn4{h:T O}{N d n:Nat}{v:V}{l:List bj}(hs:Sl h N v (strs l))(hl:l.length<9223372036854775808)(hd:d<=100)(hn:n<=1000):Fn A.C 10 [v,.int .i64 (n:Nat),.int .i64 (d:Nat)] h N (fun u _ _=>u=.bool (wO l n d)):=by
 intro w
 have hlen:=hs.len
 rw[HZ]at hlen
 rw[aZ,A.k10 (by simp)]
 by_cases c0:l.length<=n
 ·have c0':¬(n:Int)<(l.length:Int):=by omega
  have e0:wO l n d=l.all fun s=>pU s d:=by simp[wO,c0]
  rw[e0]
  simp[A.b10,hlen,c0']
  refine Zal [(6,7),(12,24)] (fun e r st=>aL N st.w=[]/\ah h N st.h st.n/\((e=.exit 0/\(l.all fun s=>pU s d)=true)\/(e=.ret/\(l.all fun s=>pU s d)=false/\r.get 6=some (.bool false)))) (fun m r st=>aL N st.w=[]/\ah h N st.h st.n/\∃k,k+m=l.length/\r.get 7=some (.int .i64 k)/\(l.all fun s=>pU s d)=((l.drop k).all fun s=>pU s d)) l.length ?_ ?_ ?_
  ·exact⟨by simp,ah.refl,0,by omega,by simp,by simp⟩
  ·rintro m r ⟨H,n1,W⟩ hr hf ⟨hW,hK,k,hk,h7,hz⟩
   simp only at hW hK
   rw[cn]
   cases m with
   |zero=>
    obtain rfl:k=l.length:=by omega
    rw[xD,List.all_nil]at hz
    simp[A.tY,hr,hf,h7,hlen,hW,hK]
    simpa using hz
   |succ m=>
    have aW:k<l.length:=by omega
    have zij:(k:Int)<(l.length:Int):=by omega
    obtain⟨s,hsk⟩:=eQ aW
    obtain⟨i,o,cc,e,rw,q1,q2,q3,q4⟩:=(hs.ai hK).at (KR hsk)
    rw[rV hsk,List.all_cons]at hz
    simp[A.tY,hr,h7,hlen,zij,q1,q3,q4]
    refine av (Yfd (s:=s) hd) ?_
    rintro _ h3 n3 k3 rfl
    have kk:=hK.trans k3
    cases xK:pU s d with
    |true=>
     rw[xK,Bool.true_and]at hz
     simp(disch:=first|(simp;done)|omega|rfl) [hf,h7,hW]
     exact⟨m,by omega,kk,k+1,by omega,by simp,by simpa using hz⟩
    |false=>
     rw[xK,Bool.false_and]at hz
     simp[hf,hW]
     exact⟨kk,by simpa using hz⟩
  ·rintro e r ⟨H,n1,W⟩ hr ⟨hW,hK,⟨rfl,hz⟩|⟨rfl,hz,h6⟩⟩
   ·simp only at hW hK
    simp[Ret,hW,hK]
    simpa using hz
   ·simp only at hW hK
    simp[h6,Ret,hW,hK]
    simpa using hz
 ·have c0':(n:Int)<(l.length:Int):=by omega
  simp[A.b10,hlen,c0',Ret]
  exact⟨ah.refl,by simp[wO,c0]⟩
def A.b24:=A.q Tryz.f24
def A.k24:=@A.kk 24 31 [.tmp 6] A.b24 (by kernel_rfl) rfl
def Yas{g l p:bj}{D:Int}{n dd:Nat}{h:T O}{N:Nat}(hg:g.length<=40)(hl:l.length<=40)(hp:p.length<=40)(hd:dd<=100)(hn:n<=1000):Fn A.C 24 [.agg [.str g,.str l,.str p,.int .i64 D],.int .i64 (dd:Nat),.int .i64 (n:Nat)] h N (fun u _ _=>u=.bool (decide (gT g l p D=0)&&(wO [g,l,p] 3 dd&&decide (D<=(n:Int))))):=by
 intro w
 have kB:ah h N (h.set N (.cells [.str g,.str l,.str p,.int .i64 D] 50 true)) (N+1):=ah.refl.new _
 have b0:(h.set N (.cells [.str g,.str l,.str p,.int .i64 D] 50 true)).get N=some (.cells [.str g,.str l,.str p,.int .i64 D] 50 true):=by simp
 rw[aZ,A.k24 (by simp)]
 simp(disch:=first|(simp;done)|omega|rfl) [-getElem?_pos,A.b24,aI,aK]
 generalize h.set N (.cells [.str g,.str l,.str p,.int .i64 D] 50 true)=HB at*
 refine av (Zwu (by omega) (by omega) (by omega)) ?_
 rintro _ h1 n1 k1 rfl
 have xF:=k1.le
 have b1:=(k1.get N (by omega)).trans b0
 have l1:N<n1:=by omega
 simp(disch:=first|(simp;done)|omega|rfl) [-getElem?_pos,hg,hl,hp,b1,l1,aI,aK]
 refine av (Ymj (by omega) (by omega) (by omega)) ?_
 rintro _ h2 n2 k2 rfl
 have oH:=k2.le
 have b2:=(k2.get N (by omega)).trans b1
 have l2:N<n2:=by omega
 by_cases c:gT g l p D=0
 ·have kS:ah h2 n2 (h2.set n2 (.cells [.str g,.str l,.str p] 30 true)) (n2+1):=ah.refl.new _
  have sl3:Sl (h2.set n2 (.cells [.str g,.str l,.str p] 30 true)) (n2+1) (.slice n2 0 3 (some 3) 1) (strs [g,l,p]):=Sl.row (e:=30) (rw:=true) (cp:=some 3) (by omega) (by simp[strs]) rfl (by simp)
  have b3:=(kS.get N (by omega)).trans b2
  simp(disch:=first|(simp;done)|omega|rfl) [-getElem?_pos,c,a_,b2,l2,aj]
  have fl:=Yn4 (d:=dd) (n:=3) sl3 (by simp) hd (by decide)
  refine av fl ?_
  rintro _ h3 n3 k3 rfl
  have KU:=k3.le
  have b4:=(k3.get N (by omega)).trans b3
  have l3:N<n3:=by omega
  by_cases c2:wO [g,l,p] 3 dd=true
  ·simp(disch:=first|(simp;done)|omega|rfl) [-getElem?_pos,c2,b4,l3,Ret]
   exact((kB.trans k1).trans k2).trans (kS.trans k3)
  ·have c2':wO [g,l,p] 3 dd=false:=by simpa using c2
   simp(disch:=first|(simp;done)|omega|rfl) [-getElem?_pos,c2',b4,l3,Ret]
   exact((kB.trans k1).trans k2).trans (kS.trans k3)
 ·simp(disch:=first|(simp;done)|omega|rfl) [-getElem?_pos,c,a_,Ret]
  exact(kB.trans k1).trans k2
def A.b33:=A.q Tryz.f33
def A.k33:=@A.kk 33 13 [.cell 4 (some 4)] A.b33 (by kernel_rfl) rfl
def Ybp{g l p:bj}{D:Int}{x:bj}{h:T O}{N:Nat}:Fn A.C 33 [.agg [.str g,.str l,.str p,.int .i64 D],.str x] h N (fun u _ _=>u=.agg [.str x,.str l,.str p,.int .i64 D]):=by
 intro w
 rw[aZ,A.k33 (by simp)]
 simp(disch:=first|(simp;done)|omega|rfl) [-getElem?_pos,A.b33,aI,aK,aj,bM,Ret]
 exact((aO ah.refl _).trans (aO ah.refl _)).set (by omega)
end
end Go.Mx
