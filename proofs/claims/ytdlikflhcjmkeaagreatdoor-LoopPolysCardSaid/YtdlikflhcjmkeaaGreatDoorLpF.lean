/-loop-/
import Derived.Test.YtdlikflhcjmkeaaGreatDoorLpC
set_option linter.all false
set_option maxHeartbeats 4000000
namespace Go.Mx
noncomputable section
open Go Go.Proofs
variable {N k:Nat} {h:T O}
set_option maxRecDepth 1000000
def A.w208:=A.q Tryz.f208
def A.lb208_0:=A.ql A.w208 0 []
def A.b208:=(fun x0=>A.qb A.w208 [x0]) A.lb208_0
def A.k208:=@A.kk 208 19 [.tmp 4] A.b208 (by kernel_rfl) rfl
def Yjg{v f:V}(l:List (List V))(p:Nat→Bool)(hs:Sn 4 h N v l)(hl:l.length<1152921504606846976)(hf:∀(j:Nat) (x:List V),l[j]?=some x→∀h' n',Keeps h N h' n'→FnV A.C f [.agg x] h' n' (fun u _ _=>u=.bool (p j))):Fn A.C 208 [v,f] h N (fun u _ _=>u=.int .i64 (Zfk p 0 l.length)):=by
 intro w
 have hlen:=hs.len
 rw[Zab,A.k208 (by simp)]
 simp[A.b208,hlen]
 refine Zaj [(4,5),(8,18)] (fun e r st=>Zac N st.w=[]∧Keeps h N st.h st.n∧((e=.exit 0∧Zfk p 0 l.length= -1)∨(e=.ret∧r.get 4=some (.int .i64 (Zfk p 0 l.length))))) (fun m r st=>Zac N st.w=[]∧Keeps h N st.h st.n∧∃k,k+m=l.length∧r.get 8=some (.int .i64 k)∧Zfk p 0 l.length=Zfk p k m) l.length ?_ ?_ ?_
 ·exact⟨by simp,Keeps.refl,0,by omega,by simp,rfl⟩
 ·rintro m r ⟨H,n1,W⟩ hr hf2 ⟨hW,hK,k,hk,h8,hz⟩
  simp only at hW hK
  rw[Zai]
  cases m with
  |zero=>
   have:k=l.length:=by omega
   subst this
   simp only[Zfk]at hz
   simp[A.lb208_0,hr,hf2,h8,hW,hK,hz]
  |succ m=>
   have hlt:k<l.length:=by omega
   obtain⟨c,hc⟩:=Zan hlt
   obtain⟨i,o,cc,e,rw,q1,q2,q3,q4⟩:=hs.at hc
   have q3:=(hK.get _ q2).trans q3
   have hk1:(k:Int)<(l.length:Int):=by omega
   simp only[Zfk]at hz
   simp[A.lb208_0,hr,h8,hk1,hlen,q1,q3,q4]
   refine Yhy (hf k c hc _ _ hK) ?_
   rintro v h2 n2 k2 rfl
   have kk:=hK.trans k2
   cases hp:p k
   ·rw[hp]at hz
    simp(disch:=first|(simp;done)|omega|rfl) [hf2,h8,hW,kk]
    exact⟨m,by omega,k+1,by omega,by simp,by simpa using hz⟩
   ·rw[hp]at hz
    simp[hf2,hW,kk]
    simpa using hz.symm
 ·rintro e r ⟨H,n1,W⟩ hr ⟨hW,hK,⟨rfl,hz⟩|⟨rfl,h4⟩⟩
  ·simp only at hW hK
   simp[hz,Ret,hW,hK]
  ·simp only at hW hK
   simp[h4,Ret,hW,hK]
def A.b149:=A.q Tryz.f149
def A.k149:=@A.kk 149 9 [.tmp 4] A.b149 (by kernel_rfl) rfl
def A.b76:=A.q Tryz.f76
def A.k76:=@A.kk 76 8 [.tmp 2,.tmp 3] A.b76 (by kernel_rfl) rfl
def A.b82:=A.q Tryz.f82
def A.k82:=@A.kk 82 8 [.tmp 2,.tmp 3] A.b82 (by kernel_rfl) rfl
def A.b27:=A.q Tryz.f27
def A.k27:=@A.kk 27 15 [.tmp 2,.tmp 3] A.b27 (by kernel_rfl) rfl
def Yfj{v f:V}(l:List (List V))(p:Nat→Bool)(hs:Sn 4 h N v l)(hl:l.length<1152921504606846976)(hf:∀(j:Nat) (x:List V),l[j]?=some x→∀h' n',Keeps h N h' n'→FnV A.C f [.agg x] h' n' (fun u _ _=>u=.bool (p j))):Fn A.C 149 [v,f] h N (fun u _ _=>u=.bool (decide (0≤Zfk p 0 l.length))):=by
 intro w
 rw[Zab,A.k149 (by simp)]
 simp[A.b149]
 refine Zaa (Yjg l p hs hl hf) ?_
 rintro v h2 n2 k2 rfl
 simp[Ret,k2]
def Zxu{l:List Rat}:decide (0≤Zfk (fun j=>Zrn (l[j]?.getD 0)) 0 l.length)=Zcy l:=by
 rw[Bool.eq_iff_iff,decide_eq_true_eq,Zrb]
 unfold Zcy
 rw[List.any_eq_true]
 constructor
 ·rintro⟨j,_,h2,h3⟩
  obtain⟨q,hq⟩:=Zan (l:=l) (k:=j) (by omega)
  rw[hq]at h3
  exact⟨q,Yqn hq,h3⟩
 ·rintro⟨q,hq,h3⟩
  obtain⟨j,hj⟩:=Ytr hq
  exact⟨j,Ysz _,by have:=Zct hj;omega,by rw[hj];exact h3⟩
def Yda{h:T O}{N:Nat}{u:V}{l:List Rat}{k:Nat}(hu:FrS h N u l)(hP:P10 h N)(hl:l.length<1000000000)(hq:∀q∈l,Qb k q)(hk:k≤400000000):Fn A.C 76 [u] h N (fun x h' n'=>(Zcy l=true∧x=.tup [.nilslice,.int .i64 4])∨(Zcy l=false∧∃v,x=.tup [v,.int .i64 0]∧TxT h' n' v l)):=by
 intro w
 obtain⟨cs,s1,s2,s3⟩:=id hu
 have key:=Yfj (f:=.func 150 [] []) cs (fun j=>Zrn (l[j]?.getD 0)) s1 (by omega) (fun j x hx h' n' hk'=>by
  obtain⟨q,hqj⟩:=Zan (l:=l) (k:=j) (by have:=Zct hx;omega)
  obtain⟨c,g1,g2⟩:=s3 j q hqj
  rw[hx]at g1
  obtain rfl:x=c:=by simpa using g1
  simp only[hqj,Option.getD_some]
  exact Zra (g2.keep hk').fc (hP.keep hk') (hq q (Yqn hqj)) (by omega))
 rw[s2,Zxu]at key
 rw[Zab,A.k76 (by simp)]
 simp(disch:=first|(simp;done)|omega|rfl) [-getElem?_pos,A.b76]
 refine Zaa key ?_
 rintro _ h2 n2 k2 rfl
 cases hb:Zcy l with
 |true=>
  simp(disch:=first|(simp;done)|omega|rfl) [-getElem?_pos,Ret]
  exact k2
 |false=>
  simp(disch:=first|(simp;done)|omega|rfl) [-getElem?_pos,]
  refine Zaa (Ydd (k0:=k) (hu.keep k2) (hP.keep k2) hl hq hk) ?_
  rintro v h3 n3 k3 t1
  simp(disch:=first|(simp;done)|omega|rfl) [-getElem?_pos,Ret]
  exact⟨k2.trans k3,t1⟩
def Zze{h:T O}{N k:Nat}{x:V}{q:Rat}(hx:Fc h N x q)(hP:P10 h N)(hq:Qb k q)(hk:k≤400000000):Fn A.C 82 [x] h N (fun v _ _=>v=if Zrn q=true then .tup [.str [],.int .i64 4] else .tup [.str (Zaq q),.int .i64 0]):=by
 intro w
 rw[Zab,A.k82 (by simp)]
 obtain⟨n1,u1,n2,u2,rfl,s1,s2⟩:=hx
 have o1:=Zat s1
 have o2:=Zat s2
 unfold V.one at o1 o2
 have kB:Keeps h N (h.set N (.cells [.int .i64 n1,u1,.int .i64 n2,u2] 102 true)) (N+1):=kset Keeps.refl _
 have b0:(h.set N (.cells [.int .i64 n1,u1,.int .i64 n2,u2] 102 true)).get N=some (.cells [.int .i64 n1,u1,.int .i64 n2,u2] 102 true):=by simp
 simp(disch:=first|(simp;done)|omega|rfl) [-getElem?_pos,A.b82,Zah,slc,o1,o2]
 generalize hhB:h.set N (.cells [.int .i64 n1,u1,.int .i64 n2,u2] 102 true)=hB at*
 clear hhB
 have hx:Fc hB (N+1) (.agg [.int .i64 n1,u1,.int .i64 n2,u2]) q:=⟨n1,u1,n2,u2,rfl,s1.keep kB,s2.keep kB⟩
 have hPB:=hP.keep kB
 have lg:=Zra hx hPB hq hk
 refine Zaa lg ?_
 rintro _ h2 m2 k2 rfl
 have le2:=k2.le
 have f2:=(k2.get N (by omega)).trans b0
 have e2:N<m2:=by omega
 cases hb:Zrn q with
 |true=>
  simp(disch:=first|(simp;done)|omega|rfl) [-getElem?_pos,Ret]
  exact kB.trans k2
 |false=>
  simp(disch:=first|(simp;done)|omega|rfl) [-getElem?_pos,f2,e2,Zah,slc]
  refine Zaa (Zyt (hx.keep k2) (hPB.keep k2) (by have:=Zit hq.1;omega) (by have:=Zit hq.2;omega)) ?_
  rintro _ h3 m3 k3 rfl
  simp(disch:=first|(simp;done)|omega|rfl) [-getElem?_pos,Ret]
  exact(kB.trans k2).trans k3
def Zm4{g l p:Rat}{d:Nat}(bg:Qb k g)(bl:Qb k l)(bp:Qb k p)(hk:1≤k):∀q∈Za6 g l p d,Qb (3*k+2) q:=by
 intro q hm
 have b0:Qb k 0:=(Qb.int (z:=0) (k:=1) (by decide) (by decide)).mono hk
 have b1:Qb k 1:=(Qb.int (z:=1) (k:=1) (by decide) (by decide)).mono hk
 unfold Za6 at hm
 rcases Yr5 hm with hm|rfl
 ·rcases Yr5 hm with hm|rfl
  ·rcases Yr5 hm with hm|rfl
   ·rcases Yr5 hm with hm|rfl
    ·obtain⟨_,_,rfl⟩:=Yts.1 hm
     exact b0.mono (by omega)
    ·exact b1.mono (by omega)
   ·exact bl.neg.mono (by omega)
  ·have bz:Qb k (if d=0 then -l else 0):=by
    split
    ·exact bl.neg
    ·exact b0
   exact((bz.add bg).add bp).mono (by omega)
 ·exact bp.neg.mono (by omega)
def Zx8{g l p:Str}{d:Int}{n:Nat}(hP:P10 h N)(hg:g.length≤n)(hl:l.length≤n)(hp:p.length≤n)(hn:n≤12000):Fn A.C 27 [.agg [.str g,.str l,.str p,.int .i64 d]] h N (fun x h' n'=>(Zbj g l p d≠0∧x=.tup [.nilslice,.int .i64 (Zbj g l p d)])∨(Zbj g l p d=0∧((Zcy (Za6 (ratS g) (ratS l) (ratS p) d.toNat)=true∧x=.tup [.nilslice,.int .i64 4])∨(Zcy (Za6 (ratS g) (ratS l) (ratS p) d.toNat)=false∧∃v,x=.tup [v,.int .i64 0]∧TxT h' n' v (Za6 (ratS g) (ratS l) (ratS p) d.toNat))))):=by
 intro w
 rw[Zab,A.k27 (by simp)]
 have kB:=kset (Keeps.refl (h:=h) (n:=N)) (.cells [.str g,.str l,.str p,.int .i64 d] 48 true)
 have b0:(h.set N (.cells [.str g,.str l,.str p,.int .i64 d] 48 true)).get N=some (.cells [.str g,.str l,.str p,.int .i64 d] 48 true):=by simp
 simp(disch:=first|(simp;done)|omega|rfl) [-getElem?_pos,A.b27,Zah,slc]
 generalize h.set N (.cells [.str g,.str l,.str p,.int .i64 d] 48 true)=hB at*
 refine Zaa (Ycf hg hl hp (by omega)) ?_
 rintro _ h1 n1 k1 rfl
 have le1:=k1.le
 have f1:=(k1.get N (by omega)).trans b0
 have e1:N<n1:=by omega
 by_cases c:Zbj g l p d=0
 ·have hc:=c
  unfold Zbj at hc
  split at hc
  ·rename_i h00
   obtain⟨n0,n1'⟩:=Zio h00
   split at hc
   ·omega
   ·obtain⟨n2',dd⟩:=Zio hc
    have hd0:¬(d<0∨6<d):=fun hx=>by rw[Yqi hx]at dd;omega
    obtain⟨cg,_⟩:=Zz7 n0
    obtain⟨cl,_⟩:=Zz7 n1'
    obtain⟨cp,_⟩:=Zz7 n2'
    have qg:=Ze6 cg hg
    have ql:=Ze6 cl hl
    have qp:=Ze6 cp hp
    have eg:=(Zco cg).1
    have el:=(Zco cl).1
    have ep:=(Zco cp).1
    obtain⟨dn,rfl⟩:∃dn:Nat,d=(dn:Int):=⟨d.toNat,by omega⟩
    rw[Int.toNat_natCast]
    generalize ratS g=qg' at*
    generalize ratS l=ql' at*
    generalize ratS p=qp' at*
    subst eg el ep
    simp(disch:=first|(simp;done)|omega|rfl) [-getElem?_pos,c,Zak,f1,e1,Zah,slc]
    refine Zaa (Ygc qg ql qp (by omega) (by omega)) ?_
    rintro v2 h2 n2 k2 hv
    have qc:∀q∈Za6 qg' ql' qp' dn,Qb (3*(4*n+4)+2) q:=Zm4 qg ql qp (by omega)
    simp(disch:=first|(simp;done)|omega|rfl) [-getElem?_pos,]
    refine Zaa (Yda (k:=3*(4*n+4)+2) hv.1 (((hP.keep kB).keep k1).keep k2) (by simp[Za6];omega) qc (by omega)) ?_
    rintro v3 h3 n3 k3 hv3
    rcases hv3 with⟨a1,rfl⟩|⟨a1,v4,rfl,t1⟩
    ·simp(disch:=first|(simp;done)|omega|rfl) [-getElem?_pos,Ret,a1]
     exact((kB.trans k1).trans k2).trans k3
    ·simp(disch:=first|(simp;done)|omega|rfl) [-getElem?_pos,Ret,a1]
     exact⟨((kB.trans k1).trans k2).trans k3,t1⟩
  ·rename_i h00;exact absurd hc h00
 ·simp(disch:=first|(simp;done)|omega|rfl) [-getElem?_pos,c,Zak,Ret]
  exact kB.trans k1
def A.b104:=A.q Tryz.f104
def A.k104:=@A.kk 104 19 [.tmp 4] A.b104 (by kernel_rfl) rfl
def A.b28:=A.q Tryz.f28
def A.k28:=@A.kk 28 26 [.tmp 2,.tmp 3] A.b28 (by kernel_rfl) rfl
def Zgg{g l p:Rat}{d:Nat}:(Za6 g l p d).length=d+3∧pg (Za6 g l p d) (d+2)=1:=by
 have e:(Za6 g l p d).length=d+3:=by simp[Za6]
 refine⟨e,?_⟩
 unfold pg Za6
 rw[Yqj (by omega),Yqj (by omega),Yqj (by omega),Yq7 (by simp)]
 rfl
def stQ(g l p:Rat)(d:Nat):Bool:=stabQ (d+3) (Za6 g l p d)
def Yn9{g l p:Str}{d:Int}(h:Zbj g l p d=0):chkNum g=0∧chkNum l=0∧chkNum p=0∧∃dn:Nat,d=(dn:Int)∧dn≤6∧¬ratS g<0∧¬ratS l<0∧¬1<ratS l∧¬ratS p<0:=by
 unfold Zbj at h
 split at h
 ·rename_i h00
  obtain⟨n0,n1⟩:=Zio h00
  split at h
  ·omega
  ·rename_i hl1
   obtain⟨n2,dd⟩:=Zio h
   have hd0:¬(d<0∨6<d):=fun hx=>by rw[Yqi hx]at dd;omega
   exact⟨(Zz7 n0).1,(Zz7 n1).1,(Zz7 n2).1,d.toNat,by omega,by omega,(Zz7 n0).2,(Zz7 n1).2,hl1,(Zz7 n2).2⟩
 ·rename_i h00;exact absurd h h00
def You{k d:Nat}(hk:k≤494)(hd:d≤6):k*5^(d+3-1)≤400000000:=by
 have h1:5^(d+3-1)≤5^8:=Yq3 (by omega) (by omega)
 have h2:=Yr1 hk h1
 have:494*5^8=192968750:=by decide
 omega
def Yj2{g l p:Str}{d e:Int}{h:T O}{N:Nat}(hg:g.length≤40)(hl:l.length≤40)(hp:p.length≤40):Fn A.C 104 [.agg [.str g,.str l,.str p,.int .i64 d],.int .i64 e] h N (fun x _ _=>x=.int .i64 (if Zau [Zbj g l p d,e]=0 then (if stQ (ratS g) (ratS l) (ratS p) d.toNat=true then 0 else 15) else Zau [Zbj g l p d,e])):=by
 intro w
 rw[Zab,A.k104 (by simp)]
 have kB:=kset (Keeps.refl (h:=h) (n:=N)) (.cells [.str g,.str l,.str p,.int .i64 d] 48 true)
 have b0:(h.set N (.cells [.str g,.str l,.str p,.int .i64 d] 48 true)).get N=some (.cells [.str g,.str l,.str p,.int .i64 d] 48 true):=by simp
 simp(disch:=first|(simp;done)|omega|rfl) [-getElem?_pos,A.b104,Zah,slc]
 generalize h.set N (.cells [.str g,.str l,.str p,.int .i64 d] 48 true)=hB at*
 refine Zaa (Ycf hg hl hp (by omega)) ?_
 rintro _ h1 n1 k1 rfl
 have le1:=k1.le
 have f1:=(k1.get N (by omega)).trans b0
 have e1:N<n1:=by omega
 have hi:n1<n1+1:=by omega
 have kC:=(kB.trans k1).trans (kset (Keeps.refl (h:=h1) (n:=n1)) (.cells [.int .i64 (Zbj g l p d),.int .i64 e] 26 true))
 have f3:(h1.set n1 (.cells [.int .i64 (Zbj g l p d),.int .i64 e] 26 true)).get N=some (.cells [.str g,.str l,.str p,.int .i64 d] 48 true):=by
  rw[T.get_set,Yqe (by omega)];exact f1
 simp(disch:=first|(simp;done)|omega|rfl) [-getElem?_pos,splice,Zzo hi]
 generalize h1.set n1 (.cells [.int .i64 (Zbj g l p d),.int .i64 e] 26 true)=h3 at*
 have g3:N<n1+1:=by omega
 by_cases c:Zau [Zbj g l p d,e]=0
 ·obtain⟨cg,cl,cp,dn,rfl,dl,_⟩:=Yn9 (Zio c).1
  have qg:=Ze6 cg hg
  have ql:=Ze6 cl hl
  have qp:=Ze6 cp hp
  have eg:=(Zco cg).1
  have el:=(Zco cl).1
  have ep:=(Zco cp).1
  rw[Yqi c,Int.toNat_natCast]
  generalize ratS g=qg' at*
  generalize ratS l=ql' at*
  generalize ratS p=qp' at*
  subst eg el ep
  simp(disch:=first|(simp;done)|omega|rfl) [-getElem?_pos,c,Zak,f3,g3,Zah,slc]
  refine Zaa (Ygc qg ql qp (by omega) dl) ?_
  rintro v2 h2 n2 k2 hv
  obtain⟨lc,lz⟩:=Zgg (g:=qg') (l:=ql') (p:=qp') (d:=dn)
  simp(disch:=first|(simp;done)|omega|rfl) [-getElem?_pos,]
  refine Zaa (Zyy (k:=494) hv (by omega) (by omega) (by rw[lc,show dn+3-1=dn+2 from by omega,lz];decide) (fun q hq=>(Zm4 qg ql qp (by omega) q hq).mono (by omega)) (by omega) (by rw[lc];exact You (by omega) dl)) ?_
  rintro _ h4 n4 k4 rfl
  rw[lc]
  unfold stQ
  cases stabQ (dn+3) (Za6 qg' ql' qp' dn)<;>simp(disch:=first|(simp;done)|omega|rfl) [-getElem?_pos,Zh6,Ret]<;>exact(kC.trans k2).trans k4
 ·simp(disch:=first|(simp;done)|omega|rfl) [-getElem?_pos,c,Zak,Ret]
  exact kC
def sR(f:Nat→Rat):Nat→Rat
 |0=>0
 |n+1=>sR f n+f n
def Zoy{f g:Nat→Rat}:∀{n:Nat},(∀k,k<n→f k=g k)→sR f n=sR g n
 |0,_=>rfl
 |n+1,h=>by unfold sR;rw[Zoy fun k hk=>h k (by omega),h n (by omega)]
def Zox{f:Nat→Rat}:∀{n:Nat},sR (fun k=>f (k+1)) n+f 0=sR f (n+1)
 |0=>by simp[sR]
 |n+1=>by
  have:=Zox (f:=f) (n:=n)
  unfold sR at this ⊢
  unfold sR
  grind
def Yf8{f:Nat→Rat}:∀{n:Nat},sR (fun k=>f (n-1-k)) n=sR f n
 |0=>rfl
 |n+1=>by
  have h1:=Zox (f:=fun k=>f (n+1-1-k)) (n:=n)
  have h2:=Yf8 (f:=f) (n:=n)
  have h3:sR (fun k=>f (n+1-1-(k+1))) n=sR (fun k=>f (n-1-k)) n:=Zoy fun k hk=>by
   show f (n+1-1-(k+1))=f (n-1-k)
   congr 1;omega
  rw[←h1,h3,h2]
  show sR f n+f (n+1-1-0)=sR f n+f n
  rw[show n+1-1-0=n from by omega]
def Yf7{f g:Nat→Rat}{r:Rat}:∀{n:Nat},sR (fun k=>f k-r*g k) n=sR f n-r*sR g n
 |0=>by
  show (0:Rat)=0-r*0
  grind
 |n+1=>by
  have:=Yf7 (f:=f) (g:=g) (r:=r) (n:=n)
  unfold sR
  grind
def Yeb{p:List Rat}{n:Nat}(hn:p.length=n+2)(h0:pg p (n+1)≠0):sR (pg (Zcs p)) (n+1)=(1-Zbq p)*sR (pg p) (n+2):=by
 have h1:sR (pg (Zcs p)) (n+1)=sR (fun k=>pg p (k+1)-Zbq p*pg p (n-k)) (n+1):=Zoy fun k hk=>by
  rw[Zll (by omega),hn,show n+2-1-1-k=n-k from by omega]
 have h2:=Yf7 (f:=fun k=>pg p (k+1)) (g:=fun k=>pg p (n-k)) (r:=Zbq p) (n:=n+1)
 have h3:=Zox (f:=pg p) (n:=n+1)
 have h4:=Yf8 (f:=pg p) (n:=n+1)
 have h5:sR (pg p) (n+2)=sR (pg p) (n+1)+pg p (n+1):=rfl
 have h6:pg p 0=Zbq p*pg p (n+1):=by
  unfold Zbq;rw[hn];exact(Rat.div_mul_cancel h0).symm
 have h4':sR (fun k=>pg p (n-k)) (n+1)=sR (pg p) (n+1):=h4
 rw[h1,h2,h4']
 grind
def Zt4:∀{n:Nat} {p:List Rat},p.length=n+1→pg p n≠0→stabQ (n+1) p=true→sR (pg p) (n+1)≠0
 |0,p,hl,h0,_=>by
  show 0+pg p 0≠0
  rw[Rat.zero_add];exact h0
 |n+1,p,hl,h0,hs=>by
  unfold stabQ at hs
  rw[Yqe (by omega)]at hs
  split at hs
  ·cases hs
  ·rename_i hr
   have lt1:Zhd (Zbq p)<1:=Rat.not_le.1 hr
   have h0':pg p (p.length-1)≠0:=by rw[hl];exact h0
   have hlast:=Zmm (by omega) h0' lt1
   have nl:(Zcs p).length=n+1:=by rw[Zlk,hl];rfl
   rw[nl,show n+1-1=n from rfl]at hlast
   have ih:=Zt4 nl hlast hs
   have e:=Yeb hl h0
   intro hc
   rw[e,hc,Rat.mul_zero]at ih
   exact ih rfl
def Zy7{g l p:Rat}{d:Nat}(hd:d≤6):sR (pg (Za6 g l p d)) (d+3)=1-l+g:=by
 have hc:d=0∨d=1∨d=2∨d=3∨d=4∨d=5∨d=6:=by omega
 rcases hc with rfl|rfl|rfl|rfl|rfl|rfl|rfl<;>simp[sR,pg,Za6,List.range_succ]<;>grind
def Zp5{g l p:Rat}{d:Nat}(hd:d≤6)(h:stQ g l p d=true):1-l+g≠0:=by
 have:=Zt4 (n:=d+2) (p:=Za6 g l p d) Zgg.1 (by rw[Zgg.2];decide) h
 rw[Zy7 hd]at this
 exact this
def Zot(g l p:Str)(d:Int):V:=
 if Zbj g l p d=0 then
  if stQ (ratS g) (ratS l) (ratS p) d.toNat=true then
   (if Zrn ((1-ratS l)/(1-ratS l+ratS g))=true then .tup [.str [],.int .i64 4] else .tup [.str (Zaq ((1-ratS l)/(1-ratS l+ratS g))),.int .i64 0])
  else .tup [.str [],.int .i64 15]
 else .tup [.str [],.int .i64 (Zbj g l p d)]
def Zp6{g l p:Str}{d:Int}{h:T O}{N:Nat}(hP:P10 h N)(hg:g.length≤40)(hl:l.length≤40)(hp:p.length≤40):Fn A.C 28 [.agg [.str g,.str l,.str p,.int .i64 d]] h N (fun x _ _=>x=Zot g l p d):=by
 intro w
 rw[Zab,A.k28 (by simp)]
 have kB:=kset (Keeps.refl (h:=h) (n:=N)) (.cells [.str g,.str l,.str p,.int .i64 d] 48 true)
 have b0:(h.set N (.cells [.str g,.str l,.str p,.int .i64 d] 48 true)).get N=some (.cells [.str g,.str l,.str p,.int .i64 d] 48 true):=by simp
 simp(disch:=first|(simp;done)|omega|rfl) [-getElem?_pos,A.b28,Zah,slc]
 generalize h.set N (.cells [.str g,.str l,.str p,.int .i64 d] 48 true)=hB at*
 refine Zaa (Yj2 hg hl hp) ?_
 rintro _ h1 n1 k1 rfl
 have le1:=k1.le
 have f1:=(k1.get N (by omega)).trans b0
 have e1:N<n1:=by omega
 have fz:Zau [Zbj g l p d,0]=Zbj g l p d:=by
  by_cases h0:Zbj g l p d=0<;>simp[Zau,h0]
 rw[fz]
 unfold Zot
 by_cases c:Zbj g l p d=0
 ·rw[Yqi c,Yqi c]
  by_cases cs:stQ (ratS g) (ratS l) (ratS p) d.toNat=true
  ·rw[Yqi cs,Yqi cs]
   obtain⟨cg,cl,cp,dn,rfl,dl,_⟩:=Yn9 c
   rw[Int.toNat_natCast]at cs
   have hne:=Zp5 dl cs
   have qg:=Ze6 cg hg
   have ql:=Ze6 cl hl
   have eg:=(Zco cg).1
   have el:=(Zco cl).1
   generalize ratS g=qg' at*
   generalize ratS l=ql' at*
   clear cs
   subst eg el
   simp(disch:=first|(simp;done)|omega|rfl) [-getElem?_pos,Zak]
   refine Zaa (Ybl (z:=1) (by decide) (by decide)) ?_
   rintro v2 h2 n2 k2 hv2
   replace hv2:Fc h2 n2 v2 1:=hv2
   have le2:=k2.le
   have f2:=(k2.get N (by omega)).trans f1
   have e2:N<n2:=by omega
   simp(disch:=first|(simp;done)|omega|rfl) [-getElem?_pos,f2,e2]
   refine Zaa (Zim ql (by omega)) ?_
   rintro v3 h3 n3 k3 hv3
   have wl:=ql.wls
   have wg:=qg.wls
   have q1:Qb 1 (1:Rat):=Qb.int (z:=1) (k:=1) (by decide) (by decide)
   have w1:=q1.wls
   have qs:=q1.sub ql
   have ws:=qs.wls
   simp(disch:=first|(simp;done)|omega|rfl) [-getElem?_pos,]
   refine Zaa (Ybg (hv2.keep k3) hv3 (by omega) (by omega) (by omega) (by omega)) ?_
   rintro _ h4 n4 k4 hv4
   obtain⟨c4,rfl,hc4⟩:=hv4.c
   obtain⟨f41,f42⟩:=hc4.len
   have hcc:(V.agg c4).cells=c4:=rfl
   have e4:splice zF 0 c4=c4:=by unfold splice;rw[f41];simp[f41,zF]
   have s0:slc c4 0 4=some c4:=by unfold slc;rw[f41];simp;exact Yqp (by omega)
   unfold zF at e4
   have le4:=(k3.trans k4).le
   have kA:Keeps h4 n4 ((h4.set n4 (.cells [.int .i64 0,.nilslice,.int .i64 0,.nilslice] 102 true)).set n4 (.cells c4 102 true)) (n4+1):=(Keeps.refl.new _).set (Yqg _)
   have g4:((h4.set n4 (.cells [.int .i64 0,.nilslice,.int .i64 0,.nilslice] 102 true)).set n4 (.cells c4 102 true)).get n4=some (.cells c4 102 true):=by simp
   have f4:((h4.set n4 (.cells [.int .i64 0,.nilslice,.int .i64 0,.nilslice] 102 true)).set n4 (.cells c4 102 true)).get N=some (.cells [.str (Zaq qg'),.str (Zaq ql'),.str p,.int .i64 dn] 48 true):=(kA.get N (by omega)).trans (((k3.trans k4).get N (by omega)).trans f2)
   simp(disch:=first|(simp;done)|omega|rfl) [-getElem?_pos, -V.cells, -V.one,hcc,f41,f42,e4,Zal,Zam.chk]
   generalize (h4.set n4 (.cells [.int .i64 0,.nilslice,.int .i64 0,.nilslice] 102 true)).set n4 (.cells c4 102 true)=H5 at*
   have e5:N<n4+1:=by omega
   have hc5:=hc4.keep kA
   simp(disch:=first|(simp;done)|omega|rfl) [-getElem?_pos,f4,g4,e5,s0,Zah]
   refine Zaa (Zim qg (by omega)) ?_
   rintro v6 h6 n6 k6 hv6
   simp(disch:=first|(simp;done)|omega|rfl) [-getElem?_pos,]
   refine Zaa (Zpf (hc5.keep k6).fc hv6 (by omega) (by omega) (by omega) (by omega)) ?_
   rintro v7 h7 n7 k7 hv7
   have qd:=qs.add qg
   have wd:=qd.wls
   have wi:=(qd.inv hne).wls
   simp(disch:=first|(simp;done)|omega|rfl) [-getElem?_pos,]
   refine Zaa (Ybn ((hc5.keep k6).keep k7).fc hv7 hne (by omega) (by omega) (by omega) (by omega) (by omega) (by omega)) ?_
   rintro v8 h8 n8 k8 hv8
   have qv:Qb 2000 ((1-ql')/(1-ql'+qg')):=by
    rw[Rat.div_def]
    exact(qs.mul (qd.inv hne)).mono (by omega)
   have K8:=((((((kB.trans k1).trans k2).trans k3).trans k4).trans kA).trans ((k6.trans k7).trans k8))
   simp(disch:=first|(simp;done)|omega|rfl) [-getElem?_pos,]
   refine Zaa (Zze hv8 (hP.keep K8) qv (by omega)) ?_
   rintro _ h9 n9 k9 rfl
   cases hb:Zrn ((1-ql')/(1-ql'+qg'))<;>simp(disch:=first|(simp;done)|omega|rfl) [-getElem?_pos,Ret,Zam.chk]<;>exact⟨by have:=kB.le;have:=k1.le;have:=k2.le;omega,K8.trans k9⟩
  ·rw[Yqe cs,Yqe cs]
   simp(disch:=first|(simp;done)|omega|rfl) [-getElem?_pos,Zak,Ret]
   exact kB.trans k1
 ·rw[Yqe c,Yqe c]
  simp(disch:=first|(simp;done)|omega|rfl) [-getElem?_pos,c,Zak,Ret]
  exact kB.trans k1
def A.b83:=A.q Tryz.f83
def A.k83:=@A.kk 83 9 [.tmp 4] A.b83 (by kernel_rfl) rfl
def Zub{a b:Rat}{j k:Nat}{h:T O}{N:Nat}(ha:Qb j a)(hb:Qb k b)(h0:b≠0)(hj:j≤400000000)(hk:k≤400000000):Fn A.C 83 [.str (Zaq a),.str (Zaq b)] h N (fun u _ _=>u=.str (Zaq (a/b))):=by
 intro w
 rw[Zab,A.k83 (by simp)]
 simp(disch:=first|(simp;done)|omega|rfl) [-getElem?_pos,A.b83]
 refine Zaa (Yh5 hb hk h0) ?_
 rintro _ h1 n1 k1 rfl
 simp(disch:=first|(simp;done)|omega|rfl) [-getElem?_pos,]
 refine Zaa (Zz8 ha (hb.inv h0) hj hk) ?_
 rintro _ h2 n2 k2 rfl
 rw[←Rat.div_def]
 simp(disch:=first|(simp;done)|omega|rfl) [-getElem?_pos,Ret]
 exact k1.trans k2
def Yh8{q:Rat}{st:St}(hl:(Zaq q).length<1000000000):A.C.call (.func 85 [] []) [.str (Zaq q)] st=some (.str (Zaq (Zhd q)),st):=by
 have hs:=fun st=>Zjf (q:=q) (st:=st)
 apply Call.eq
 rw[Zab,A.k85 (by simp)]
 by_cases hz:q<0
 ·have hz':=hz
  rw[show q<0↔q.num<0 from by rw[Rat.lt_iff];simp]at hz'
  have h1:=Zfw.2 hz
  have e1:Zaq q=45::QB q:=by rw[Zgj,Yqi hz']
  have e2:Zaq (Zhd q)=QB q:=by
   have:Zhd q= -q:=Yqi hz
   rw[this,Zgj,Yqe (by rw[Rat.neg_num];omega),Yg3]
  rw[e2]
  rw[e1]at hs hl
  have a3:∀st:St,Zb4 st (some (.str (45::QB q))) (some (some (.int .i64 1))) (some none)=some (.str (QB q),st):=fun st=>by rw[Zcj (by omega) (by simp only[Yqd];omega)];rfl
  rw[e1]
  simp(disch:=first|(simp;done)|omega|rfl) [-getElem?_pos,A.b85,hs,h1,evOpt,a3]
 ·have h1:¬sg3 q.num<0:=fun hc=>hz (Zfw.1 hc)
  have e2:Zhd q=q:=Yqe hz
  rw[e2]
  simp(disch:=first|(simp;done)|omega|rfl) [-getElem?_pos,A.b85,hs,h1]
def A.w15:=A.q Tryz.f15
def A.lb15_0:=A.ql A.w15 1 []
def A.lb15_1:=(fun x0=>A.ql A.w15 0 [x0]) A.lb15_0
def A.b15:=(fun x0=>A.qb A.w15 [x0]) A.lb15_1
def A.k15:=@A.kk 15 49 [.tmp 2] A.b15 (by kernel_rfl) rfl
structure Yp4 (h:T O) (N:Nat) (l:List Rat) (k m:Nat) (r:T V) (st:St):Prop where
 w:Zac N st.w=[]
 keep:Keeps h N st.h st.n
 ex:∃(v:V) (p:List Rat),r.get 0=some v∧Tx st.h st.n v p∧p.length=m+1∧m+1≤l.length∧pg p m≠0∧(∀q∈p,Qb (k*5^(l.length-1-m)) q)∧stabQ (m+1) p=stabQ l.length l
def Zv8{h:T O}{N k:Nat}{v:V}{l:List Rat}(hs:Tx h N v l)(h1:1≤l.length)(hl:l.length≤13)(h0:pg l (l.length-1)≠0)(hq:∀q∈l,Qb k q)(hk:1≤k)(hk2:k*5^(l.length-1)≤200000000):Fn A.C 15 [v] h N (fun x _ _=>x=.bool (stabQ l.length l)):=by
 intro w
 rw[Zab,A.k15 (by simp)]
 simp(disch:=first|(simp;done)|omega|rfl) [-getElem?_pos,A.b15]
 refine Zaj [(0,0),(2,48)] (fun e r st=>Zac N st.w=[]∧Keeps h N st.h st.n∧((e=.exit 0∧stabQ l.length l=true)∨(e=.ret∧stabQ l.length l=false∧r.get 2=some (.bool false)))) (Yp4 h N l k) (l.length-1) ?_ ?_ ?_
 ·refine⟨by simp,Keeps.refl,v,l,by simp,hs,by omega,by omega,h0,fun q hm=>?_,by rw[show l.length-1+1=l.length from by omega]⟩
  rw[Nat.sub_self,Ytj,Ys0];exact hq q hm
 ·rintro m r ⟨H,n1,W⟩ hr hf ⟨hW,hK,v,p,r0,hp,pl,pll,pz,pq,ps⟩
  simp only at hW hK hp
  have lv:=hp.len
  rw[pl]at lv
  have hps:Sl H n1 v (tx p):=hp
  rw[Zai]
  cases m with
  |zero=>
   rw[Yk5 (by omega)]at ps
   simp(disch:=first|(simp;done)|omega|rfl) [-getElem?_pos,A.lb15_1,hr,hf,r0,lv,hW,hK,←ps]
  |succ m=>
   obtain⟨i0,o0,x0,e0,w0,a1,a2,a3,a4⟩:=hps.at (Zks (Zce (p:=p) (i:=0) (by omega)))
   obtain⟨i1,o1,x1,e1,w1,b1,b2,b3,b4⟩:=hps.at (Zks (Zce (p:=p) (i:=m+1) (by omega)))
   rw[a1]at b1
   obtain⟨rfl,rfl⟩:i0=i1∧o0=o1:=by simpa using b1
   rw[a3]at b3
   obtain⟨rfl,rfl,rfl⟩:x0=x1∧e0=e1∧w0=w1:=by simpa using b3
   rw[Ysh]at a4
   have g1:(1:Int)<(m:Int)+1+1:=by omega
   have g6:(m:Int)+1<(m:Int)+1+1:=by omega
   have g7:(0:Int)<(m:Int)+1+1:=by omega
   have g8:(0:Int)≤(m:Int)+1:=by omega
   have g9:((m:Int)+1).toNat=m+1:=by omega
   have g2:((m+1+1:Nat):Int)-1<((m+1+1:Nat):Int):=by omega
   have g3:(((m+1+1:Nat):Int)-1).toNat=m+1:=by omega
   have g4:(0:Int)<((m+1+1:Nat):Int):=by omega
   have g5:(0:Int)≤((m+1+1:Nat):Int)-1:=by omega
   have hB0:k*5^(l.length-1-(m+1))*5=k*5^(l.length-1-m):=by
    rw[Ytf,←Yqx];congr 2;omega
   have hB1:k*5^(l.length-1-m)≤200000000:=Yr4 (Yqs k (Yq3 (by omega) (by omega))) hk2
   have hBk:1≤k*5^(l.length-1-(m+1)):=Ytc hk (Ys1 (by omega))
   generalize hB:k*5^(l.length-1-(m+1))=B at*
   have pz':pg p (p.length-1)≠0:=by rw[pl];exact pz
   have ql:=Zz4 (by omega) hBk pz' pq
   have qr:=Zo1 (by omega) pz' pq
   have qa:=pq _ (Yqn (Zce (p:=p) (i:=0) (by omega)))
   have qb:=pq _ (Yqn (Zce (p:=p) (i:=m+1) (by omega)))
   have er:pg p 0/pg p (m+1)=Zbq p:=by unfold Zbq;rw[pl];rfl
   simp(disch:=first|(simp;done)|omega|rfl) [-getElem?_pos,A.lb15_1,hr,hf,r0,lv,a1,a2,a3,a4,b4,g1,g2,g3,g4,g5,g6,g7,g8,g9]
   refine Zaa (Zub qa qb pz (by omega) (by omega)) ?_
   rintro _ h2 n2 k2 rfl
   rw[er]
   have qabs:Qb (B+B) (Zhd (Zbq p)):=by
    unfold Zhd;split
    ·exact qr.neg
    ·exact qr
   have la:=Zly qr
   have ra:=fun st=>Yh8 (q:=Zbq p) (st:=st) (by omega)
   have hc:=Zuc (a:=Zhd (Zbq p)) (b:=1) (k:=1) (h:=h2) (N:=n2) qabs (by unfold Qb;decide) (by omega) (by decide) (by rw[Ykr];decide)
   rw[Ykr]at hc
   simp(disch:=first|(simp;done)|omega|rfl) [-getElem?_pos,hr,hf,Zam.chk,ra]
   refine Zaa hc ?_
   rintro _ h3 n3 k3 rfl
   have ec:(0≤sg3 (Zhd (Zbq p)-1).num)↔1≤Zhd (Zbq p):=by
    have h1:Zhd (Zbq p)<1↔Zhd (Zbq p)-1<0:=by grind
    rw[←Rat.not_lt,h1,←Zfw];omega
   generalize sg3 (Zhd (Zbq p)-1).num=cz at*
   have K3:=(hK.trans k2).trans k3
   have ps2:stabQ (m+1+1) p=if 1≤Zhd (Zbq p) then false else stabQ (m+1) (Zcs p):=by
    conv=>lhs;unfold stabQ
    rw[Yqe (by omega)]
   rw[ps2]at ps
   by_cases cc:1≤Zhd (Zbq p)
   ·have cz1:=ec.2 cc
    rw[Yqi cc]at ps
    simp(disch:=first|(simp;done)|omega|rfl) [-getElem?_pos,hr,hf,r0,cz1,hW,K3,←ps]
   ·have cz1:¬0≤cz:=fun h=>cc (ec.1 h)
    rw[Yqe cc]at ps
    have lt1:Zhd (Zbq p)<1:=Rat.not_le.1 cc
    have leK:=hK.le
    have hp3:Sl h3 n3 v (tx p):=(hps.keep k2).keep k3
    have nl:(Zcs p).length=m+1:=by rw[Zlk,pl];rfl
    simp(disch:=first|(simp;done)|omega|rfl) [-getElem?_pos,hr,hf,r0,cz1]
    refine Zaj [(5,6),(25,47)] (fun e r st=>e=.exit 2∧Zac N st.w=[]∧Keeps h3 n3 st.h st.n∧∃u,r.get 5=some u∧Tx st.h st.n u (Zcs p)) (fun i r st=>Zac N st.w=[]∧Keeps h3 n3 st.h st.n∧∃(t:Nat) (u:V),t+i=m+1∧r.get 6=some (.int .i64 t)∧r.get 5=some u∧Own 1 30 n3 st.h st.n u ((tx ((Zcs p).take t)).map fun y=>[y])) (m+1) ?_ ?_ ?_
    ·exact⟨hW,Keeps.refl,0,.nilslice,by omega,by simp,by simp,by simpa[tx,strs]using Own.nil⟩
    ·rintro i r' ⟨H7,n7,W7⟩ hr' hf' ⟨hW7,hK7,t,u,ht,r6,r5,ho⟩
     simp only at hW7 hK7 ho
     rw[Zai]
     cases i with
     |zero=>
      obtain rfl:t=m+1:=by omega
      rw[Yqp (by omega)]at ho
      simp(disch:=first|(simp;done)|omega|rfl) [-getElem?_pos,A.lb15_0,hr',hf',hr,hf,r6,hW7,hK7]
      exact⟨u,r5,(Ylf ho).1⟩
     |succ i=>
      have hlt':(t:Int)<(m:Int)+1:=by omega
      have hp7:=hp3.keep hK7
      have lv7:=hp7.len
      rw[Zfc,pl]at lv7
      have le7:=hK7.le
      obtain⟨j0,u0,y0,z0,q0,b1,b2,b3,b4⟩:=hp7.at (Zks (Zce (p:=p) (i:=t+1) (by omega)))
      obtain⟨j1,u1,y1,z1,q1,x1,x2,x3,x4⟩:=hp7.at (Zks (Zce (p:=p) (i:=m-t) (by omega)))
      rw[b1]at x1
      obtain⟨rfl,rfl⟩:j0=j1∧u0=u1:=by simpa using x1
      rw[b3]at x3
      obtain⟨rfl,rfl,rfl⟩:y0=y1∧z0=z1∧q0=q1:=by simpa using x3
      have i1:(0:Int)≤(t:Int)+1:=by omega
      have i2:(t:Int)+1<(m:Int)+1+1:=by omega
      have i3:((t:Int)+1).toNat=t+1:=by omega
      have i4:(0:Int)≤(m:Int)-t:=by omega
      have i5:(m:Int)-t<(m:Int)+1+1:=by omega
      have i6:((m:Int)-t).toNat=m-t:=by omega
      have bx:=pq _ (Yqn (Zce (p:=p) (i:=t+1) (by omega)))
      have by_:=pq _ (Yqn (Zce (p:=p) (i:=m-t) (by omega)))
      have bm:=qr.mul by_
      have lm:=Zly bm
      simp(disch:=first|(simp;done)|omega|rfl) [-getElem?_pos,A.lb15_0,hr',hf',hr,hf,r0,r6,r5,hlt',lv7,b1,b2,b3,b4,x4,i1,i2,i3,i4,i5,i6]
      refine Zaa (Zz8 qr by_ (by omega) (by omega)) ?_
      rintro _ h8 n8 k8 rfl
      simp(disch:=first|(simp;done)|omega|rfl) [-getElem?_pos,]
      refine Zaa (Zjh bx bm (by omega) (by omega) (by omega)) ?_
      rintro _ h9 n9 k9 rfl
      have en:pg p (t+1)-Zbq p*pg p (m-t)=pg (Zcs p) t:=by
       rw[Zll (by omega),pl,show m+1+1-1-1-t=m-t from by omega]
      rw[en]
      have K9:=k8.trans k9
      have le9:=K9.le
      obtain⟨u',h',w',j1',j2',j3',_,j5'⟩:=Zbw (x:=[.str (Zaq (pg (Zcs p) t))]) (u:=.slice n9 0 1 (some 1) 1) (bytes:=16) (w:=[]) ((ho.keep K9).keep (Keeps.refl.new (.cells [.str (Zaq (pg (Zcs p) t))] 30 true))) (by omega) (by decide) rfl (by simp[Zbc,St.row,slc]) (by simp[Zfc];omega)
      have e7:((tx ((Zcs p).take t)).map fun y=>[y])++[[.str (Zaq (pg (Zcs p) t))]]=(tx ((Zcs p).take (t+1))).map fun y=>[y]:=by
       rw[Ys4,Zce (by omega)];simp[tx,strs]
      rw[e7]at j5'
      have ow:Zac N w'=[]:=Zum j2' (by have:=k2.le;have:=k3.le;omega) rfl
      simp(disch:=first|(simp;done)|omega|rfl) [-getElem?_pos, -Zac,hr',hf',r6,r5,splice,j1']
      exact⟨i,by omega,Zzw ow hW7,((hK7.trans K9).trans (Keeps.refl.new (.cells [.str (Zaq (pg (Zcs p) t))] 30 true))).then j3',t+1,by omega,by simp,j5'⟩
    ·rintro _ r' ⟨H7,n7,W7⟩ hr' ⟨rfl,hW7,hK7,u,r5,hu⟩
     simp only at hW7 hK7 hu
     have hlast:=Zmm (by omega) pz' lt1
     rw[nl,show m+1-1=m from rfl]at hlast
     rw[Yq5 B 5]at hB0
     simp(disch:=first|(simp;done)|omega|rfl) [-getElem?_pos,hr',r5,hr,hf]
     have hfi:=hf.inner (D':=[(5,6),(25,47)]) rfl (fun hh=>by simpa using hh) hr'
     exact⟨by simpa using hfi,m,by omega,hW7,K3.trans hK7,u,Zcs p,by simp,hu,nl,by omega,hlast,by rw[←hB0];exact ql,ps⟩
 ·rintro _ r ⟨H,n1,W⟩ hr ⟨hW,hK,⟨rfl,h3⟩|⟨rfl,h3,h4⟩⟩
  ·simp only at hW hK
   simp(disch:=first|(simp;done)|omega|rfl) [-getElem?_pos,hr,h3,Ret,hW,hK]
  ·simp only at hW hK
   simp(disch:=first|(simp;done)|omega|rfl) [-getElem?_pos,hr,h3,h4,Ret,hW,hK]
def A.b31:=A.q Tryz.f31
def A.k31:=@A.kk 31 13 [.tmp 2] A.b31 (by kernel_rfl) rfl
def Zv7{g l:Rat}{p:Str}{d:Int}{k:Nat}{h:T O}{N:Nat}(qg:Qb k g)(ql:Qb k l)(hk:k≤1000)(hne:1-l+g≠0):Fn A.C 31 [.agg [.str (Zaq g),.str (Zaq l),.str p,.int .i64 d]] h N (fun x _ _=>x=.str (Zaq ((1-l)/(1-l+g)))):=by
 intro w
 rw[Zab,A.k31 (by simp)]
 have kB:=kset (Keeps.refl (h:=h) (n:=N)) (.cells [.str (Zaq g),.str (Zaq l),.str p,.int .i64 d] 49 true)
 have b0:(h.set N (.cells [.str (Zaq g),.str (Zaq l),.str p,.int .i64 d] 49 true)).get N=some (.cells [.str (Zaq g),.str (Zaq l),.str p,.int .i64 d] 49 true):=by simp
 simp(disch:=first|(simp;done)|omega|rfl) [-getElem?_pos,A.b31]
 generalize h.set N (.cells [.str (Zaq g),.str (Zaq l),.str p,.int .i64 d] 49 true)=hB at*
 have q1:Qb 1 (1:Rat):=Qb.int (z:=1) (k:=1) (by decide) (by decide)
 have ll:=Zly ql
 have s1:=Zjh (a:=1) (b:=l) (h:=hB) (N:=N+1) q1 ql (by omega) (by omega) (by omega)
 rw[Ykr]at s1
 refine Zaa s1 ?_
 rintro _ h1 n1 k1 rfl
 have le1:=k1.le
 have f1:=(k1.get N (by omega)).trans b0
 have e1:N<n1:=by omega
 have qs:=q1.sub ql
 have qd:=qs.add qg
 simp(disch:=first|(simp;done)|omega|rfl) [-getElem?_pos,f1,e1]
 refine Zaa (Zpq qs qg (by omega) (by omega)) ?_
 rintro _ h2 n2 k2 rfl
 simp(disch:=first|(simp;done)|omega|rfl) [-getElem?_pos,]
 refine Zaa (Zub qs qd hne (by omega) (by omega)) ?_
 rintro _ h3 n3 k3 rfl
 simp(disch:=first|(simp;done)|omega|rfl) [-getElem?_pos,Ret]
 exact((kB.trans k1).trans k2).trans k3
end
end Go.Mx
