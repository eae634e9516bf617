/-loop-/
import Derived.Test.YtgnadghjglamaaaGreatDoorLpB
set_option linter.all false
set_option maxHeartbeats 4000000
namespace Go.Mx
noncomputable section
open Go Go.Proofs
variable {N:Nat} {h:T O}
set_option maxRecDepth 1000000
def A.w208:=A.q Tryz.f208
def A.lb208_0:=A.ql A.w208 0 []
def A.b208:=(fun x0=>A.qb A.w208 [x0]) A.lb208_0
def A.k208:=@A.kk 208 19 [.tmp 4] A.b208 (by kernel_rfl) rfl
def Ykn{v f:V}(l:List (List V))(p:Nat→Bool)(hs:Sn 4 h N v l)(hl:l.length<1152921504606846976)(hf:∀(j:Nat) (x:List V),l[j]?=some x→∀h' n',Keeps h N h' n'→FnV A.C f [.agg x] h' n' (fun u _ _=>u=.bool (p j))):Fn A.C 208 [v,f] h N (fun u _ _=>u=.int .i64 (Zfp p 0 l.length)):=by
 intro w
 have hlen:=hs.len
 rw[Zaf,A.k208 (by simp)]
 simp(disch:=first|(simp;done)|omega|rfl) [-getElem?_pos,A.b208,hlen]
 refine Zak [(4,5),(8,18)] (fun e r st=>Zae N st.w=[]∧Keeps h N st.h st.n∧((e=.exit 0∧Zfp p 0 l.length= -1)∨(e=.ret∧r.get 4=some (.int .i64 (Zfp p 0 l.length))))) (fun m r st=>Zae N st.w=[]∧Keeps h N st.h st.n∧∃k,k+m=l.length∧r.get 8=some (.int .i64 k)∧Zfp p 0 l.length=Zfp p k m) l.length ?_ ?_ ?_
 ·exact⟨by simp,Keeps.refl,0,by omega,by simp,rfl⟩
 ·rintro m r ⟨H,n1,W⟩ hr hf2 ⟨hW,hK,k,hk,h8,hz⟩
  simp only at hW hK
  rw[Zai]
  cases m with
  |zero=>
   have:k=l.length:=by omega
   subst this
   simp only[Zfp]at hz
   simp(disch:=first|(simp;done)|omega|rfl) [-getElem?_pos,A.lb208_0,hr,hf2,h8,hW,hK,hz]
  |succ m=>
   have hlt:k<l.length:=by omega
   obtain⟨c,hc⟩:=Zao hlt
   obtain⟨i,o,cc,e,rw,q1,q2,q3,q4⟩:=hs.at hc
   have q3:=(hK.get _ q2).trans q3
   have hk1:(k:Int)<(l.length:Int):=by omega
   simp only[Zfp]at hz
   simp(disch:=first|(simp;done)|omega|rfl) [-getElem?_pos,A.lb208_0,hr,hf2,h8,hk1,hlt,hlen,q1,q3,q4,hW]
   refine Zs1 (hf k c hc _ _ hK) ?_
   rintro v h2 n2 k2 rfl
   have kk:=hK.trans k2
   cases hp:p k
   ·rw[hp]at hz
    simp(disch:=first|(simp;done)|omega|rfl) [-getElem?_pos,hr,hf2,h8,hW,kk]
    exact⟨m,by omega,k+1,by omega,by simp,by simpa using hz⟩
   ·rw[hp]at hz
    simp(disch:=first|(simp;done)|omega|rfl) [-getElem?_pos,hr,hf2,h8,hW,kk]
    simpa using hz.symm
 ·rintro e r ⟨H,n1,W⟩ hr ⟨hW,hK,⟨rfl,hz⟩|⟨rfl,h4⟩⟩
  ·simp only at hW hK
   simp(disch:=first|(simp;done)|omega|rfl) [-getElem?_pos,hr,hz,Ret,hW,hK]
  ·simp only at hW hK
   simp(disch:=first|(simp;done)|omega|rfl) [-getElem?_pos,hr,h4,Ret,hW,hK]
def A.b160:=A.q Tryz.f160
def A.k160:=@A.kk 160 9 [.tmp 4] A.b160 (by kernel_rfl) rfl
def A.b73:=A.q Tryz.f73
def A.k73:=@A.kk 73 8 [.tmp 2,.tmp 3] A.b73 (by kernel_rfl) rfl
def A.b15:=A.q Tryz.f15
def A.k15:=@A.kk 15 15 [.tmp 2,.tmp 3] A.b15 (by kernel_rfl) rfl
def Ygt{v f:V}(l:List (List V))(p:Nat→Bool)(hs:Sn 4 h N v l)(hl:l.length<1152921504606846976)(hf:∀(j:Nat) (x:List V),l[j]?=some x→∀h' n',Keeps h N h' n'→FnV A.C f [.agg x] h' n' (fun u _ _=>u=.bool (p j))):Fn A.C 160 [v,f] h N (fun u _ _=>u=.bool (decide (0≤Zfp p 0 l.length))):=by
 intro w
 rw[Zaf,A.k160 (by simp)]
 simp(disch:=first|(simp;done)|omega|rfl) [-getElem?_pos,A.b160]
 refine Zac (Ykn l p hs hl hf) ?_
 rintro v h2 n2 k2 rfl
 simp(disch:=first|(simp;done)|omega|rfl) [-getElem?_pos,Ret,k2]
def Zyq{l:List Rat}:decide (0≤Zfp (fun j=>Yd4 (l[j]?.getD 0)) 0 l.length)=Ze5 l:=by
 rw[Bool.eq_iff_iff,decide_eq_true_eq,Zrt]
 unfold Ze5
 rw[List.any_eq_true]
 constructor
 ·rintro⟨j,_,h2,h3⟩
  obtain⟨q,hq⟩:=Zao (l:=l) (k:=j) (by omega)
  rw[hq]at h3
  exact⟨q,Yr1 hq,h3⟩
 ·rintro⟨q,hq,h3⟩
  obtain⟨j,hj⟩:=Yu0 hq
  exact⟨j,Yum _,by have:=Zb4 hj;omega,by rw[hj];exact h3⟩
def Zjh{h:T O}{N:Nat}{u:V}{l:List Rat}{k:Nat}(hu:FrS h N u l)(hP:P10 h N)(hl:l.length<1000000000)(hq:∀q∈l,Qb k q)(hk:k≤400000000):Fn A.C 73 [u] h N (fun x h' n'=>(Ze5 l=true∧x=.tup [.nilslice,.int .i64 4])∨(Ze5 l=false∧∃v,x=.tup [v,.int .i64 0]∧TxT h' n' v l)):=by
 intro w
 obtain⟨cs,s1,s2,s3⟩:=id hu
 have key:=Ygt (f:=.func 161 [] []) cs (fun j=>Yd4 (l[j]?.getD 0)) s1 (by omega) (fun j x hx h' n' hk'=>by
  obtain⟨q,hqj⟩:=Zao (l:=l) (k:=j) (by have:=Zb4 hx;omega)
  obtain⟨c,g1,g2⟩:=s3 j q hqj
  rw[hx]at g1
  obtain rfl:x=c:=by simpa using g1
  simp only[hqj,Yux]
  exact Ycm (g2.keep hk').fc (hP.keep hk') (hq q (Yr1 hqj)) (by omega))
 rw[s2,Zyq]at key
 rw[Zaf,A.k73 (by simp)]
 simp(disch:=first|(simp;done)|omega|rfl) [-getElem?_pos,A.b73]
 refine Zac key ?_
 rintro _ h2 n2 k2 rfl
 cases hb:Ze5 l with
 |true=>
  simp(disch:=first|(simp;done)|omega|rfl) [-getElem?_pos,Ret]
  exact k2
 |false=>
  simp(disch:=first|(simp;done)|omega|rfl) [-getElem?_pos,]
  refine Zac (Yek (k0:=k) (hu.keep k2) (hP.keep k2) hl hq hk) ?_
  rintro v h3 n3 k3 t1
  simp(disch:=first|(simp;done)|omega|rfl) [-getElem?_pos,Ret]
  exact⟨k2.trans k3,t1⟩
def Zr3{g l p:Rat}{k d:Nat}(bg:Qb k g)(bl:Qb k l)(bp:Qb k p)(hk:1≤k):∀q∈Za5 g l p d,Qb (3*k+2) q:=by
 intro q hm
 have b0:Qb k 0:=(Qb.int (z:=0) (k:=1) (by decide) (by decide)).mono hk
 have b1:Qb k 1:=(Qb.int (z:=1) (k:=1) (by decide) (by decide)).mono hk
 unfold Za5 at hm
 rcases Ytn hm with hm|rfl
 ·rcases Ytn hm with hm|rfl
  ·rcases Ytn hm with hm|rfl
   ·rcases Ytn hm with hm|rfl
    ·obtain⟨_,_,rfl⟩:=Ytq.1 hm
     exact b0.mono (by omega)
    ·exact b1.mono (by omega)
   ·exact bl.neg.mono (by omega)
  ·have bz:Qb k (if d=0 then -l else 0):=by
    split
    ·exact bl.neg
    ·exact b0
   exact((bz.add bg).add bp).mono (by omega)
 ·exact bp.neg.mono (by omega)
def Zy7{g l p:Str}{d:Int}{n:Nat}(hP:P10 h N)(hg:g.length≤n)(hl:l.length≤n)(hp:p.length≤n)(hn:n≤12000):Fn A.C 15 [.agg [.str g,.str l,.str p,.int .i64 d]] h N (fun x h' n'=>(Za8 g l p d≠0∧x=.tup [.nilslice,.int .i64 (Za8 g l p d)])∨(Za8 g l p d=0∧((Ze5 (Za5 (ratS g) (ratS l) (ratS p) d.toNat)=true∧x=.tup [.nilslice,.int .i64 4])∨(Ze5 (Za5 (ratS g) (ratS l) (ratS p) d.toNat)=false∧∃v,x=.tup [v,.int .i64 0]∧TxT h' n' v (Za5 (ratS g) (ratS l) (ratS p) d.toNat))))):=by
 intro w
 rw[Zaf,A.k15 (by simp)]
 have kB:=kset (Keeps.refl (h:=h) (n:=N)) (.cells [.str g,.str l,.str p,.int .i64 d] 24 true)
 have b0:(h.set N (.cells [.str g,.str l,.str p,.int .i64 d] 24 true)).get N=some (.cells [.str g,.str l,.str p,.int .i64 d] 24 true):=by simp
 simp(disch:=first|(simp;done)|omega|rfl) [-getElem?_pos,A.b15,Zaj,slc]
 generalize h.set N (.cells [.str g,.str l,.str p,.int .i64 d] 24 true)=hB at*
 refine Zac (Ydh hg hl hp (by omega)) ?_
 rintro _ h1 n1 k1 rfl
 have le1:=k1.le
 have f1:=(k1.get N (by omega)).trans b0
 have e1:N<n1:=by omega
 by_cases c:Za8 g l p d=0
 ·have hc:=c
  unfold Za8 at hc
  split at hc
  ·rename_i h00
   obtain⟨n0,n1'⟩:=Zhc h00
   split at hc
   ·omega
   ·obtain⟨n2',dd⟩:=Zhc hc
    have hd0:¬(d<0∨6<d):=fun hx=>by rw[Yrw hx]at dd;omega
    obtain⟨cg,_⟩:=Yba n0
    obtain⟨cl,_⟩:=Yba n1'
    obtain⟨cp,_⟩:=Yba n2'
    have qg:=Znl cg hg
    have ql:=Znl cl hl
    have qp:=Znl cp hp
    have eg:=(Zcd cg).1
    have el:=(Zcd cl).1
    have ep:=(Zcd cp).1
    obtain⟨dn,rfl⟩:∃dn:Nat,d=(dn:Int):=⟨d.toNat,by omega⟩
    rw[Int.toNat_natCast]
    generalize ratS g=qg' at*
    generalize ratS l=ql' at*
    generalize ratS p=qp' at*
    subst eg el ep
    simp(disch:=first|(simp;done)|omega|rfl) [-getElem?_pos,c,Zag,f1,e1,Zaj,slc]
    refine Zac (Ymh qg ql qp (by omega) (by omega)) ?_
    rintro v2 h2 n2 k2 hv
    have qc:∀q∈Za5 qg' ql' qp' dn,Qb (3*(4*n+4)+2) q:=Zr3 qg ql qp (by omega)
    simp(disch:=first|(simp;done)|omega|rfl) [-getElem?_pos,]
    refine Zac (Zjh (k:=3*(4*n+4)+2) hv.1 (((hP.keep kB).keep k1).keep k2) (by simp[Za5];omega) qc (by omega)) ?_
    rintro v3 h3 n3 k3 hv3
    rcases hv3 with⟨a1,rfl⟩|⟨a1,v4,rfl,t1⟩
    ·simp(disch:=first|(simp;done)|omega|rfl) [-getElem?_pos,Ret,a1]
     exact((kB.trans k1).trans k2).trans k3
    ·simp(disch:=first|(simp;done)|omega|rfl) [-getElem?_pos,Ret,a1]
     exact⟨((kB.trans k1).trans k2).trans k3,t1⟩
  ·rename_i h00;exact absurd hc h00
 ·simp(disch:=first|(simp;done)|omega|rfl) [-getElem?_pos,c,Zag,Ret]
  exact kB.trans k1
def Zi1{g l p:Rat}{d:Nat}:(Za5 g l p d).length=d+3∧pg (Za5 g l p d) (d+2)=1:=by
 have e:(Za5 g l p d).length=d+3:=by simp[Za5]
 refine⟨e,?_⟩
 unfold pg Za5
 rw[Yry (by omega),Yry (by omega),Yry (by omega),Ysf (by simp)]
 rfl
def Ypj{g l p:Str}{d:Int}(h:Za8 g l p d=0):chkNum g=0∧chkNum l=0∧chkNum p=0∧∃dn:Nat,d=(dn:Int)∧dn≤6∧¬ratS g<0∧¬ratS l<0∧¬1<ratS l∧¬ratS p<0:=by
 unfold Za8 at h
 split at h
 ·rename_i h00
  obtain⟨n0,n1⟩:=Zhc h00
  split at h
  ·omega
  ·rename_i hl1
   obtain⟨n2,dd⟩:=Zhc h
   have hd0:¬(d<0∨6<d):=fun hx=>by rw[Yrw hx]at dd;omega
   exact⟨(Yba n0).1,(Yba n1).1,(Yba n2).1,d.toNat,by omega,by omega,(Yba n0).2,(Yba n1).2,hl1,(Yba n2).2⟩
 ·rename_i h00;exact absurd h h00
def Zhm{h:T O}{N:Nat}{w:List Nat}(hP:P10 h N):A.C.call (.func 7 [] []) [] ⟨h,N,w⟩=some (.bool true,⟨h,N,w⟩):=by
 exact A.known hP.2
variable {N z:Nat} {h:T O} {l:List (List V)} {v:V}
def A.w158:=A.q Tryz.f158
def A.lb158_0:=A.ql A.w158 0 []
def A.b158:=(fun x0=>A.qb A.w158 [x0]) A.lb158_0
def A.k158:=@A.kk 158 18 [.tmp 2] A.b158 (by kernel_rfl) rfl
def A.b12:=A.q Tryz.f12
def A.c12:A.F 12=some ⟨6,[.tmp 2],A.b12⟩:=by kernel_rfl
def A.k12:=@A.kk 12 _ _ _ A.c12 rfl
def Zuz{z:Nat}:∀{l:List (List V)} {c:List V} {o:Nat},(∀j x,l[j]?=some x→slc c (o+j*z) z=some x)→o+l.length*z≤c.length→slc c o (l.length*z)=some l.flatten
 |[],c,o,_,h=>by simp[slc]at h ⊢;omega
 |x::l,c,o,h,hl=>by
  obtain⟨h1,h2⟩:=Zlq (h 0 x rfl)
  simp only[Yrr,Ysv,Nat.one_mul,Nat.zero_mul,Yty]at hl h1 h2 ⊢
  obtain⟨h3,h4⟩:=Zlq (Zuz (l:=l) (c:=c) (o:=o+z) (fun j y hj=>by
   have:=h (j+1) y (by simpa using hj)
   rw[show o+z+j*z=o+(j+1)*z by rw[Ysv];omega];exact this) (by omega))
  unfold slc
  rw[Yrw (by omega),List.flatten_cons,h4,h2]
  congr 1
  rw[Nat.add_comm (l.length*z) z,List.take_add,←List.drop_drop]
def Zzx{w:List Nat}(s:Sn z h N v l):Za0 ⟨h,N,w⟩ z v=some (l.length,l.flatten):=by
 rcases s with⟨rfl,rfl|rfl⟩|⟨i,o,cp,c,e,rw,rfl,h2,h3,h4,h5,h6⟩
 ·rfl
 ·rfl
 ·simp only[Za0,if_true,St.row,h3,Zuz h4 h5]
def Cw(z:Nat)(e:TypeId)(N0:Nat)(h:T O)(N:Nat)(y:V)(l:List (List V)):Prop:=
 (∀x∈l,x.length=z)∧((l=[]∧∃i,y=.slice i 0 0 (some 0) z∧N0≤i∧i<N∧h.get i=some (.cells [] e true))∨∃i,y=.slice i 0 l.length none z∧N0≤i∧i<N∧h.get i=some (.cells l.flatten e true))
def Ygs{bytes:Nat}{e:TypeId}{N0:Nat}{i:Nat}{w:List Nat}(hz:0<z)(hs:Sn z h N v l)(hlz:∀x∈l,x.length=z)(hi:i<N)(h0:N0≤i)(hg:h.get i=some (.cells [] e true))(hb:(2*l.length+1000)*bytes≤281474976710656):
  ∃y h' N',Zbi ⟨h,N,w⟩ z bytes e (.slice i 0 0 (some 0) z) v=some (y,⟨h',N',w⟩)∧Keeps h N h' N'∧Cw z e N0 h' N' y l:=by
 by_cases hl:l.length=0
 ·have:l=[]:=Yr7 hl
  subst this
  exact⟨_,h,N,by simp[Zbi,Zzx hs],Keeps.refl,by simp,.inl ⟨rfl,i,rfl,h0,hi,hg⟩⟩
 ·refine⟨.slice N 0 l.length none z,h.set N (.cells l.flatten e true),N+1,?_,Keeps.refl.new _,hlz,.inr ⟨N,rfl,by omega,by omega,by rw[T.get_set,Yrw rfl]⟩⟩
  have hne:l≠[]:=fun hc=>hl (by rw[hc];rfl)
  simp only[Zbi,Zzx hs,Zc0,St.row,hg,slc,St.alloc]
  simp[hne]
  have:=Ysb bytes (show 2*l.length≤2*l.length+1000 by omega)
  omega
def Cw.sn{e:TypeId}{N0:Nat}{y:V}(s:Cw z e N0 h N y l):Sn z h N y l:=by
 obtain⟨hl,⟨h0,i,h1,h2,h3,h4⟩|⟨i,h1,h2,h3,h4⟩⟩:=s
 ·subst h0
  exact .inr ⟨i,0,some 0,[],e,true,h1,h3,h4,fun j x hj=>by simp at hj,by simp,fun k hk=>by simp⟩
 ·exact .inr ⟨i,0,none,l.flatten,e,true,h1,h3,h4,fun j x hj=>by rw[Yt5];exact Zd1 hl hj,by rw[Zbd hl];omega,fun k hk=>by cases hk⟩
def Ydi(l:List Str):Int:=Zan (l.map fun s=>((chkNum s:Nat):Int))
def Yh8{l:List Str}(h:Ydi l=0):∀s∈l,chkNum s=0:=by
 induction l with
 |nil=>intro s hs;simp at hs
 |cons a l ih=>
  unfold Ydi at h ih
  rw[Ys1,Zan]at h
  by_cases c:((chkNum a:Nat):Int)=0
  ·rw[Yrw c]at h
   intro s hs
   rcases Yss.1 hs with rfl|hs
   ·omega
   ·exact ih h s hs
  ·rw[Yrt c]at h;omega
def Zva{l:List Str}(hs:Sl h N v (strs l))(hl:l.length<100000)(hf0:∀s∈l,s.length≤100000):Fn A.C 158 [v] h N (fun u _ _=>u=.int .i64 (Ydi l)):=by
 intro w
 have hlen:=hs.len
 rw[Zf1]at hlen
 unfold Ydi
 rw[Zaf,A.k158 (by simp)]
 simp(disch:=first|(simp;done)|omega|rfl) [-getElem?_pos,A.b158,hlen]
 refine Zak [(2,2),(4,5),(8,17)] (fun e r st=>Zae N st.w=[]∧Keeps h N st.h st.n∧((e=.exit 0∧Zan (l.map (fun s=>((chkNum s:Nat):Int)))=0)∨(e=.ret∧r.get 2=some (.int .i64 (Zan (l.map (fun s=>((chkNum s:Nat):Int)))))))) (fun m r st=>Zae N st.w=[]∧Keeps h N st.h st.n∧∃k,k+m=l.length∧r.get 8=some (.int .i64 k)∧Zan (l.map (fun s=>((chkNum s:Nat):Int)))=Zan ((l.drop k).map (fun s=>((chkNum s:Nat):Int)))) l.length ?_ ?_ ?_
 ·exact⟨by simp,Keeps.refl,0,by omega,by simp,by simp⟩
 ·rintro m r ⟨H,n1,W⟩ hr hf2 ⟨hW,hK,k,hk,h7,hz⟩
  simp only at hW hK
  rw[Zai]
  cases m with
  |zero=>
   obtain rfl:k=l.length:=by omega
   rw[Yt1,Yua,Zan]at hz
   simp(disch:=first|(simp;done)|omega|rfl) [-getElem?_pos,A.lb158_0,hr,hf2,h7,hz,hW,hK]
  |succ m=>
   have hlt:k<l.length:=by omega
   obtain⟨s,hc⟩:=Zao hlt
   obtain⟨i,o,cc,e,rw,q1,q2,q3,q4⟩:=(hs.keep hK).at (Zpc hc)
   rw[Zaz hc,Ys1,Zan]at hz
   have hk1:(k:Int)<(l.length:Int):=by omega
   simp(disch:=first|(simp;done)|omega|rfl) [-getElem?_pos,A.lb158_0,hr,hf2,h7,hk1,hlt,hlen,q1,q2,q3,q4]
   refine Zac (Zwd (hf0 s (Yr1 hc))) ?_
   rintro _ h3 n3 k3 rfl
   have kk:=hK.trans k3
   by_cases h0:chkNum s=0
   ·rw[Yrw (by omega)]at hz
    simp(disch:=first|(simp;done)|omega|rfl) [-getElem?_pos,hr,hf2,h7,h0,hW,Zag]
    exact⟨m,by omega,kk,k+1,by omega,by simp,by simpa using hz⟩
   ·rw[Yrt (by omega)]at hz
    simp(disch:=first|(simp;done)|omega|rfl) [-getElem?_pos,hr,hf2,h7,h0,hW,Zag,hz]
    exact kk
 ·rintro _ r ⟨H,n1,W⟩ hr ⟨hW,hK,⟨rfl,hz⟩|⟨rfl,h2⟩⟩
  ·simp only at hW hK
   simp(disch:=first|(simp;done)|omega|rfl) [-getElem?_pos,hr,hz,Ret,hW,hK]
  ·simp only at hW hK
   simp(disch:=first|(simp;done)|omega|rfl) [-getElem?_pos,hr,h2,Ret,hW,hK]
def Zr2{l:List Str}(hs:Sl h N v (strs l))(hl:l.length<100000):Fn A.C 12 [v] h N (fun u h' n'=>Sl h' n' u (strs l)):=by
 intro w
 rw[Zaf,A.k12 (by simp)]
 have k0:Keeps h N (h.set N (.cells [] 22 true)) (N+1):=Keeps.refl.new _
 have s1:Sn 1 (h.set N (.cells [] 22 true)) (N+1) v ((strs l).map fun x=>[x]):=Sn.one.2 (hs.keep k0)
 obtain⟨y,h',N',ap,kk,cw⟩:=Ygs (z:=1) (bytes:=16) (e:=22) (N0:=N) (i:=N) (w:=[]) (by decide) s1 (by simp) (by omega) (Yru _) (by rw[T.get_set,Yrw rfl]) (by simp[strs];omega)
 simp(disch:=first|(simp;done)|omega|rfl) [-getElem?_pos,A.b12,ap,Ret]
 exact⟨k0.trans kk,Sn.one.1 cw.sn⟩
def Zn2{c:List V}(h:c.length=4):slc c 0 4=some c:=by unfold slc;rw[h];simp;exact Yr2 (by omega)
def Zjm{c d:List V}(h:c.length=4)(hd:d.length=4):splice d 0 c=c:=by unfold splice;rw[h];simp[h,hd]
variable {l:List Str}
def Zs8(l:List Str):List Rat:=l.map ratS
def Yak(h:Ydi l=0):strs l=tx (Zs8 l):=by
 unfold tx Zs8
 congr 1
 rw[List.map_map]
 conv=>lhs;rw[←List.map_id l]
 apply List.map_congr_left
 intro s hs
 exact((Zcd (Yh8 h s hs)).1).symm
def Yjb{n:Nat}(h:Ydi l=0)(hl:∀s∈l,s.length≤n):∀q∈Zs8 l,Qb (4*n+4) q:=fun q hq=>by
 obtain⟨s,hs,rfl⟩:=Ytq.1 hq
 exact Znl (Yh8 h s hs) (hl s hs)
def Zlt:(Zs8 l).length=l.length:=by simp[Zs8]
def Yrl(h:T O)(N:Nat)(x:V)(bad:Int)(l:List Rat):Prop:=(bad≠0∧x=.tup [.nilslice,.int .i64 bad])∨(bad=0∧((Ze5 l=true∧x=.tup [.nilslice,.int .i64 4])∨(Ze5 l=false∧∃v,x=.tup [v,.int .i64 0]∧TxT h N v l)))
open Go
variable {D k:Nat} {r:Rat}
def Zg7(es:List Rat)(D k:Nat):Rat:=if D≤k then pg es (k-D) else 0
def Zdt(g l p:Rat)(D:Nat)(d:List Rat):Nat→List Rat×List Rat×Rat
 |0=>([],[],0)
 |k+1=>
  let s:=Zdt g l p D d k
  let e:=s.1++[pg d k-s.2.2]
  (e,s.2.1++[s.2.2],l*s.2.2+(g*Zg7 e D k+p*(Zg7 e D k-Zg7 e (D+1) k)))
def runE(g l p:Rat)(D:Nat)(d:List Rat):List Rat:=(Zdt g l p D d d.length).1
def Zw5(g l p:Rat)(D:Nat)(d:List Rat):List Rat:=(Zdt g l p D d d.length).2.1
def Zd8{g l p:Rat}{D:Nat}{d:List Rat}:∀{k:Nat},(Zdt g l p D d k).1.length=k∧(Zdt g l p D d k).2.1.length=k
 |0=>⟨rfl,rfl⟩
 |k+1=>by
  have ih:=@Zd8 g l p D d k
  simp[Zdt,ih.1,ih.2]
def Db(D B:Nat)(q:Rat):Prop:=∃z:Int,q*(D:Rat)=(z:Rat)∧z.natAbs≤B
def Db.zero{B:Nat}:Db D B 0:=⟨0,by simp[Rat.zero_mul],by simp⟩
def Db.mono{B C:Nat}{q:Rat}(h:Db D B q)(hc:B≤C):Db D C q:=by
 obtain⟨z,h1,h2⟩:=h
 exact⟨z,h1,by omega⟩
def Db.add{B C:Nat}{q:Rat}(h:Db D B q)(k:Db D C r):Db D (B+C) (q+r):=by
 obtain⟨z,h1,h2⟩:=h
 obtain⟨y,k1,k2⟩:=k
 exact⟨z+y,by rw[Rat.add_mul,h1,k1,Rat.intCast_add],by omega⟩
def Db.sub{B C:Nat}{q:Rat}(h:Db D B q)(k:Db D C r):Db D (B+C) (q-r):=by
 obtain⟨z,h1,h2⟩:=h
 obtain⟨y,k1,k2⟩:=k
 exact⟨z-y,by rw[Rat.sub_eq_add_neg,Rat.add_mul,Rat.neg_mul,h1,k1,Rat.intCast_sub,Rat.sub_eq_add_neg],by omega⟩
def Db.mul{E B C:Nat}{q:Rat}(h:Db D B q)(k:Db E C r):Db (D*E) (B*C) (q*r):=by
 obtain⟨z,h1,h2⟩:=h
 obtain⟨y,k1,k2⟩:=k
 refine⟨z*y,?_,by rw[Ytk];exact Ysp h2 k2⟩
 rw[Rat.intCast_mul,←h1,←k1,Rat.natCast_mul]
 grind
def Db.up{E B:Nat}{q:Rat}(h:Db D B q):Db (E*D) (E*B) q:=by
 obtain⟨z,h1,h2⟩:=h
 refine⟨(E:Int)*z,?_,by rw[Ytk];exact Ysp (by simp) h2⟩
 rw[Rat.intCast_mul,←h1,Rat.natCast_mul]
 have:((E:Int):Rat)=(E:Rat):=rfl
 rw[this]
 grind
def Db.qb{B:Nat}{q:Rat}(h:Db D B q)(h0:0<D)(hd:D<2^k)(hb:B<2^k):Qb k q:=by
 obtain⟨z,h1,h2⟩:=h
 have hD:(D:Rat)≠0:=by
  intro hc
  have:((D:Nat):Rat)=((0:Nat):Rat):=hc
  rw[Rat.natCast_inj]at this
  omega
 have hq:q=Rat.divInt z (D:Int):=by
  rw[Rat.divInt_eq_div,←h1]
  have:(((D:Nat):Int):Rat)=(D:Rat):=rfl
  rw[this]
  grind
 rw[hq]
 exact Zhf (by omega) (by omega) (by simpa using hd)
def Db.own{q:Rat}(h:Qb k q):Db q.den (2^k) q:=⟨q.num,by
 have h1:=Yt7 q
 rw[Rat.divInt_eq_div]at h1
 have h2:(((q.den:Nat):Int):Rat)=(q.den:Rat):=rfl
 rw[h2]at h1
 have hD:(q.den:Rat)≠0:=by
  intro hc
  have:((q.den:Nat):Rat)=((0:Nat):Rat):=hc
  rw[Rat.natCast_inj]at this
  have:=q.den_pos
  omega
 grind,by have:=h.1;omega⟩
def Yd2:List Rat→Nat
 |[]=>1
 |q::l=>q.den*Yd2 l
def Zwa:∀{l:List Rat},0<Yd2 l
 |[]=>by simp[Yd2]
 |q::l=>Yuc q.den_pos Zwa
def Zuf{k:Nat}:∀{l:List Rat},(∀q∈l,Qb k q)→Yd2 l≤2^(k*l.length)
 |[],_=>by simp[Yd2]
 |q::l,h=>by
  have ih:=Zuf (l:=l) fun x hx=>h x (Ysj _ hx)
  have hq:=(h q Yst).2
  have:2^(k*(q::l).length)=2^k*2^(k*l.length):=by
   rw[←Ysr,Yrr,Ys8,Yub,Nat.add_comm]
  rw[this]
  exact Ysp (by omega) ih
def Ycz{k:Nat}:∀{l:List Rat},(∀q∈l,Qb k q)→∀q∈l,Db (Yd2 l) (2^(k*(l.length+1))) q
 |[],_,q,hq=>by simp at hq
 |x::l,h,q,hq=>by
  have hl:=Zuf (l:=l) fun x hx=>h x (Ysj _ hx)
  have hx:=(h x Yst)
  have e:2^(k*((x::l).length+1))=2^k*2^(k*(l.length+1)):=by
   rw[←Ysr,Yrr];congr 1;rw[Ys8 k (l.length+1) 1];omega
  rw[e]
  rcases Yss.1 hq with rfl|hq
  ·have h1:=(Db.own hx).up (E:=Yd2 l)
   rw[Ysk]at h1
   refine h1.mono ?_
   have e2:2^(k*(l.length+1))=2^(k*l.length)*2^k:=by rw[←Ysr,Ys8,Yub]
   have h3:Yd2 l*2^k≤2^(k*l.length)*2^k:=Ysb _ hl
   rw[e2]
   have h4:1≤2^k:=Nat.one_le_two_pow
   have h5:=Ysp h4 (Yru (2^(k*l.length)*2^k))
   omega
  ·have h1:=(Ycz (fun x hx=>h x (Ysj _ hx)) q hq).up (E:=x.den)
   exact h1.mono (Ysb _ (by have:=hx.2;omega))
def Zh5(X B:Nat):Nat→Nat
 |0=>B
 |k+1=>8*X*Zh5 X B k
def Db.raise{A D X B:Nat}{q:Rat}(hA:A≤X)(hX:1≤X):∀{j k:Nat},j≤k→Db (A^j*D) (2*Zh5 X B j) q→Db (A^k*D) (2*Zh5 X B k) q
 |j,0,h,hq=>by
  obtain rfl:j=0:=by omega
  exact hq
 |j,k+1,h,hq=>by
  by_cases e:j=k+1
  ·subst e;exact hq
  ·have ih:=(Db.raise hA hX (j:=j) (k:=k) (by omega) hq).up (E:=A)
   rw[←Yt3,←Nat.pow_succ']at ih
   refine ih.mono ?_
   rw[Zh5]
   have h1:A*(2*Zh5 X B k)≤X*(2*Zh5 X B k):=Ysb _ hA
   have h2:X*(2*Zh5 X B k)=2*(X*Zh5 X B k):=by rw[Nat.mul_left_comm]
   have h3:8*X*Zh5 X B k=8*(X*Zh5 X B k):=Yt3 _ _ _
   omega
def Zz8{g l p:Rat}{D A Δ X B:Nat}{d:List Rat}(hX:1≤X)(hA:A≤X)(hg:Db A X g)(hl:Db A X l)(hp:Db A X p)(hd:∀q∈d,Db Δ B q):∀{k:Nat},k≤d.length→Db (A^k*Δ) (Zh5 X B k) (Zdt g l p D d k).2.2∧∀(j:Nat) (q:Rat),(Zdt g l p D d k).1[j]?=some q→Db (A^j*Δ) (2*Zh5 X B j) q
 |0,_=>⟨Db.zero,fun j q h=>by simp[Zdt]at h⟩
 |k+1,hk=>by
  obtain⟨ih1,ih2⟩:=Zz8 (D:=D) hX hA hg hl hp hd (k:=k) (by omega)
  have le:=(@Zd8 g l p D d k).1
  have hdk:Db (A^k*Δ) (A^k*B) (pg d k):=(hd _ (Yr1 (Zbk (p:=d) (i:=k) (by omega)))).up
  have hAk:A^k*B≤Zh5 X B k:=by
   clear hdk ih1 ih2 le hk
   induction k with
   |zero=>simp[Zh5]
   |succ k ih=>
    rw[Zh5,Ysg,Nat.mul_right_comm,Ysk]
    have h1:A*(A^k*B)≤X*Zh5 X B k:=Ysp hA ih
    have h3:8*X*Zh5 X B k=8*(X*Zh5 X B k):=Yt3 _ _ _
    omega
  have hek:Db (A^k*Δ) (2*Zh5 X B k) (pg d k-(Zdt g l p D d k).2.2):=(hdk.sub ih1).mono (by omega)
  have hE:∀(j:Nat) (q:Rat),((Zdt g l p D d k).1++[pg d k-(Zdt g l p D d k).2.2])[j]?=some q→Db (A^j*Δ) (2*Zh5 X B j) q:=fun j q hq=>by
   by_cases hj:j<k
   ·rw[Ysc (by omega)]at hq
    exact ih2 j q hq
   ·have hj2:j=k:=by have:=Zb4 hq;simp at this;omega
    subst hj2
    rw[Ysn (by omega),le]at hq
    simp at hq
    rw[←hq];exact hek
  have hlate:∀D',Db (A^k*Δ) (2*Zh5 X B k) (Zg7 ((Zdt g l p D d k).1++[pg d k-(Zdt g l p D d k).2.2]) D' k):=fun D'=>by
   unfold Zg7
   split
   ·exact Db.raise hA hX (j:=k-D') (by omega) (hE _ _ (Zbk (by simp[le];omega)))
   ·exact Db.zero
  refine⟨?_,fun j q hq=>by
   have:(Zdt g l p D d (k+1)).1=(Zdt g l p D d k).1++[pg d k-(Zdt g l p D d k).2.2]:=rfl
   rw[this]at hq
   exact hE j q hq⟩
  have h1:=((hl.mul ih1).add ((hg.mul (hlate D)).add (hp.mul ((hlate D).sub (hlate (D+1))))))
  rw[←Yt3,←Nat.pow_succ']at h1
  refine h1.mono ?_
  rw[Zh5]
  have h3:8*X*Zh5 X B k=8*(X*Zh5 X B k):=Yt3 _ _ _
  have h4:X*(2*Zh5 X B k)=2*(X*Zh5 X B k):=by rw[Nat.mul_left_comm]
  have h5:X*(2*Zh5 X B k+2*Zh5 X B k)=4*(X*Zh5 X B k):=by rw[Ys8,h4];omega
  omega
def A.b159:=A.q Tryz.f159
def A.k159:=@A.kk 159 11 [.cell 3 (some 4)] A.b159 (by kernel_rfl) rfl
def Zz9{a b:Nat}:∀{k:Nat},Zh5 (2^a) (2^b) k=2^((a+3)*k+b)
 |0=>by simp[Zh5]
 |k+1=>by
  rw[Zh5,Zz9 (k:=k)]
  have h8:(8:Nat)=2^3:=rfl
  rw[h8,←Ysr,←Ysr]
  congr 1
  rw[Ys8 (a+3) k 1];omega
def Zk8{g l p:Rat}{D kc kd:Nat}{d:List Rat}(hg:Qb kc g)(hl:Qb kc l)(hp:Qb kc p)(hd:∀q∈d,Qb kd q){k:Nat}(hk:k≤d.length):Qb ((3*kc+3)*d.length+kd*(d.length+1)+2) (Zdt g l p D d k).2.2∧∀q∈(Zdt g l p D d k).1,Qb ((3*kc+3)*d.length+kd*(d.length+1)+2) q:=by
 obtain⟨A,hA⟩:∃A,A=l.den*(p.den*g.den):=⟨_,rfl⟩
 have A0:0<A:=by rw[hA];exact Yuc l.den_pos (Yuc p.den_pos g.den_pos)
 have e3:2^(3*kc)=2^kc*(2^kc*2^kc):=by rw[←Ysr,←Ysr];congr 1;omega
 have le1:=Nat.le_of_lt hl.2
 have le2:=Nat.le_of_lt hp.2
 have le3:=Nat.le_of_lt hg.2
 have Ale:A≤2^(3*kc):=by rw[hA,e3];exact Ysp le1 (Ysp le2 le3)
 have dg:Db A (2^(3*kc)) g:=by
  have:=((Db.own hg).up (E:=p.den)).up (E:=l.den)
  rw[hA,e3]
  exact this.mono (Ysp le1 (Ysp le2 (Yru _)))
 have dp:Db A (2^(3*kc)) p:=by
  have:=((Db.own hp).up (E:=g.den)).up (E:=l.den)
  rw[hA,e3,Ysk p.den]
  exact this.mono (Ysp le1 (Ysp le3 (Yru _)))
 have dl:Db A (2^(3*kc)) l:=by
  have:=((Db.own hl).up (E:=g.den)).up (E:=p.den)
  have e:l.den*(p.den*g.den)=p.den*(g.den*l.den):=by rw[Nat.mul_left_comm,Ysk l.den]
  rw[hA,e3,e]
  exact this.mono (Ysp le2 (Ysp le3 (Yru _)))
 have X1:1≤2^(3*kc):=Nat.one_le_two_pow
 obtain⟨r1,r2⟩:=Zz8 (D:=D) X1 Ale dg dl dp (Ycz hd) hk
 have hD:∀j,j≤d.length→A^j*Yd2 d<2^((3*kc+3)*d.length+kd*(d.length+1)+2):=fun j hj=>by
  have h1:A^j≤(2^(3*kc))^j:=Yuf Ale j
  have h2:=Ysp h1 (Zuf hd)
  rw[←Nat.pow_mul,←Ysr]at h2
  refine Ysl h2 (Nat.pow_lt_pow_right (by decide) ?_)
  have h3:3*kc*j≤3*kc*d.length:=Yr9 _ hj
  have h4:(3*kc+3)*d.length=3*kc*d.length+3*d.length:=Ysv _ _ _
  have h5:kd*(d.length+1)=kd*d.length+kd:=by rw[Ys8,Yub]
  omega
 have hB:∀j,j≤d.length→2*Zh5 (2^(3*kc)) (2^(kd*(d.length+1))) j<2^((3*kc+3)*d.length+kd*(d.length+1)+2):=fun j hj=>by
  rw[Zz9]
  have e:2*2^((3*kc+3)*j+kd*(d.length+1))=2^((3*kc+3)*j+kd*(d.length+1)+1):=by rw[Ysg,Ysk]
  rw[e]
  refine Nat.pow_lt_pow_right (by decide) ?_
  have h3:(3*kc+3)*j≤(3*kc+3)*d.length:=Yr9 _ hj
  omega
 have pos:∀j,0<A^j*Yd2 d:=fun j=>Yuc (Yuv A0) Zwa
 refine⟨r1.qb (pos k) (hD k hk) (by have:=hB k hk;omega),fun q hq=>?_⟩
 obtain⟨j,hj⟩:=Yu0 hq
 have hjk:=Zb4 hj
 rw[Zd8.1]at hjk
 exact(r2 j q hj).qb (pos j) (hD j (by omega)) (hB j (by omega))
def Zu4{h:T O}{N E:Nat}{ve:V}{es:List Rat}{D k:Nat}{z:Int}(hE:h.get E=some (.cells [ve] 100 true))(hEN:E<N)(he:FrS h N ve es)(hz:z=(k:Int)-(D:Int))(hl:es.length=k+1)(hk:k<1000):FnV A.C (.func 159 [] [.ptr E 0]) [.int .i64 z] h N (fun v h' n'=>Fc h' n' v (Zg7 es D k)):=by
 intro w
 have hcc:∀c:List V,(V.agg c).cells=c:=fun _=>rfl
 have lv:=he.len
 have e0:zF=[V.int .i64 0,.nilslice,.int .i64 0,.nilslice]:=rfl
 rw[Zaf,A.k159 (by simp)]
 unfold Zg7
 by_cases c:D≤k
 ·rw[Yrw c]
  have c1:¬z<0:=by omega
  have c2:z<((k+1:Nat):Int):=by omega
  have c3:z.toNat=k-D:=by omega
  have c4:0≤z:=by omega
  obtain⟨i,o,x,e,rw,cv,b1,b2,b3,b4,b5⟩:=he.at (Zbk (p:=es) (i:=k-D) (by omega))
  obtain⟨f1,f2⟩:=b5.len
  have e4:=Zjm (d:=zF) f1 rfl
  have s4:=Zn2 f1
  have hne:¬i=N:=by omega
  have hEn:¬E=N:=by omega
  rw[hl]at lv
  rw[e0]at e4
  simp(disch:=first|(simp;done)|omega|rfl) [-getElem?_pos, -V.cells, -V.one,A.b159,c1,c2,c3,c4,hE,hEN,lv,b1,b2,b3,b4,hcc,f1,f2,Zam,e4,s4,Zaj,hne,hEn,Ret]
  exact⟨(Keeps.refl.new _).set (Yru _),(b5.keep ((Keeps.refl.new _).set (Yru _))).up⟩
 ·rw[Yrt c]
  have c1:z<0:=by omega
  simp(disch:=first|(simp;done)|omega|rfl) [-getElem?_pos, -V.cells, -V.one,A.b159,c1]
  refine Zac (Zt9 (z:=0) (by decide) (by decide)) ?_
  rintro _ h1 n1 k1 hz
  obtain⟨c0,rfl,hc0⟩:=hz.c
  obtain⟨f1,f2⟩:=hc0.len
  have e4:=Zjm (d:=zF) f1 rfl
  have s4:=Zn2 f1
  rw[e0]at e4
  have gN:=(k1.get N (by omega)).trans (show (h.set N (.cells [V.int .i64 0,.nilslice,.int .i64 0,.nilslice] 110 true)).get N=_ by rw[T.get_set,Yrw rfl])
  have lN:=k1.le
  have lN2:N<n1:=by omega
  simp(disch:=first|(simp;done)|omega|rfl) [-getElem?_pos, -V.cells, -V.one,hcc,f1,f2,Zam,gN,lN2,e4,s4,Ret]
  exact⟨((Keeps.refl.new _).trans k1).set (by omega),(hc0.setNU gN (by intro x hx m;simp at hx;rcases hx with rfl|rfl|rfl|rfl<;>simp) (by simp[f1])).up⟩
end
end Go.Mx
