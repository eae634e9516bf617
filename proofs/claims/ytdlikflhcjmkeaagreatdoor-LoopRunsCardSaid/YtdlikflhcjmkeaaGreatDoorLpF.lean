/-loop-/
import Derived.Test.YtdlikflhcjmkeaaGreatDoorVaC
set_option linter.all false
set_option maxHeartbeats 4000000
namespace Go.Mx
noncomputable section
open Go Go.Proofs
variable {N:Nat} {h:T O}
set_option maxRecDepth 1000000
def A.w208:=A.q Tryz.f208
def A.lb208_0:=A.ql A.w208 0 []
def A.b208:=(fun x0=>A.qb A.w208 [x0]) A.lb208_0
def A.k208:=@A.kk 208 19 [.tmp 4] A.b208 (by kernel_rfl) rfl
def Yjg{v f:V}(l:List (List V))(p:Nat→Bool)(hs:Sn 4 h N v l)(hl:l.length<1152921504606846976)(hf:∀(j:Nat) (x:List V),l[j]?=some x→∀h' n',Keeps h N h' n'→FnV A.C f [.agg x] h' n' (fun u _ _=>u=.bool (p j))):Fn A.C 208 [v,f] h N (fun u _ _=>u=.int .i64 (Zfk p 0 l.length)):=by
 intro w
 have hlen:=hs.len
 rw[Zab,A.k208 (by simp)]
 simp[A.b208,hlen]
 refine Zaj [(4,5),(8,18)] (fun e r st=>Zac N st.w=[]∧Keeps h N st.h st.n∧((e=.exit 0∧Zfk p 0 l.length= -1)∨(e=.ret∧r.get 4=some (.int .i64 (Zfk p 0 l.length))))) (fun m r st=>Zac N st.w=[]∧Keeps h N st.h st.n∧∃k,k+m=l.length∧r.get 8=some (.int .i64 k)∧Zfk p 0 l.length=Zfk p k m) l.length ?_ ?_ ?_
 ·exact⟨by simp,Keeps.refl,0,by omega,by simp,rfl⟩
 ·rintro m r ⟨H,n1,W⟩ hr hf2 ⟨hW,hK,k,hk,h8,hz⟩
  simp only at hW hK
  rw[Zai]
  cases m with
  |zero=>
   have:k=l.length:=by omega
   subst this
   simp only[Zfk]at hz
   simp[A.lb208_0,hr,hf2,h8,hW,hK,hz]
  |succ m=>
   have hlt:k<l.length:=by omega
   obtain⟨c,hc⟩:=Zan hlt
   obtain⟨i,o,cc,e,rw,q1,q2,q3,q4⟩:=hs.at hc
   have q3:=(hK.get _ q2).trans q3
   have hk1:(k:Int)<(l.length:Int):=by omega
   simp only[Zfk]at hz
   simp[A.lb208_0,hr,h8,hk1,hlen,q1,q3,q4]
   refine Yhy (hf k c hc _ _ hK) ?_
   rintro v h2 n2 k2 rfl
   have kk:=hK.trans k2
   cases hp:p k
   ·rw[hp]at hz
    simp(disch:=first|(simp;done)|omega|rfl) [hf2,h8,hW,kk]
    exact⟨m,by omega,k+1,by omega,by simp,by simpa using hz⟩
   ·rw[hp]at hz
    simp[hf2,hW,kk]
    simpa using hz.symm
 ·rintro e r ⟨H,n1,W⟩ hr ⟨hW,hK,⟨rfl,hz⟩|⟨rfl,h4⟩⟩
  ·simp only at hW hK
   simp[hz,Ret,hW,hK]
  ·simp only at hW hK
   simp[h4,Ret,hW,hK]
def A.b149:=A.q Tryz.f149
def A.k149:=@A.kk 149 9 [.tmp 4] A.b149 (by kernel_rfl) rfl
def A.b76:=A.q Tryz.f76
def A.k76:=@A.kk 76 8 [.tmp 2,.tmp 3] A.b76 (by kernel_rfl) rfl
def A.b82:=A.q Tryz.f82
def A.k82:=@A.kk 82 8 [.tmp 2,.tmp 3] A.b82 (by kernel_rfl) rfl
def Yfj{v f:V}(l:List (List V))(p:Nat→Bool)(hs:Sn 4 h N v l)(hl:l.length<1152921504606846976)(hf:∀(j:Nat) (x:List V),l[j]?=some x→∀h' n',Keeps h N h' n'→FnV A.C f [.agg x] h' n' (fun u _ _=>u=.bool (p j))):Fn A.C 149 [v,f] h N (fun u _ _=>u=.bool (decide (0≤Zfk p 0 l.length))):=by
 intro w
 rw[Zab,A.k149 (by simp)]
 simp[A.b149]
 refine Zaa (Yjg l p hs hl hf) ?_
 rintro v h2 n2 k2 rfl
 simp[Ret,k2]
def Zxu{l:List Rat}:decide (0≤Zfk (fun j=>Zrn (l[j]?.getD 0)) 0 l.length)=Zcy l:=by
 rw[Bool.eq_iff_iff,decide_eq_true_eq,Zrb]
 unfold Zcy
 rw[List.any_eq_true]
 constructor
 ·rintro⟨j,_,h2,h3⟩
  obtain⟨q,hq⟩:=Zan (l:=l) (k:=j) (by omega)
  rw[hq]at h3
  exact⟨q,Yqn hq,h3⟩
 ·rintro⟨q,hq,h3⟩
  obtain⟨j,hj⟩:=Ytr hq
  exact⟨j,Ysz _,by have:=Zct hj;omega,by rw[hj];exact h3⟩
def Yda{h:T O}{N:Nat}{u:V}{l:List Rat}{k:Nat}(hu:FrS h N u l)(hP:P10 h N)(hl:l.length<1000000000)(hq:∀q∈l,Qb k q)(hk:k≤400000000):Fn A.C 76 [u] h N (fun x h' n'=>(Zcy l=true∧x=.tup [.nilslice,.int .i64 4])∨(Zcy l=false∧∃v,x=.tup [v,.int .i64 0]∧TxT h' n' v l)):=by
 intro w
 obtain⟨cs,s1,s2,s3⟩:=id hu
 have key:=Yfj (f:=.func 150 [] []) cs (fun j=>Zrn (l[j]?.getD 0)) s1 (by omega) (fun j x hx h' n' hk'=>by
  obtain⟨q,hqj⟩:=Zan (l:=l) (k:=j) (by have:=Zct hx;omega)
  obtain⟨c,g1,g2⟩:=s3 j q hqj
  rw[hx]at g1
  obtain rfl:x=c:=by simpa using g1
  simp only[hqj,Option.getD_some]
  exact Zra (g2.keep hk').fc (hP.keep hk') (hq q (Yqn hqj)) (by omega))
 rw[s2,Zxu]at key
 rw[Zab,A.k76 (by simp)]
 simp(disch:=first|(simp;done)|omega|rfl) [-getElem?_pos,A.b76]
 refine Zaa key ?_
 rintro _ h2 n2 k2 rfl
 cases hb:Zcy l with
 |true=>
  simp(disch:=first|(simp;done)|omega|rfl) [-getElem?_pos,Ret]
  exact k2
 |false=>
  simp(disch:=first|(simp;done)|omega|rfl) [-getElem?_pos,]
  refine Zaa (Ydd (k0:=k) (hu.keep k2) (hP.keep k2) hl hq hk) ?_
  rintro v h3 n3 k3 t1
  simp(disch:=first|(simp;done)|omega|rfl) [-getElem?_pos,Ret]
  exact⟨k2.trans k3,t1⟩
def Zze{h:T O}{N k:Nat}{x:V}{q:Rat}(hx:Fc h N x q)(hP:P10 h N)(hq:Qb k q)(hk:k≤400000000):Fn A.C 82 [x] h N (fun v _ _=>v=if Zrn q=true then .tup [.str [],.int .i64 4] else .tup [.str (Zaq q),.int .i64 0]):=by
 intro w
 rw[Zab,A.k82 (by simp)]
 obtain⟨n1,u1,n2,u2,rfl,s1,s2⟩:=hx
 have o1:=Zat s1
 have o2:=Zat s2
 unfold V.one at o1 o2
 have kB:Keeps h N (h.set N (.cells [.int .i64 n1,u1,.int .i64 n2,u2] 102 true)) (N+1):=kset Keeps.refl _
 have b0:(h.set N (.cells [.int .i64 n1,u1,.int .i64 n2,u2] 102 true)).get N=some (.cells [.int .i64 n1,u1,.int .i64 n2,u2] 102 true):=by simp
 simp(disch:=first|(simp;done)|omega|rfl) [-getElem?_pos,A.b82,Zah,slc,o1,o2]
 generalize hhB:h.set N (.cells [.int .i64 n1,u1,.int .i64 n2,u2] 102 true)=hB at*
 clear hhB
 have hx:Fc hB (N+1) (.agg [.int .i64 n1,u1,.int .i64 n2,u2]) q:=⟨n1,u1,n2,u2,rfl,s1.keep kB,s2.keep kB⟩
 have hPB:=hP.keep kB
 have lg:=Zra hx hPB hq hk
 refine Zaa lg ?_
 rintro _ h2 m2 k2 rfl
 have le2:=k2.le
 have f2:=(k2.get N (by omega)).trans b0
 have e2:N<m2:=by omega
 cases hb:Zrn q with
 |true=>
  simp(disch:=first|(simp;done)|omega|rfl) [-getElem?_pos,Ret]
  exact kB.trans k2
 |false=>
  simp(disch:=first|(simp;done)|omega|rfl) [-getElem?_pos,f2,e2,Zah,slc]
  refine Zaa (Zyt (hx.keep k2) (hPB.keep k2) (by have:=Zit hq.1;omega) (by have:=Zit hq.2;omega)) ?_
  rintro _ h3 m3 k3 rfl
  simp(disch:=first|(simp;done)|omega|rfl) [-getElem?_pos,Ret]
  exact(kB.trans k2).trans k3
def Yn9{g l p:Str}{d:Int}(h:Zbj g l p d=0):chkNum g=0∧chkNum l=0∧chkNum p=0∧∃dn:Nat,d=(dn:Int)∧dn≤6∧¬ratS g<0∧¬ratS l<0∧¬1<ratS l∧¬ratS p<0:=by
 unfold Zbj at h
 split at h
 ·rename_i h00
  obtain⟨n0,n1⟩:=Zio h00
  split at h
  ·omega
  ·rename_i hl1
   obtain⟨n2,dd⟩:=Zio h
   have hd0:¬(d<0∨6<d):=fun hx=>by rw[Yqi hx]at dd;omega
   exact⟨(Zz7 n0).1,(Zz7 n1).1,(Zz7 n2).1,d.toNat,by omega,by omega,(Zz7 n0).2,(Zz7 n1).2,hl1,(Zz7 n2).2⟩
 ·rename_i h00;exact absurd h h00
variable {v:V}
def A.b23:=A.q Tryz.f23
def A.c23:A.F 23=some ⟨29,[.tmp 8],A.b23⟩:=by kernel_rfl
def A.k23:=@A.kk 23 _ _ _ A.c23 rfl
def A.b29:=A.q Tryz.f29
def A.c29:A.F 29=some ⟨30,[.tmp 8],A.b29⟩:=by kernel_rfl
def A.k29:=@A.kk 29 _ _ _ A.c29 rfl
def Zzz{e:Int}{s:Str}{st:St}(h:e≠0):A.C.call (.func 23 [] []) [.str [],.int .i64 e,.int .i64 e,.str s] st=some (.bool true,st):=by
 apply Call.eq
 rw[Zab,A.k23 (by simp)]
 simp(disch:=first|(simp;done)|omega|rfl) [-getElem?_pos,A.b23,h,Zak]
def Yd9{q:Rat}{st:St}(hl:(Zaq q).length<1000000000)(hb:Zrn q=false):A.C.call (.func 23 [] []) [.str (Zaq q),.int .i64 0,.int .i64 0,.str (Zaq q)] st=some (.bool true,st):=by
 have hL:=fun st=>Zmq (q:=q) (st:=st) hl
 simp only[hb,Yqm,if_false]at hL
 apply Call.eq
 rw[Zab,A.k23 (by simp)]
 simp(disch:=first|(simp;done)|omega|rfl) [-getElem?_pos,A.b23,hL,Zak]
def Yii{q:Rat}{st:St}(hl:(Zaq q).length<1000000000)(hb:Zrn q=true):A.C.call (.func 23 [] []) [.str [],.int .i64 4,.int .i64 0,.str (Zaq q)] st=some (.bool true,st):=by
 have hL:=fun st=>Zmq (q:=q) (st:=st) hl
 simp only[hb,if_true]at hL
 apply Call.eq
 rw[Zab,A.k23 (by simp)]
 simp(disch:=first|(simp;done)|omega|rfl) [-getElem?_pos,A.b23,hL,Zak]
def Yh0{e:Int}{st:St}(h:e≠0):A.C.call (.func 29 [] []) [.nilslice,.int .i64 e,.int .i64 e,v] st=some (.bool true,st):=by
 apply Call.eq
 rw[Zab,A.k29 (by simp)]
 simp(disch:=first|(simp;done)|omega|rfl) [-getElem?_pos,A.b29,h,Zak]
def Ydv{h:T O}{N:Nat}{u:V}{l:List Rat}{w:List Nat}(hu:Tx h N u l)(hv:Tx h N v l)(hl:l.length<100000)(hq:∀q∈l,(Zaq q).length<1000000000)(hb:Zcy l=false):A.C.call (.func 29 [] []) [u,.int .i64 0,.int .i64 0,v] ⟨h,N,w⟩=some (.bool true,⟨h,N,w⟩):=by
 have hL:=fun w=>Yas (w:=w) hv hl hq
 simp only[hb,Yqm,if_false]at hL
 have hS:=fun w=>Yhl (w:=w) (l:=l.map Zaq) hu hv (by simpa using hl)
 apply Call.eq
 rw[Zab,A.k29 (by simp)]
 simp(disch:=first|(simp;done)|omega|rfl) [-getElem?_pos,A.b29,hL,hS,Zak]
def Yhz{h:T O}{N:Nat}{l:List Rat}{w:List Nat}(hv:Tx h N v l)(hl:l.length<100000)(hq:∀q∈l,(Zaq q).length<1000000000)(hb:Zcy l=true):A.C.call (.func 29 [] []) [.nilslice,.int .i64 4,.int .i64 0,v] ⟨h,N,w⟩=some (.bool true,⟨h,N,w⟩):=by
 have hL:=fun w=>Yas (w:=w) hv hl hq
 simp only[hb,if_true]at hL
 apply Call.eq
 rw[Zab,A.k29 (by simp)]
 simp(disch:=first|(simp;done)|omega|rfl) [-getElem?_pos,A.b29,hL,Zak]
def Zro{h:T O}{N:Nat}{w:List Nat}(hP:P10 h N):A.C.call (.func 7 [] []) [] ⟨h,N,w⟩=some (.bool true,⟨h,N,w⟩):=by
 exact A.known hP.2
variable {N z:Nat} {h:T O} {l:List Str} {v:V} {w:List Nat}
def A.w8:=A.q Tryz.f8
def A.lb8_0:=A.ql A.w8 0 []
def A.b8:=(fun x0=>A.qb A.w8 [x0]) A.lb8_0
def A.k8:=@A.kk 8 26 [.tmp 6] A.b8 (by kernel_rfl) rfl
def A.b58:=A.q Tryz.f58
def A.k58:=@A.kk 58 21 [.tmp 6] A.b58 (by kernel_rfl) rfl
def A.w110:=A.q Tryz.f110
def A.lb110_0:=A.ql A.w110 0 []
def A.b110:=(fun x0=>A.qb A.w110 [x0]) A.lb110_0
def A.k110:=@A.kk 110 18 [.tmp 2] A.b110 (by kernel_rfl) rfl
def A.b12:=A.q Tryz.f12
def A.c12:A.F 12=some ⟨6,[.tmp 2],A.b12⟩:=by kernel_rfl
def A.k12:=@A.kk 12 _ _ _ A.c12 rfl
def Yu4{z:Nat}:∀{l:List (List V)} {c:List V} {o:Nat},(∀j x,l[j]?=some x→slc c (o+j*z) z=some x)→o+l.length*z≤c.length→slc c o (l.length*z)=some l.flatten
 |[],c,o,_,h=>by simp[slc]at h ⊢;omega
 |x::l,c,o,h,hl=>by
  obtain⟨h1,h2⟩:=Zt6 (h 0 x rfl)
  simp only[Yqd,Yrf,Nat.one_mul,Nat.zero_mul,Ysh]at hl h1 h2 ⊢
  obtain⟨h3,h4⟩:=Zt6 (Yu4 (l:=l) (c:=c) (o:=o+z) (fun j y hj=>by
   have:=h (j+1) y (by simpa using hj)
   rw[show o+z+j*z=o+(j+1)*z by rw[Yrf];omega];exact this) (by omega))
  unfold slc
  rw[Yqi (by omega),List.flatten_cons,h4,h2]
  congr 1
  rw[Nat.add_comm (l.length*z) z,List.take_add,←List.drop_drop]
def Yve{l:List (List V)}(s:Sn z h N v l):Zbc ⟨h,N,w⟩ z v=some (l.length,l.flatten):=by
 rcases s with⟨rfl,rfl|rfl⟩|⟨i,o,cp,c,e,rw,rfl,h2,h3,h4,h5,h6⟩
 ·rfl
 ·rfl
 ·simp only[Zbc,if_true,St.row,h3,Yu4 h4 h5]
def Cw(z:Nat)(e:TypeId)(N0:Nat)(h:T O)(N:Nat)(y:V)(l:List (List V)):Prop:=
 (∀x∈l,x.length=z)∧((l=[]∧∃i,y=.slice i 0 0 (some 0) z∧N0≤i∧i<N∧h.get i=some (.cells [] e true))∨∃i,y=.slice i 0 l.length none z∧N0≤i∧i<N∧h.get i=some (.cells l.flatten e true))
def Yvr{bytes:Nat}{e:TypeId}{N0:Nat}{i:Nat}{l:List (List V)}(hz:0<z)(hs:Sn z h N v l)(hlz:∀x∈l,x.length=z)(hi:i<N)(h0:N0≤i)(hg:h.get i=some (.cells [] e true))(hb:(2*l.length+1000)*bytes≤281474976710656):
  ∃y h' N',Zc7 ⟨h,N,w⟩ z bytes e (.slice i 0 0 (some 0) z) v=some (y,⟨h',N',w⟩)∧Keeps h N h' N'∧Cw z e N0 h' N' y l:=by
 by_cases hl:l.length=0
 ·have:l=[]:=Yqw hl
  subst this
  exact⟨_,h,N,by simp[Zc7,Yve hs],Keeps.refl,by simp,.inl ⟨rfl,i,rfl,h0,hi,hg⟩⟩
 ·refine⟨.slice N 0 l.length none z,h.set N (.cells l.flatten e true),N+1,?_,Keeps.refl.new _,hlz,.inr ⟨N,rfl,by omega,by omega,by rw[T.get_set,Yqi rfl]⟩⟩
  have hne:l≠[]:=fun hc=>hl (by rw[hc];rfl)
  simp only[Zc7,Yve hs,Zd5,St.row,hg,slc,St.alloc]
  simp[hne]
  have:=Yqz bytes (show 2*l.length≤2*l.length+1000 by omega)
  omega
def Cw.sn{e:TypeId}{N0:Nat}{y:V}{l:List (List V)}(s:Cw z e N0 h N y l):Sn z h N y l:=by
 obtain⟨hl,⟨h0,i,h1,h2,h3,h4⟩|⟨i,h1,h2,h3,h4⟩⟩:=s
 ·subst h0
  exact .inr ⟨i,0,some 0,[],e,true,h1,h3,h4,fun j x hj=>by simp at hj,by simp,fun k hk=>by simp⟩
 ·exact .inr ⟨i,0,none,l.flatten,e,true,h1,h3,h4,fun j x hj=>by rw[Yst];exact Zf9 hl hj,by rw[Zb6 hl];omega,fun k hk=>by cases hk⟩
def Yvf(s:Str):Bool:=decide (s.length≤40)
def Yvw(k n lim:Nat):Bool:=decide (k≤n∨lim<k∧k≤lim+2)
def Yub(n lim:Nat)(l:List Str):Bool:=Yvw l.length n lim&&l.all Yvf
def Yva{k n lim:Nat}{st:St}(h1:lim<1000):A.C.call (.func 58 [] []) [.int .i64 k,.int .i64 n,.int .i64 lim] st=some (.bool (Yvw k n lim),st):=by
 apply Call.eq
 rw[Zab,A.k58 (by simp)]
 by_cases c1:k≤n
 ·have a1:(k:Int)≤n:=by omega
  simp(disch:=first|(simp;done)|omega|rfl) [-getElem?_pos,A.b58,a1,c1,Yvw]
 ·have a1:¬(k:Int)≤n:=by omega
  by_cases c2:lim<k
  ·have a2:(lim:Int)<k:=by omega
   by_cases c3:k≤lim+2
   ·have a3:(k:Int)≤(lim:Int)+2:=by omega
    simp(disch:=first|(simp;done)|omega|rfl) [-getElem?_pos,A.b58,a1,c1,a2,c2,a3,c3,Yvw]
   ·have a3:¬(k:Int)≤(lim:Int)+2:=by omega
    simp(disch:=first|(simp;done)|omega|rfl) [-getElem?_pos,A.b58,a1,c1,a2,c2,a3,c3,Yvw]
  ·have a2:¬(lim:Int)<k:=by omega
   simp(disch:=first|(simp;done)|omega|rfl) [-getElem?_pos,A.b58,a1,c1,a2,c2,Yvw]
def Yuo{n lim:Nat}(hs:Sl h N v (strs l))(hl:l.length<9223372036854775808)(h1:lim<1000):A.C.call (.func 8 [] []) [v,.int .i64 n,.int .i64 lim] ⟨h,N,w⟩=some (.bool (Yub n lim l),⟨h,N,w⟩):=by
 apply Call.eq
 have lg:=hs.len
 rw[Zt1]at lg
 have hL:=fun st=>Yva (k:=l.length) (n:=n) (st:=st) h1
 rw[Zab,A.k8 (by simp)]
 by_cases c1:Yvw l.length n lim=true
 ·have e1:Yub n lim l=l.all Yvf:=by simp[Yub,c1]
  rw[e1]
  simp(disch:=first|(simp;done)|omega|rfl) [-getElem?_pos,A.b8,lg,hL,c1]
  refine Zaj [(6,7),(14,25)] (fun e r st=>st=⟨h,N,[]⟩∧((e=.exit 0∧l.all Yvf=true)∨(e=.ret∧l.all Yvf=false∧r.get 6=some (.bool false)))) (fun m r st=>st=⟨h,N,[]⟩∧∃k,k+m=l.length∧r.get 7=some (.int .i64 k)∧l.all Yvf=(l.drop k).all Yvf) l.length ?_ ?_ ?_
  ·exact⟨rfl,0,by omega,by simp,by simp⟩
  ·rintro m r _ hr hf ⟨rfl,k,hk,hx,hz⟩
   rw[Zai]
   cases m with
   |zero=>
    obtain rfl:k=l.length:=by omega
    rw[Ysx,List.all_nil]at hz
    simp(disch:=first|(simp;done)|omega|rfl) [-getElem?_pos,A.lb8_0,hr,hf,hx,lg,hz]
   |succ m=>
    have hlt:k<l.length:=by omega
    have hk1:(k:Int)<(l.length:Int):=by omega
    obtain⟨s,hc⟩:=Zan hlt
    obtain⟨i,o,cc,e,rw,q1,q2,q3,q4⟩:=hs.at (Zt2 hc)
    rw[Za2 hc,List.all_cons]at hz
    by_cases c4:Yvf s=true
    ·rw[c4,Bool.true_and]at hz
     have c6:¬40<(s.length:Int):=by simp[Yvf]at c4;omega
     simp(disch:=first|(simp;done)|omega|rfl) [-getElem?_pos,A.lb8_0,hr,hf,hx,lg,hk1,hlt,q1,q2,q3,q4,c6]
     exact⟨m,by omega,k+1,by omega,by simp,hz⟩
    ·have c5:Yvf s=false:=by simpa using c4
     rw[c5,Yye]at hz
     have c6:40<(s.length:Int):=by simp[Yvf]at c5;omega
     simp(disch:=first|(simp;done)|omega|rfl) [-getElem?_pos,A.lb8_0,hr,hf,hx,lg,hk1,hlt,q1,q2,q3,q4,c6,hz]
  ·rintro e r _ hr ⟨rfl,⟨rfl,hq⟩|⟨rfl,hq,h2⟩⟩
   ·simp(disch:=first|(simp;done)|omega|rfl) [-getElem?_pos,hr,hq,Ret]
   ·simp(disch:=first|(simp;done)|omega|rfl) [-getElem?_pos,hr,hq,h2,Ret]
 ·have e1:Yub n lim l=false:=by simp[Yub,c1]
  simp(disch:=first|(simp;done)|omega|rfl) [-getElem?_pos,A.b8,lg,hL,c1,e1]
def Yu3(l:List Str):Int:=Zau (l.map fun s=>((chkNum s:Nat):Int))
def Yu8{l:List Str}(h:Yu3 l=0):∀s∈l,chkNum s=0:=by
 induction l with
 |nil=>intro s hs;simp at hs
 |cons a l ih=>
  unfold Yu3 at h ih
  rw[Yrj,Zau]at h
  by_cases c:((chkNum a:Nat):Int)=0
  ·rw[Yqi c]at h
   intro s hs
   rcases Yrd.1 hs with rfl|hs
   ·omega
   ·exact ih h s hs
  ·rw[Yqe c]at h;omega
def Yur(hs:Sl h N v (strs l))(hl:l.length<100000)(hf0:∀s∈l,s.length≤100000):Fn A.C 110 [v] h N (fun u _ _=>u=.int .i64 (Yu3 l)):=by
 intro w
 have hlen:=hs.len
 rw[Zt1]at hlen
 unfold Yu3
 rw[Zab,A.k110 (by simp)]
 simp(disch:=first|(simp;done)|omega|rfl) [-getElem?_pos,A.b110,hlen]
 refine Zaj [(2,2),(4,5),(8,17)] (fun e r st=>Zac N st.w=[]∧Keeps h N st.h st.n∧((e=.exit 0∧Zau (l.map (fun s=>((chkNum s:Nat):Int)))=0)∨(e=.ret∧r.get 2=some (.int .i64 (Zau (l.map (fun s=>((chkNum s:Nat):Int)))))))) (fun m r st=>Zac N st.w=[]∧Keeps h N st.h st.n∧∃k,k+m=l.length∧r.get 8=some (.int .i64 k)∧Zau (l.map (fun s=>((chkNum s:Nat):Int)))=Zau ((l.drop k).map (fun s=>((chkNum s:Nat):Int)))) l.length ?_ ?_ ?_
 ·exact⟨by simp,Keeps.refl,0,by omega,by simp,by simp⟩
 ·rintro m r ⟨H,n1,W⟩ hr hf2 ⟨hW,hK,k,hk,h7,hz⟩
  simp only at hW hK
  rw[Zai]
  cases m with
  |zero=>
   obtain rfl:k=l.length:=by omega
   rw[Ysx,Yta,Zau]at hz
   simp(disch:=first|(simp;done)|omega|rfl) [-getElem?_pos,A.lb110_0,hr,hf2,h7,hz,hW,hK]
  |succ m=>
   have hlt:k<l.length:=by omega
   obtain⟨s,hc⟩:=Zan hlt
   obtain⟨i,o,cc,e,rw,q1,q2,q3,q4⟩:=(hs.keep hK).at (Zt2 hc)
   rw[Za2 hc,Yrj,Zau]at hz
   have hk1:(k:Int)<(l.length:Int):=by omega
   simp(disch:=first|(simp;done)|omega|rfl) [-getElem?_pos,A.lb110_0,hr,hf2,h7,hk1,hlt,hlen,q1,q2,q3,q4]
   refine Zaa (Yfn (hf0 s (Yqn hc))) ?_
   rintro _ h3 n3 k3 rfl
   have kk:=hK.trans k3
   by_cases h0:chkNum s=0
   ·rw[Yqi (by omega)]at hz
    simp(disch:=first|(simp;done)|omega|rfl) [-getElem?_pos,hr,hf2,h7,h0,hW,Zak]
    exact⟨m,by omega,kk,k+1,by omega,by simp,by simpa using hz⟩
   ·rw[Yqe (by omega)]at hz
    simp(disch:=first|(simp;done)|omega|rfl) [-getElem?_pos,hr,hf2,h7,h0,hW,Zak,hz]
    exact kk
 ·rintro _ r ⟨H,n1,W⟩ hr ⟨hW,hK,⟨rfl,hz⟩|⟨rfl,h2⟩⟩
  ·simp only at hW hK
   simp(disch:=first|(simp;done)|omega|rfl) [-getElem?_pos,hr,hz,Ret,hW,hK]
  ·simp only at hW hK
   simp(disch:=first|(simp;done)|omega|rfl) [-getElem?_pos,hr,h2,Ret,hW,hK]
def Yud(hs:Sl h N v (strs l))(hl:l.length<100000):Fn A.C 12 [v] h N (fun u h' n'=>Sl h' n' u (strs l)):=by
 intro w
 rw[Zab,A.k12 (by simp)]
 have k0:Keeps h N (h.set N (.cells [] 30 true)) (N+1):=Keeps.refl.new _
 have s1:Sn 1 (h.set N (.cells [] 30 true)) (N+1) v ((strs l).map fun x=>[x]):=Sn.one.2 (hs.keep k0)
 obtain⟨y,h',N',ap,kk,cw⟩:=Yvr (z:=1) (bytes:=16) (e:=30) (N0:=N) (i:=N) (w:=[]) (by decide) s1 (by simp) (by omega) (Yqg _) (by rw[T.get_set,Yqi rfl]) (by simp[strs];omega)
 simp(disch:=first|(simp;done)|omega|rfl) [-getElem?_pos,A.b12,ap,Ret]
 exact⟨k0.trans kk,Sn.one.1 cw.sn⟩
def Yuu{c:List V}(h:c.length=4):slc c 0 4=some c:=by unfold slc;rw[h];simp;exact Yqp (by omega)
def Yuq{c d:List V}(h:c.length=4)(hd:d.length=4):splice d 0 c=c:=by unfold splice;rw[h];simp[h,hd]
variable {l:List Str}
def Ywv(l:List Str):List Rat:=l.map ratS
def Yuc(h:Yu3 l=0):strs l=tx (Ywv l):=by
 unfold tx Ywv
 congr 1
 rw[List.map_map]
 conv=>lhs;rw[←List.map_id l]
 apply List.map_congr_left
 intro s hs
 exact((Zco (Yu8 h s hs)).1).symm
def Yt9{n:Nat}(h:Yu3 l=0)(hl:∀s∈l,s.length≤n):∀q∈Ywv l,Qb (4*n+4) q:=fun q hq=>by
 obtain⟨s,hs,rfl⟩:=Yts.1 hq
 exact Ze6 (Yu8 h s hs) (hl s hs)
def Yt6:(Ywv l).length=l.length:=by simp[Ywv]
def Ywc(h:T O)(N:Nat)(x:V)(bad:Int)(l:List Rat):Prop:=(bad≠0∧x=.tup [.nilslice,.int .i64 bad])∨(bad=0∧((Zcy l=true∧x=.tup [.nilslice,.int .i64 4])∨(Zcy l=false∧∃v,x=.tup [v,.int .i64 0]∧TxT h N v l)))
open Go
def Ywe(x:V)(bad:Int)(q:Rat):Prop:=(bad≠0∧x=.tup [.str [],.int .i64 bad])∨(bad=0∧x=if Zrn q=true then .tup [.str [],.int .i64 4] else .tup [.str (Zaq q),.int .i64 0])
variable {bad:Int}
def Yt8{h0 h:T O}{n0 N:Nat}{m v:V}{e:V}{l:List Rat}{w:List Nat}(hx:Ywc h0 n0 (.tup [m,e]) bad l)(kk:Keeps h0 n0 h N)(hv:bad=0→Tx h N v l)(hl:l.length<100000)(hq:bad=0→∀q∈l,(Zaq q).length<1000000000):A.C.call (.func 29 [] []) [m,e,.int .i64 bad,v] ⟨h,N,w⟩=some (.bool true,⟨h,N,w⟩):=by
 rcases hx with⟨c,hx⟩|⟨c,⟨hb,hx⟩|⟨hb,y,hx,hy⟩⟩
 ·simp only[V.tup.injEq,Yqu,and_true]at hx
  obtain⟨rfl,rfl⟩:=hx
  exact Yh0 c
 ·simp only[V.tup.injEq,Yqu,and_true]at hx
  obtain⟨rfl,rfl⟩:=hx
  subst c
  exact Yhz (hv rfl) hl (hq rfl) hb
 ·simp only[V.tup.injEq,Yqu,and_true]at hx
  obtain⟨rfl,rfl⟩:=hx
  subst c
  exact Ydv (hy.keep kk).1 (hv rfl) hl (hq rfl) hb
def Yuh{m e:V}{q:Rat}{s:Str}{st:St}(hx:Ywe (.tup [m,e]) bad q)(hs:bad=0→s=Zaq q)(hq:bad=0→(Zaq q).length<1000000000):A.C.call (.func 23 [] []) [m,e,.int .i64 bad,.str s] st=some (.bool true,st):=by
 rcases hx with⟨c,hx⟩|⟨c,hx⟩
 ·simp only[V.tup.injEq,Yqu,and_true]at hx
  obtain⟨rfl,rfl⟩:=hx
  exact Zzz c
 ·subst c
  rw[hs rfl]
  by_cases cb:Zrn q=true
  ·rw[Yqi cb]at hx
   simp only[V.tup.injEq,Yqu,and_true]at hx
   obtain⟨rfl,rfl⟩:=hx
   exact Yii (hq rfl) cb
  ·rw[Yqe cb]at hx
   simp only[V.tup.injEq,Yqu,and_true]at hx
   obtain⟨rfl,rfl⟩:=hx
   exact Yd9 (hq rfl) (by simpa using cb)
def Ywc.two{h:T O}{N:Nat}{x:V}{l:List Rat}(s:Ywc h N x bad l):∃a b,x=.tup [a,b]:=by
 rcases s with⟨_,h⟩|⟨_,⟨_,h⟩|⟨_,y,h,_⟩⟩<;>exact⟨_,_,h⟩
def Ywe.two{x:V}{q:Rat}(s:Ywe x bad q):∃a b,x=.tup [a,b]:=by
 rcases s with⟨_,h⟩|⟨_,h⟩
 ·exact⟨_,_,h⟩
 ·split at h<;>exact⟨_,_,h⟩
variable {D k:Nat} {r:Rat}
def Ywj(es:List Rat)(D k:Nat):Rat:=if D≤k then pg es (k-D) else 0
def Ywh(g l p:Rat)(D:Nat)(d:List Rat):Nat→List Rat×List Rat×Rat
 |0=>([],[],0)
 |k+1=>
  let s:=Ywh g l p D d k
  let e:=s.1++[pg d k-s.2.2]
  (e,s.2.1++[s.2.2],l*s.2.2+(g*Ywj e D k+p*(Ywj e D k-Ywj e (D+1) k)))
def Ywo(g l p:Rat)(D:Nat)(d:List Rat):List Rat:=(Ywh g l p D d d.length).1
def Yw5(g l p:Rat)(D:Nat)(d:List Rat):List Rat:=(Ywh g l p D d d.length).2.1
def Ywi{g l p:Rat}{D:Nat}{d:List Rat}:∀{k:Nat},(Ywh g l p D d k).1.length=k∧(Ywh g l p D d k).2.1.length=k
 |0=>⟨rfl,rfl⟩
 |k+1=>by
  have ih:=@Ywi g l p D d k
  simp[Ywh,ih.1,ih.2]
def Db(D B:Nat)(q:Rat):Prop:=∃z:Int,q*(D:Rat)=(z:Rat)∧z.natAbs≤B
def Db.zero{B:Nat}:Db D B 0:=⟨0,by simp[Rat.zero_mul],by simp⟩
def Db.mono{B C:Nat}{q:Rat}(h:Db D B q)(hc:B≤C):Db D C q:=by
 obtain⟨z,h1,h2⟩:=h
 exact⟨z,h1,by omega⟩
def Db.add{B C:Nat}{q:Rat}(h:Db D B q)(k:Db D C r):Db D (B+C) (q+r):=by
 obtain⟨z,h1,h2⟩:=h
 obtain⟨y,k1,k2⟩:=k
 exact⟨z+y,by rw[Rat.add_mul,h1,k1,Rat.intCast_add],by omega⟩
def Db.sub{B C:Nat}{q:Rat}(h:Db D B q)(k:Db D C r):Db D (B+C) (q-r):=by
 obtain⟨z,h1,h2⟩:=h
 obtain⟨y,k1,k2⟩:=k
 exact⟨z-y,by rw[Rat.sub_eq_add_neg,Rat.add_mul,Rat.neg_mul,h1,k1,Rat.intCast_sub,Rat.sub_eq_add_neg],by omega⟩
def Db.mul{E B C:Nat}{q:Rat}(h:Db D B q)(k:Db E C r):Db (D*E) (B*C) (q*r):=by
 obtain⟨z,h1,h2⟩:=h
 obtain⟨y,k1,k2⟩:=k
 refine⟨z*y,?_,by rw[Yse];exact Yr1 h2 k2⟩
 rw[Rat.intCast_mul,←h1,←k1,Rat.natCast_mul]
 grind
def Db.up{E B:Nat}{q:Rat}(h:Db D B q):Db (E*D) (E*B) q:=by
 obtain⟨z,h1,h2⟩:=h
 refine⟨(E:Int)*z,?_,by rw[Yse];exact Yr1 (by simp) h2⟩
 rw[Rat.intCast_mul,←h1,Rat.natCast_mul]
 have:((E:Int):Rat)=(E:Rat):=rfl
 rw[this]
 grind
def Db.qb{B:Nat}{q:Rat}(h:Db D B q)(h0:0<D)(hd:D<2^k)(hb:B<2^k):Qb k q:=by
 obtain⟨z,h1,h2⟩:=h
 have hD:(D:Rat)≠0:=by
  intro hc
  have:((D:Nat):Rat)=((0:Nat):Rat):=hc
  rw[Rat.natCast_inj]at this
  omega
 have hq:q=Rat.divInt z (D:Int):=by
  rw[Rat.divInt_eq_div,←h1]
  have:(((D:Nat):Int):Rat)=(D:Rat):=rfl
  rw[this]
  grind
 rw[hq]
 exact Zg6 (by omega) (by omega) (by simpa using hd)
def Db.own{q:Rat}(h:Qb k q):Db q.den (2^k) q:=⟨q.num,by
 have h1:=Ysn q
 rw[Rat.divInt_eq_div]at h1
 have h2:(((q.den:Nat):Int):Rat)=(q.den:Rat):=rfl
 rw[h2]at h1
 have hD:(q.den:Rat)≠0:=by
  intro hc
  have:((q.den:Nat):Rat)=((0:Nat):Rat):=hc
  rw[Rat.natCast_inj]at this
  have:=q.den_pos
  omega
 grind,by have:=h.1;omega⟩
def Yxq:List Rat→Nat
 |[]=>1
 |q::l=>q.den*Yxq l
def Yw8:∀{l:List Rat},0<Yxq l
 |[]=>by simp[Yxq]
 |q::l=>Ytc q.den_pos Yw8
def Yw3{k:Nat}:∀{l:List Rat},(∀q∈l,Qb k q)→Yxq l≤2^(k*l.length)
 |[],_=>by simp[Yxq]
 |q::l,h=>by
  have ih:=Yw3 (l:=l) fun x hx=>h x (Yq6 _ hx)
  have hq:=(h q Yq8).2
  have:2^(k*(q::l).length)=2^k*2^(k*l.length):=by
   rw[←Yre,Yqd,Ysa,Ys0,Nat.add_comm]
  rw[this]
  exact Yr1 (by omega) ih
def Yxm{k:Nat}:∀{l:List Rat},(∀q∈l,Qb k q)→∀q∈l,Db (Yxq l) (2^(k*(l.length+1))) q
 |[],_,q,hq=>by simp at hq
 |x::l,h,q,hq=>by
  have hl:=Yw3 (l:=l) fun x hx=>h x (Yq6 _ hx)
  have hx:=(h x Yq8)
  have e:2^(k*((x::l).length+1))=2^k*2^(k*(l.length+1)):=by
   rw[←Yre,Yqd];congr 1;rw[Ysa k (l.length+1) 1];omega
  rw[e]
  rcases Yrd.1 hq with rfl|hq
  ·have h1:=(Db.own hx).up (E:=Yxq l)
   rw[Yq5]at h1
   refine h1.mono ?_
   have e2:2^(k*(l.length+1))=2^(k*l.length)*2^k:=by rw[←Yre,Ysa,Ys0]
   have h3:Yxq l*2^k≤2^(k*l.length)*2^k:=Yqz _ hl
   rw[e2]
   have h4:1≤2^k:=Nat.one_le_two_pow
   have h5:=Yr1 h4 (Yqg (2^(k*l.length)*2^k))
   omega
  ·have h1:=(Yxm (fun x hx=>h x (Yq6 _ hx)) q hq).up (E:=x.den)
   exact h1.mono (Yqz _ (by have:=hx.2;omega))
def Ywm(X B:Nat):Nat→Nat
 |0=>B
 |k+1=>8*X*Ywm X B k
def Db.raise{A D X B:Nat}{q:Rat}(hA:A≤X)(hX:1≤X):∀{j k:Nat},j≤k→Db (A^j*D) (2*Ywm X B j) q→Db (A^k*D) (2*Ywm X B k) q
 |j,0,h,hq=>by
  obtain rfl:j=0:=by omega
  exact hq
 |j,k+1,h,hq=>by
  by_cases e:j=k+1
  ·subst e;exact hq
  ·have ih:=(Db.raise hA hX (j:=j) (k:=k) (by omega) hq).up (E:=A)
   rw[←Ytf,←Nat.pow_succ']at ih
   refine ih.mono ?_
   rw[Ywm]
   have h1:A*(2*Ywm X B k)≤X*(2*Ywm X B k):=Yqz _ hA
   have h2:X*(2*Ywm X B k)=2*(X*Ywm X B k):=by rw[Nat.mul_left_comm]
   have h3:8*X*Ywm X B k=8*(X*Ywm X B k):=Ytf _ _ _
   omega
def Yxe{g l p:Rat}{D A Δ X B:Nat}{d:List Rat}(hX:1≤X)(hA:A≤X)(hg:Db A X g)(hl:Db A X l)(hp:Db A X p)(hd:∀q∈d,Db Δ B q):∀{k:Nat},k≤d.length→Db (A^k*Δ) (Ywm X B k) (Ywh g l p D d k).2.2∧∀(j:Nat) (q:Rat),(Ywh g l p D d k).1[j]?=some q→Db (A^j*Δ) (2*Ywm X B j) q
 |0,_=>⟨Db.zero,fun j q h=>by simp[Ywh]at h⟩
 |k+1,hk=>by
  obtain⟨ih1,ih2⟩:=Yxe (D:=D) hX hA hg hl hp hd (k:=k) (by omega)
  have le:=(@Ywi g l p D d k).1
  have hdk:Db (A^k*Δ) (A^k*B) (pg d k):=(hd _ (Yqn (Zce (p:=d) (i:=k) (by omega)))).up
  have hAk:A^k*B≤Ywm X B k:=by
   clear hdk ih1 ih2 le hk
   induction k with
   |zero=>simp[Ywm]
   |succ k ih=>
    rw[Ywm,Yqx,Nat.mul_right_comm,Yq5]
    have h1:A*(A^k*B)≤X*Ywm X B k:=Yr1 hA ih
    have h3:8*X*Ywm X B k=8*(X*Ywm X B k):=Ytf _ _ _
    omega
  have hek:Db (A^k*Δ) (2*Ywm X B k) (pg d k-(Ywh g l p D d k).2.2):=(hdk.sub ih1).mono (by omega)
  have hE:∀(j:Nat) (q:Rat),((Ywh g l p D d k).1++[pg d k-(Ywh g l p D d k).2.2])[j]?=some q→Db (A^j*Δ) (2*Ywm X B j) q:=fun j q hq=>by
   by_cases hj:j<k
   ·rw[Yrp (by omega)]at hq
    exact ih2 j q hq
   ·have hj2:j=k:=by have:=Zct hq;simp at this;omega
    subst hj2
    rw[Ytd (by omega),le]at hq
    simp at hq
    rw[←hq];exact hek
  have hlate:∀D',Db (A^k*Δ) (2*Ywm X B k) (Ywj ((Ywh g l p D d k).1++[pg d k-(Ywh g l p D d k).2.2]) D' k):=fun D'=>by
   unfold Ywj
   split
   ·exact Db.raise hA hX (j:=k-D') (by omega) (hE _ _ (Zce (by simp[le];omega)))
   ·exact Db.zero
  refine⟨?_,fun j q hq=>by
   have:(Ywh g l p D d (k+1)).1=(Ywh g l p D d k).1++[pg d k-(Ywh g l p D d k).2.2]:=rfl
   rw[this]at hq
   exact hE j q hq⟩
  have h1:=((hl.mul ih1).add ((hg.mul (hlate D)).add (hp.mul ((hlate D).sub (hlate (D+1))))))
  rw[←Ytf,←Nat.pow_succ']at h1
  refine h1.mono ?_
  rw[Ywm]
  have h3:8*X*Ywm X B k=8*(X*Ywm X B k):=Ytf _ _ _
  have h4:X*(2*Ywm X B k)=2*(X*Ywm X B k):=by rw[Nat.mul_left_comm]
  have h5:X*(2*Ywm X B k+2*Ywm X B k)=4*(X*Ywm X B k):=by rw[Ysa,h4];omega
  omega
def A.b170:=A.q Tryz.f170
def A.k170:=@A.kk 170 11 [.cell 3 (some 4)] A.b170 (by kernel_rfl) rfl
def Yxf{a b:Nat}:∀{k:Nat},Ywm (2^a) (2^b) k=2^((a+3)*k+b)
 |0=>by simp[Ywm]
 |k+1=>by
  rw[Ywm,Yxf (k:=k)]
  have h8:(8:Nat)=2^3:=rfl
  rw[h8,←Yre,←Yre]
  congr 1
  rw[Ysa (a+3) k 1];omega
def Ywn{g l p:Rat}{D kc kd:Nat}{d:List Rat}(hg:Qb kc g)(hl:Qb kc l)(hp:Qb kc p)(hd:∀q∈d,Qb kd q){k:Nat}(hk:k≤d.length):Qb ((3*kc+3)*d.length+kd*(d.length+1)+2) (Ywh g l p D d k).2.2∧∀q∈(Ywh g l p D d k).1,Qb ((3*kc+3)*d.length+kd*(d.length+1)+2) q:=by
 obtain⟨A,hA⟩:∃A,A=l.den*(p.den*g.den):=⟨_,rfl⟩
 have A0:0<A:=by rw[hA];exact Ytc l.den_pos (Ytc p.den_pos g.den_pos)
 have e3:2^(3*kc)=2^kc*(2^kc*2^kc):=by rw[←Yre,←Yre];congr 1;omega
 have le1:=Nat.le_of_lt hl.2
 have le2:=Nat.le_of_lt hp.2
 have le3:=Nat.le_of_lt hg.2
 have Ale:A≤2^(3*kc):=by rw[hA,e3];exact Yr1 le1 (Yr1 le2 le3)
 have dg:Db A (2^(3*kc)) g:=by
  have:=((Db.own hg).up (E:=p.den)).up (E:=l.den)
  rw[hA,e3]
  exact this.mono (Yr1 le1 (Yr1 le2 (Yqg _)))
 have dp:Db A (2^(3*kc)) p:=by
  have:=((Db.own hp).up (E:=g.den)).up (E:=l.den)
  rw[hA,e3,Yq5 p.den]
  exact this.mono (Yr1 le1 (Yr1 le3 (Yqg _)))
 have dl:Db A (2^(3*kc)) l:=by
  have:=((Db.own hl).up (E:=g.den)).up (E:=p.den)
  have e:l.den*(p.den*g.den)=p.den*(g.den*l.den):=by rw[Nat.mul_left_comm,Yq5 l.den]
  rw[hA,e3,e]
  exact this.mono (Yr1 le2 (Yr1 le3 (Yqg _)))
 have X1:1≤2^(3*kc):=Nat.one_le_two_pow
 obtain⟨r1,r2⟩:=Yxe (D:=D) X1 Ale dg dl dp (Yxm hd) hk
 have hD:∀j,j≤d.length→A^j*Yxq d<2^((3*kc+3)*d.length+kd*(d.length+1)+2):=fun j hj=>by
  have h1:A^j≤(2^(3*kc))^j:=Ys9 Ale j
  have h2:=Yr1 h1 (Yw3 hd)
  rw[←Nat.pow_mul,←Yre]at h2
  refine Yra h2 (Nat.pow_lt_pow_right (by decide) ?_)
  have h3:3*kc*j≤3*kc*d.length:=Yqs _ hj
  have h4:(3*kc+3)*d.length=3*kc*d.length+3*d.length:=Yrf _ _ _
  have h5:kd*(d.length+1)=kd*d.length+kd:=by rw[Ysa,Ys0]
  omega
 have hB:∀j,j≤d.length→2*Ywm (2^(3*kc)) (2^(kd*(d.length+1))) j<2^((3*kc+3)*d.length+kd*(d.length+1)+2):=fun j hj=>by
  rw[Yxf]
  have e:2*2^((3*kc+3)*j+kd*(d.length+1))=2^((3*kc+3)*j+kd*(d.length+1)+1):=by rw[Yqx,Yq5]
  rw[e]
  refine Nat.pow_lt_pow_right (by decide) ?_
  have h3:(3*kc+3)*j≤(3*kc+3)*d.length:=Yqs _ hj
  omega
 have pos:∀j,0<A^j*Yxq d:=fun j=>Ytc (Ys1 A0) Yw8
 refine⟨r1.qb (pos k) (hD k hk) (by have:=hB k hk;omega),fun q hq=>?_⟩
 obtain⟨j,hj⟩:=Ytr hq
 have hjk:=Zct hj
 rw[Ywi.1]at hjk
 exact(r2 j q hj).qb (pos j) (hD j (by omega)) (hB j (by omega))
def Yw6{h:T O}{N E:Nat}{ve:V}{es:List Rat}{D k:Nat}{z:Int}(hE:h.get E=some (.cells [ve] 93 true))(hEN:E<N)(he:FrS h N ve es)(hz:z=(k:Int)-(D:Int))(hl:es.length=k+1)(hk:k<1000):FnV A.C (.func 170 [] [.ptr E 0]) [.int .i64 z] h N (fun v h' n'=>Fc h' n' v (Ywj es D k)):=by
 intro w
 have hcc:∀c:List V,(V.agg c).cells=c:=fun _=>rfl
 have lv:=he.len
 have e0:zF=[V.int .i64 0,.nilslice,.int .i64 0,.nilslice]:=rfl
 rw[Zab,A.k170 (by simp)]
 unfold Ywj
 by_cases c:D≤k
 ·rw[Yqi c]
  have c1:¬z<0:=by omega
  have c2:z<((k+1:Nat):Int):=by omega
  have c3:z.toNat=k-D:=by omega
  have c4:0≤z:=by omega
  obtain⟨i,o,x,e,rw,cv,b1,b2,b3,b4,b5⟩:=he.at (Zce (p:=es) (i:=k-D) (by omega))
  obtain⟨f1,f2⟩:=b5.len
  have e4:=Yuq (d:=zF) f1 rfl
  have s4:=Yuu f1
  have hne:¬i=N:=by omega
  have hEn:¬E=N:=by omega
  rw[hl]at lv
  rw[e0]at e4
  simp(disch:=first|(simp;done)|omega|rfl) [-getElem?_pos, -V.cells, -V.one,A.b170,c1,c2,c3,c4,hE,hEN,lv,b1,b2,b3,b4,hcc,f1,f2,Zal,e4,s4,Zah,hne,hEn,Ret]
  exact⟨(Keeps.refl.new _).set (Yqg _),(b5.keep ((Keeps.refl.new _).set (Yqg _))).up⟩
 ·rw[Yqe c]
  have c1:z<0:=by omega
  simp(disch:=first|(simp;done)|omega|rfl) [-getElem?_pos, -V.cells, -V.one,A.b170,c1]
  refine Zaa (Ybl (z:=0) (by decide) (by decide)) ?_
  rintro _ h1 n1 k1 hz
  obtain⟨c0,rfl,hc0⟩:=hz.c
  obtain⟨f1,f2⟩:=hc0.len
  have e4:=Yuq (d:=zF) f1 rfl
  have s4:=Yuu f1
  rw[e0]at e4
  have gN:=(k1.get N (by omega)).trans (show (h.set N (.cells [V.int .i64 0,.nilslice,.int .i64 0,.nilslice] 102 true)).get N=_ by rw[T.get_set,Yqi rfl])
  have lN:=k1.le
  have lN2:N<n1:=by omega
  simp(disch:=first|(simp;done)|omega|rfl) [-getElem?_pos, -V.cells, -V.one,hcc,f1,f2,Zal,gN,lN2,e4,s4,Ret]
  exact⟨((Keeps.refl.new _).trans k1).set (by omega),(hc0.setNU gN (by intro x hx m;simp at hx;rcases hx with rfl|rfl|rfl|rfl<;>simp) (by simp[f1])).up⟩
end
end Go.Mx
