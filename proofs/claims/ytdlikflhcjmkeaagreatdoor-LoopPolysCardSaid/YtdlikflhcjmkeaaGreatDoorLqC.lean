/-loop-/
import Derived.Test.YtdlikflhcjmkeaaGreatDoorLpM
set_option linter.all false
set_option maxHeartbeats 4000000
namespace Go.Mx
noncomputable section
open Go Go.Proofs
variable {N z:Nat} {h:T O} {l:List Str} {v:V} {w:List Nat}
set_option maxRecDepth 1000000
def A.w8:=A.q Tryz.f8
def A.lb8_0:=A.ql A.w8 0 []
def A.b8:=(fun x0=>A.qb A.w8 [x0]) A.lb8_0
def A.k8:=@A.kk 8 26 [.tmp 6] A.b8 (by kernel_rfl) rfl
def A.b58:=A.q Tryz.f58
def A.k58:=@A.kk 58 21 [.tmp 6] A.b58 (by kernel_rfl) rfl
def A.b9:=A.q Tryz.f9
def A.k9:=@A.kk 9 22 [.tmp 2] A.b9 (by kernel_rfl) rfl
def A.b42:=A.q Tryz.f42
def A.k42:=@A.kk 42 27 [.tmp 2] A.b42 (by kernel_rfl) rfl
def A.w110:=A.q Tryz.f110
def A.lb110_0:=A.ql A.w110 0 []
def A.b110:=(fun x0=>A.qb A.w110 [x0]) A.lb110_0
def A.k110:=@A.kk 110 18 [.tmp 2] A.b110 (by kernel_rfl) rfl
def A.b12:=A.q Tryz.f12
theorem A.c12:A.F 12=some ⟨6,[.tmp 2],A.b12⟩:=by kernel_rfl
def A.k12:=@A.kk 12 _ _ _ A.c12 rfl
theorem Yu4{z:Nat}:∀{l:List (List V)} {c:List V} {o:Nat},(∀j x,l[j]?=some x→slc c (o+j*z) z=some x)→o+l.length*z≤c.length→slc c o (l.length*z)=some l.flatten
 |[],c,o,_,h=>by simp[slc]at h ⊢;omega
 |x::l,c,o,h,hl=>by
  obtain⟨h1,h2⟩:=Zt6 (h 0 x rfl)
  simp only[Yqd,Yrf,Nat.one_mul,Nat.zero_mul,Ysh]at hl h1 h2 ⊢
  obtain⟨h3,h4⟩:=Zt6 (Yu4 (l:=l) (c:=c) (o:=o+z) (fun j y hj=>by
   have:=h (j+1) y (by simpa using hj)
   rw[show o+z+j*z=o+(j+1)*z by rw[Yrf];omega];exact this) (by omega))
  unfold slc
  rw[Yqi (by omega),List.flatten_cons,h4,h2]
  congr 1
  rw[Nat.add_comm (l.length*z) z,List.take_add,←List.drop_drop]
theorem Yve{l:List (List V)}(s:Sn z h N v l):Zbc ⟨h,N,w⟩ z v=some (l.length,l.flatten):=by
 rcases s with⟨rfl,rfl|rfl⟩|⟨i,o,cp,c,e,rw,rfl,h2,h3,h4,h5,h6⟩
 ·rfl
 ·rfl
 ·simp only[Zbc,if_true,St.row,h3,Yu4 h4 h5]
def Cw(z:Nat)(e:TypeId)(N0:Nat)(h:T O)(N:Nat)(y:V)(l:List (List V)):Prop:=
 (∀x∈l,x.length=z)∧((l=[]∧∃i,y=.slice i 0 0 (some 0) z∧N0≤i∧i<N∧h.get i=some (.cells [] e true))∨∃i,y=.slice i 0 l.length none z∧N0≤i∧i<N∧h.get i=some (.cells l.flatten e true))
theorem Yvr{bytes:Nat}{e:TypeId}{N0:Nat}{i:Nat}{l:List (List V)}(hz:0<z)(hs:Sn z h N v l)(hlz:∀x∈l,x.length=z)(hi:i<N)(h0:N0≤i)(hg:h.get i=some (.cells [] e true))(hb:(2*l.length+1000)*bytes≤281474976710656):
  ∃y h' N',Zc7 ⟨h,N,w⟩ z bytes e (.slice i 0 0 (some 0) z) v=some (y,⟨h',N',w⟩)∧Keeps h N h' N'∧Cw z e N0 h' N' y l:=by
 by_cases hl:l.length=0
 ·have:l=[]:=Yqw hl
  subst this
  exact⟨_,h,N,by simp[Zc7,Yve hs],Keeps.refl,by simp,.inl ⟨rfl,i,rfl,h0,hi,hg⟩⟩
 ·refine⟨.slice N 0 l.length none z,h.set N (.cells l.flatten e true),N+1,?_,Keeps.refl.new _,hlz,.inr ⟨N,rfl,by omega,by omega,by rw[T.get_set,Yqi rfl]⟩⟩
  have hne:l≠[]:=fun hc=>hl (by rw[hc];rfl)
  simp only[Zc7,Yve hs,Zd5,St.row,hg,slc,St.alloc]
  simp[hne]
  have:=Yqz bytes (show 2*l.length≤2*l.length+1000 by omega)
  omega
theorem Cw.sn{e:TypeId}{N0:Nat}{y:V}{l:List (List V)}(s:Cw z e N0 h N y l):Sn z h N y l:=by
 obtain⟨hl,⟨h0,i,h1,h2,h3,h4⟩|⟨i,h1,h2,h3,h4⟩⟩:=s
 ·subst h0
  exact .inr ⟨i,0,some 0,[],e,true,h1,h3,h4,fun j x hj=>by simp at hj,by simp,fun k hk=>by simp⟩
 ·exact .inr ⟨i,0,none,l.flatten,e,true,h1,h3,h4,fun j x hj=>by rw[Yst];exact Zf9 hl hj,by rw[Zb6 hl];omega,fun k hk=>by cases hk⟩
def Yvf(s:Str):Bool:=decide (s.length≤40)
def Yvw(k n lim:Nat):Bool:=decide (k≤n∨lim<k∧k≤lim+2)
def Yub(n lim:Nat)(l:List Str):Bool:=Yvw l.length n lim&&l.all Yvf
theorem Yva{k n lim:Nat}{st:St}(h1:lim<1000):A.C.call (.func 58 [] []) [.int .i64 k,.int .i64 n,.int .i64 lim] st=some (.bool (Yvw k n lim),st):=by
 apply Call.eq
 rw[Zab,A.k58 (by simp)]
 by_cases c1:k≤n
 ·have a1:(k:Int)≤n:=by omega
  simp(disch:=first|(simp;done)|omega|rfl) [-getElem?_pos,A.b58,a1,c1,Yvw]
 ·have a1:¬(k:Int)≤n:=by omega
  by_cases c2:lim<k
  ·have a2:(lim:Int)<k:=by omega
   by_cases c3:k≤lim+2
   ·have a3:(k:Int)≤(lim:Int)+2:=by omega
    simp(disch:=first|(simp;done)|omega|rfl) [-getElem?_pos,A.b58,a1,c1,a2,c2,a3,c3,Yvw]
   ·have a3:¬(k:Int)≤(lim:Int)+2:=by omega
    simp(disch:=first|(simp;done)|omega|rfl) [-getElem?_pos,A.b58,a1,c1,a2,c2,a3,c3,Yvw]
  ·have a2:¬(lim:Int)<k:=by omega
   simp(disch:=first|(simp;done)|omega|rfl) [-getElem?_pos,A.b58,a1,c1,a2,c2,Yvw]
theorem Yuo{n lim:Nat}(hs:Sl h N v (strs l))(hl:l.length<9223372036854775808)(h1:lim<1000):A.C.call (.func 8 [] []) [v,.int .i64 n,.int .i64 lim] ⟨h,N,w⟩=some (.bool (Yub n lim l),⟨h,N,w⟩):=by
 apply Call.eq
 have lg:=hs.len
 rw[Zt1]at lg
 have hL:=fun st=>Yva (k:=l.length) (n:=n) (st:=st) h1
 rw[Zab,A.k8 (by simp)]
 by_cases c1:Yvw l.length n lim=true
 ·have e1:Yub n lim l=l.all Yvf:=by simp[Yub,c1]
  rw[e1]
  simp(disch:=first|(simp;done)|omega|rfl) [-getElem?_pos,A.b8,lg,hL,c1]
  refine Zaj [(6,7),(14,25)] (fun e r st=>st=⟨h,N,[]⟩∧((e=.exit 0∧l.all Yvf=true)∨(e=.ret∧l.all Yvf=false∧r.get 6=some (.bool false)))) (fun m r st=>st=⟨h,N,[]⟩∧∃k,k+m=l.length∧r.get 7=some (.int .i64 k)∧l.all Yvf=(l.drop k).all Yvf) l.length ?_ ?_ ?_
  ·exact⟨rfl,0,by omega,by simp,by simp⟩
  ·rintro m r _ hr hf ⟨rfl,k,hk,hx,hz⟩
   rw[Zai]
   cases m with
   |zero=>
    obtain rfl:k=l.length:=by omega
    rw[Ysx,List.all_nil]at hz
    simp(disch:=first|(simp;done)|omega|rfl) [-getElem?_pos,A.lb8_0,hr,hf,hx,lg,hz]
   |succ m=>
    have hlt:k<l.length:=by omega
    have hk1:(k:Int)<(l.length:Int):=by omega
    obtain⟨s,hc⟩:=Zan hlt
    obtain⟨i,o,cc,e,rw,q1,q2,q3,q4⟩:=hs.at (Zt2 hc)
    rw[Za2 hc,List.all_cons]at hz
    by_cases c4:Yvf s=true
    ·rw[c4,Bool.true_and]at hz
     have c6:¬40<(s.length:Int):=by simp[Yvf]at c4;omega
     simp(disch:=first|(simp;done)|omega|rfl) [-getElem?_pos,A.lb8_0,hr,hf,hx,lg,hk1,hlt,q1,q2,q3,q4,c6]
     exact⟨m,by omega,k+1,by omega,by simp,hz⟩
    ·have c5:Yvf s=false:=by simpa using c4
     rw[c5,Bool.false_and]at hz
     have c6:40<(s.length:Int):=by simp[Yvf]at c5;omega
     simp(disch:=first|(simp;done)|omega|rfl) [-getElem?_pos,A.lb8_0,hr,hf,hx,lg,hk1,hlt,q1,q2,q3,q4,c6,hz]
  ·rintro e r _ hr ⟨rfl,⟨rfl,hq⟩|⟨rfl,hq,h2⟩⟩
   ·simp(disch:=first|(simp;done)|omega|rfl) [-getElem?_pos,hr,hq,Ret]
   ·simp(disch:=first|(simp;done)|omega|rfl) [-getElem?_pos,hr,hq,h2,Ret]
 ·have e1:Yub n lim l=false:=by simp[Yub,c1]
  simp(disch:=first|(simp;done)|omega|rfl) [-getElem?_pos,A.b8,lg,hL,c1,e1]
def Yu3(l:List Str):Int:=Zau (l.map fun s=>((chkNum s:Nat):Int))
def Znj(l:List Str):Int:=if l.length=0 then 12 else if 13<l.length then 5 else if Yu3 l=0 then (if l[l.length-1]?=some [48] then 6 else 0) else Yu3 l
theorem Yu8{l:List Str}(h:Yu3 l=0):∀s∈l,chkNum s=0:=by
 induction l with
 |nil=>intro s hs;simp at hs
 |cons a l ih=>
  unfold Yu3 at h ih
  rw[Yrj,Zau]at h
  by_cases c:((chkNum a:Nat):Int)=0
  ·rw[Yqi c]at h
   intro s hs
   rcases Yrd.1 hs with rfl|hs
   ·omega
   ·exact ih h s hs
  ·rw[Yqe c]at h;omega
theorem Yur(hs:Sl h N v (strs l))(hl:l.length<100000)(hf0:∀s∈l,s.length≤100000):Fn A.C 110 [v] h N (fun u _ _=>u=.int .i64 (Yu3 l)):=by
 intro w
 have hlen:=hs.len
 rw[Zt1]at hlen
 unfold Yu3
 rw[Zab,A.k110 (by simp)]
 simp(disch:=first|(simp;done)|omega|rfl) [-getElem?_pos,A.b110,hlen]
 refine Zaj [(2,2),(4,5),(8,17)] (fun e r st=>Zac N st.w=[]∧Keeps h N st.h st.n∧((e=.exit 0∧Zau (l.map (fun s=>((chkNum s:Nat):Int)))=0)∨(e=.ret∧r.get 2=some (.int .i64 (Zau (l.map (fun s=>((chkNum s:Nat):Int)))))))) (fun m r st=>Zac N st.w=[]∧Keeps h N st.h st.n∧∃k,k+m=l.length∧r.get 8=some (.int .i64 k)∧Zau (l.map (fun s=>((chkNum s:Nat):Int)))=Zau ((l.drop k).map (fun s=>((chkNum s:Nat):Int)))) l.length ?_ ?_ ?_
 ·exact⟨by simp,Keeps.refl,0,by omega,by simp,by simp⟩
 ·rintro m r ⟨H,n1,W⟩ hr hf2 ⟨hW,hK,k,hk,h7,hz⟩
  simp only at hW hK
  rw[Zai]
  cases m with
  |zero=>
   obtain rfl:k=l.length:=by omega
   rw[Ysx,Yta,Zau]at hz
   simp(disch:=first|(simp;done)|omega|rfl) [-getElem?_pos,A.lb110_0,hr,hf2,h7,hz,hW,hK]
  |succ m=>
   have hlt:k<l.length:=by omega
   obtain⟨s,hc⟩:=Zan hlt
   obtain⟨i,o,cc,e,rw,q1,q2,q3,q4⟩:=(hs.keep hK).at (Zt2 hc)
   rw[Za2 hc,Yrj,Zau]at hz
   have hk1:(k:Int)<(l.length:Int):=by omega
   simp(disch:=first|(simp;done)|omega|rfl) [-getElem?_pos,A.lb110_0,hr,hf2,h7,hk1,hlt,hlen,q1,q2,q3,q4]
   refine Zaa (Yfn (hf0 s (Yqn hc))) ?_
   rintro _ h3 n3 k3 rfl
   have kk:=hK.trans k3
   by_cases h0:chkNum s=0
   ·rw[Yqi (by omega)]at hz
    simp(disch:=first|(simp;done)|omega|rfl) [-getElem?_pos,hr,hf2,h7,h0,hW,Zak]
    exact⟨m,by omega,kk,k+1,by omega,by simp,by simpa using hz⟩
   ·rw[Yqe (by omega)]at hz
    simp(disch:=first|(simp;done)|omega|rfl) [-getElem?_pos,hr,hf2,h7,h0,hW,Zak,hz]
    exact kk
 ·rintro _ r ⟨H,n1,W⟩ hr ⟨hW,hK,⟨rfl,hz⟩|⟨rfl,h2⟩⟩
  ·simp only at hW hK
   simp(disch:=first|(simp;done)|omega|rfl) [-getElem?_pos,hr,hz,Ret,hW,hK]
  ·simp only at hW hK
   simp(disch:=first|(simp;done)|omega|rfl) [-getElem?_pos,hr,h2,Ret,hW,hK]
theorem Yuy(hs:Sl h N v (strs l))(hl:l.length<100000)(hf0:∀s∈l,s.length≤100000):Fn A.C 42 [v] h N (fun u _ _=>u=.int .i64 (Znj l)):=by
 intro w
 have hlen:=hs.len
 rw[Zt1]at hlen
 rw[Zab,A.k42 (by simp)]
 by_cases c0:l.length=0
 ·have c0':(l.length:Int)=0:=by omega
  have c1':¬13<(l.length:Int):=by omega
  have e1:Znj l=12:=by simp[Znj,c0]
  simp(disch:=first|(simp;done)|omega|rfl) [-getElem?_pos,A.b42,hlen,c0',Zh6,Zak]
  refine Zaa (Yur hs hl hf0) ?_
  rintro _ h1 n1 k1 rfl
  have hi:n1<n1+1:=by omega
  simp(disch:=first|(simp;done)|omega|rfl) [-getElem?_pos,splice,Zam.chk,Zzn hi,Zau,Zak,Ret,e1]
  exact k1.trans (kset Keeps.refl _)
 have c0':¬(l.length:Int)=0:=by omega
 have ne:¬l=[]:=fun h=>c0 (by rw[h];rfl)
 by_cases c1:13<l.length
 ·have c1':13<(l.length:Int):=by omega
  have e1:Znj l=5:=by simp[Znj,c0,c1]
  simp(disch:=first|(simp;done)|omega|rfl) [-getElem?_pos,A.b42,hlen,c0',ne,c1',Zh6,Zak]
  refine Zaa (Yur hs hl hf0) ?_
  rintro _ h1 n1 k1 rfl
  have hi:n1<n1+1:=by omega
  simp(disch:=first|(simp;done)|omega|rfl) [-getElem?_pos,splice,Zam.chk,Zzn hi,Zau,Zak,Ret,e1]
  exact k1.trans (kset Keeps.refl _)
 have c1':¬13<(l.length:Int):=by omega
 simp(disch:=first|(simp;done)|omega|rfl) [-getElem?_pos,A.b42,hlen,c0',ne,c1',Zh6,Zak]
 refine Zaa (Yur hs hl hf0) ?_
 rintro _ h1 n1 k1 rfl
 have hi:n1<n1+1:=by omega
 have kD:Keeps h N (h1.set n1 (.cells [.int .i64 0,.int .i64 0,.int .i64 (Yu3 l)] 26 true)) (n1+1):=k1.trans (kset Keeps.refl _)
 obtain⟨s,hs'⟩:=Zan (l:=l) (k:=l.length-1) (by omega)
 obtain⟨i,o,cc,e,rw,q1,q2,q3,q4⟩:=(hs.keep kD).at (Zt2 hs')
 have d1:((l.length:Int)-1).toNat=l.length-1:=by omega
 have d2:(0:Int)≤(l.length:Int)-1:=by omega
 have d3:(l.length:Int)-1<(l.length:Int):=by omega
 by_cases ca:Yu3 l=0
 ·have e1:Znj l=if s=[48] then 6 else 0:=by simp[Znj,c0,c1,ca,hs']
  rw[ca]at kD q3
  by_cases cz:s=[48]
  ·rw[e1,Yqi cz]
   simp(disch:=first|(simp;done)|omega|rfl) [-getElem?_pos,splice,Zam.chk,Zzn hi,Zau,Zak,ca,ne,hlen,q1,q2,q3,q4,d1,d2,d3,cz,Zh6,Ret]
   exact kD
  ·rw[e1,Yqe cz]
   simp(disch:=first|(simp;done)|omega|rfl) [-getElem?_pos,splice,Zam.chk,Zzn hi,Zau,Zak,ca,ne,hlen,q1,q2,q3,q4,d1,d2,d3,cz,Zh6,Ret]
   exact kD
 ·have e1:Znj l=Yu3 l:=by simp[Znj,c0,c1,ca]
  rw[e1]
  simp(disch:=first|(simp;done)|omega|rfl) [-getElem?_pos,splice,Zam.chk,Zzn hi,Zau,Zak,ca,ne,Ret]
  exact kD
theorem Yvu(hs:Sl h N v (strs l))(hl:l.length<100000)(hf0:∀s∈l,s.length≤100000):Fn A.C 9 [v] h N (fun u _ _=>u=.int .i64 (Znj l)):=by
 intro w
 have hlen:=hs.len
 rw[Zt1]at hlen
 rw[Zab,A.k9 (by simp)]
 by_cases c0:l.length=0
 ·have c0':(l.length:Int)=0:=by omega
  have e1:Znj l=12:=by simp[Znj,c0]
  simp(disch:=first|(simp;done)|omega|rfl) [-getElem?_pos,A.b9,hlen,c0',Zak,Ret,e1]
  exact Keeps.refl
 have c0':¬(l.length:Int)=0:=by omega
 have ne:¬l=[]:=fun h=>c0 (by rw[h];rfl)
 by_cases c1:13<l.length
 ·have c1':13<(l.length:Int):=by omega
  have e1:Znj l=5:=by simp[Znj,c0,c1]
  simp(disch:=first|(simp;done)|omega|rfl) [-getElem?_pos,A.b9,hlen,c0',ne,c1',Zak,Ret,e1]
  exact Keeps.refl
 have c1':¬13<(l.length:Int):=by omega
 simp(disch:=first|(simp;done)|omega|rfl) [-getElem?_pos,A.b9,hlen,c0',ne,c1',Zak]
 refine Zaa (Yvq hs hl fun s h=>by have:=hf0 s h;omega) ?_
 rintro _ h1 n1 k1 rfl
 rw[show Zau (l.map fun s=>((chkNum s:Nat):Int))=Yu3 l from rfl]
 obtain⟨s,hs'⟩:=Zan (l:=l) (k:=l.length-1) (by omega)
 obtain⟨i,o,cc,e,rw,q1,q2,q3,q4⟩:=(hs.keep k1).at (Zt2 hs')
 have d1:((l.length:Int)-1).toNat=l.length-1:=by omega
 have d2:(0:Int)≤(l.length:Int)-1:=by omega
 have d3:(l.length:Int)-1<(l.length:Int):=by omega
 by_cases ca:Yu3 l=0
 ·have e1:Znj l=if s=[48] then 6 else 0:=by simp[Znj,c0,c1,ca,hs']
  have hq:=(Zco (Yu8 ca s (Yqn hs'))).1
  have ez:s=[48]↔ratS s=0:=by
   constructor
   ·intro hc;rw[←hq,←Yhh]at hc;exact Yc7 hc
   ·intro hc;rw[←hq,hc,Yhh]
  rw[e1]
  simp only[ez]
  rw[←hq]at q4
  clear e1 ez hq hs'
  generalize ratS s=q at*
  by_cases cz:q=0
  ·simp(disch:=first|(simp;done)|omega|rfl) [-getElem?_pos,Zak,ca,hlen,q1,q2,q3,q4,d1,d2,d3,cz,Yug,Ret]
   exact k1
  ·simp(disch:=first|(simp;done)|omega|rfl) [-getElem?_pos,Zak,ca,hlen,q1,q2,q3,q4,d1,d2,d3,cz,Yug,Ret]
   exact k1
 ·have e1:Znj l=Yu3 l:=by simp[Znj,c0,c1,ca]
  rw[e1]
  simp(disch:=first|(simp;done)|omega|rfl) [-getElem?_pos,Zak,ca,Ret]
  exact k1
theorem Yud(hs:Sl h N v (strs l))(hl:l.length<100000):Fn A.C 12 [v] h N (fun u h' n'=>Sl h' n' u (strs l)):=by
 intro w
 rw[Zab,A.k12 (by simp)]
 have k0:Keeps h N (h.set N (.cells [] 30 true)) (N+1):=Keeps.refl.new _
 have s1:Sn 1 (h.set N (.cells [] 30 true)) (N+1) v ((strs l).map fun x=>[x]):=Sn.one.2 (hs.keep k0)
 obtain⟨y,h',N',ap,kk,cw⟩:=Yvr (z:=1) (bytes:=16) (e:=30) (N0:=N) (i:=N) (w:=[]) (by decide) s1 (by simp) (by omega) (Yqg _) (by rw[T.get_set,Yqi rfl]) (by simp[strs];omega)
 simp(disch:=first|(simp;done)|omega|rfl) [-getElem?_pos,A.b12,ap,Ret]
 exact⟨k0.trans kk,Sn.one.1 cw.sn⟩
variable {N m n:Nat} {h:T O}
def A.lb111_0:Zaz:=.seq (sr [mv 34 8,mv 35 7,ln 36 35,bi 37 .lss 34 36]
 (cd 37
 (.skip)
 (.exit 0)))
 (.block 1 (.regD [mv 38 8,mv 39 7,mv 40 8,ge 41 (.sliceSl 4 (tq 39) (some (tq 40)) none none),mv 42 7,mv 43 8,ge 44 (.sliceSl 4 (tq 42) none (some (tq 43)) none),ge 45 (.copy 4 (tq 41) (tq 44)),bi 46 .add 38 45,mv 8 46] [0,0,0,6,0,0,48,126,255,511]))
def A.b111:Zaz:=sr [mN 4]
 (.seq (sr [mv 9 1,bc 10 .lss 9 0]
 (cd 10
 (.reg [ge 11 (.mkiface 9 (.const (.str [99,97,110,110,111,116,32,98,101,32,110,101,103,97,116,105,118,101]))),gn (.stop)])
 (.skip)))
 (sr [mv 13 0,ln 14 13,ge 15 (.convInt .u64 (tq 14)),mv 16 1,ge 17 (.convInt .u64 (tq 16)),c2 18 172 15 17,mv 12 18,xt 19 12 0,xt 20 12 1,mv 5 19,mv 6 20]
 (.seq (sr [mv 21 5,ge 22 (.bin .gtr (.node []) false (tq 21) (.const (.int .u64 0))),mv 23 22,mh 24 6 23,gz 25 23 (.bin .gtr (.node []) false (tq 24) (.const (.int .u64 9223372036854775807))),pt 26 23 25]
 (cd 26
 (.reg [ge 27 (.mkiface 9 (.const (.str [116,104,101,32,114,101,115,117,108,116,32,111,102,32,40,108,101,110,40,120,41,32,42,32,99,111,117,110,116,41,32,111,118,101,114,102,108,111,119,115]))),gn (.stop)])
 (.skip)))
 (sr [mv 28 6,ge 29 (.convInt .i64 (tq 28)),ge 30 (.mkslice 102 4 64 [.int .i64 0,.nilslice,.int .i64 0,.nilslice] (tq 29) (tq 29)),mv 7 30]
 (sr [mv 31 7,mv 32 0,ge 33 (.copy 4 (tq 31) (tq 32)),mv 8 33]
 (.seq (.block 0 (.loop A.lb111_0))
 (sr [mv 47 7,mv 4 47]
 (.ret))))))))
def A.k111:=@A.kk 111 48 [.tmp 4] A.b111 (by kernel_rfl) rfl
theorem Yup{z:List V}{n:Nat}:∀{m:Nat},Zeh z (m+n)=Zeh z m++Zeh z n
 |0=>by simp[Zeh]
 |m+1=>by rw[show m+1+n=(m+n)+1 by omega,Zlc,Zlc,Yup (m:=m),Yrh]
theorem RwQ.dup{R r:Nat}{l ws:List Rat}{xs:List (List V)}(s:RwQ h N R l (m+r))(hx:xs.length=m)(hm:ws.length=m)(hw:∀(j:Nat) (q:Rat),ws[j]?=some q→∃c,xs[j]?=some c∧FcC h N c q):∃X,h.get R=some (.cells X 102 true)∧l.length*4+m*4≤X.length∧RwQ (h.set R (.cells (splice X (l.length*4) xs.flatten) 102 true)) N R (l++ws) r:=by
 obtain⟨cs,g1,g2,g3⟩:=s.ex
 obtain⟨f1,f2,_⟩:=RwQ.fcs g2 g3
 obtain⟨y1,y2,_⟩:=RwQ.fcs (l:=ws) (by omega) hw
 have hfl:=Zb6 f1
 have hyl:=Zb6 y1
 have hsp:splice (cs.flatten++Zeh zF (m+r)) (l.length*4) xs.flatten=(cs++xs).flatten++Zeh zF r:=by
  rw[Yup,Zkd (n:=m*4) (by rw[hfl,g2]) (Ykx m) (by rw[hyl,hx]),List.flatten_append,Yrh]
 have hnu:NoU (cs.flatten++Zeh zF (m+r)):=f2.app Zlb
 have hln:((cs++xs).flatten++Zeh zF r).length=(cs.flatten++Zeh zF (m+r)).length:=by
  rw[Yup,List.flatten_append];simp[Ykx,hyl,hx]
 refine⟨_,g1,by rw[Yqr,hfl,g2,Ykx];omega,s.lt,cs++xs,by rw[T.get_set,Yqi rfl,hsp],by simp[g2,hx,hm],fun j q hq=>?_⟩
 rw[hsp]
 by_cases e:j<l.length
 ·rw[Yrp e]at hq
  obtain⟨x,a,b⟩:=g3 j q hq
  exact⟨x,by rw[Yrp (by omega)];exact a,b.setNU g1 hnu hln⟩
 ·rw[Ytd (by omega)]at hq
  obtain⟨x,a,b⟩:=hw _ q hq
  exact⟨x,by rw[Ytd (by omega),g2];exact a,b.setNU g1 hnu hln⟩
theorem Yv6{w:List Nat}{i o:Nat}{cp:Option Nat}{c xs:List V}{e:TypeId}{s:V}(hn:0<n)(hm:0<m)(hs:Zbc ⟨h,N,w⟩ 4 s=some (m,xs))(hg:h.get i=some (.cells c e true))(hc:o+min m n*4≤c.length):Yma ⟨h,N,w⟩ 4 (some (.slice i o n cp 4)) (some s)=some (.int .i64 (min m n:Nat),⟨h.set i (.cells (splice c o (xs.take (min m n*4))) e true),N,i::w⟩):=by
 have h0:¬min m n=0:=by omega
 simp only[Yma,Zgv,Src.ev,hs,St.row,hg]
 rw[Yqe (by omega),Yqe h0,Yqi hc]
 rfl
theorem Yvm{k:Nat}{q:Rat}:List.replicate k q++List.replicate m q=List.replicate (k+m) q:=List.replicate_append_replicate
theorem Yv9{i:Nat}{q:Rat}{c:List V}{e:TypeId}{rw:Bool}(hi:i<N)(hg:h.get i=some (.cells c e rw))(hc:FcC h N c q)(hn:n<1000)(h0:0<n):Fn A.C 111 [.slice i 0 1 (some 1) 4,.int .i64 n] h N (fun x h' n'=>x=.slice N 0 n (some n) 4∧RwQ h' n' N (List.replicate n q) 0):=by
 intro w
 have c1:(64:Int)*(n:Int)≤140737488355328:=by omega
 have c2:(n:Int)<4611686018427387904:=by omega
 have e1:hi64 (1*n)=0:=by unfold hi64;omega
 have e2:lo64 (1*n)=n:=by unfold lo64;omega
 have a1:¬(n:Int)<0:=by omega
 have w1:Zao .u64 (1:Int)=((1:Nat):Int):=Zd6 (by omega) (by omega)
 have wn:Zao .u64 (n:Int)=(n:Int):=Zd6 (by omega) (by omega)
 have a2:¬(9223372036854775807:Int)<(n:Int):=by omega
 rw[Zab,A.k111 (by simp)]
 simp(disch:=first|(simp;done)|omega|rfl) [-getElem?_pos,A.b111,a1,w1,wn]
 refine Zaa (Yj8 (x:=1) (y:=n) (by omega) (by omega)) ?_
 rintro _ h N _ ⟨rfl,rfl,rfl⟩
 rw[e1,e2]
 have d1:¬i=N:=by omega
 obtain⟨l4,_⟩:=hc.len
 have k0:Keeps h N (h.set N (.cells (Zeh zF n) 102 true)) (N+1):=Keeps.refl.new _
 have s0:RwQ (h.set N (.cells (Zeh zF n) 102 true)) (N+1) N [] (1+(n-1)):=⟨by omega,[],by rw[T.get_set,Yqi rfl,show 1+(n-1)=n by omega];rfl,rfl,fun j q hq=>by simp at hq⟩
 obtain⟨X,x1,x2,x3⟩:=s0.dup (xs:=[c]) (ws:=[q]) rfl rfl fun j y hy=>by
  obtain⟨rfl,rfl⟩:j=0∧q=y:=by
   have:=Zct hy
   have h0:j=0:=by simpa using this
   subst h0;simpa using hy
  exact⟨c,rfl,hc.keep k0⟩
 have gi:(h.set N (.cells (Zeh zF n) 102 true)).get i=some (.cells c e rw):=by rw[T.get_set,Yqe d1];exact hg
 have hsrc:∀w,Zbc ⟨h.set N (.cells (Zeh zF n) 102 true),N+1,w⟩ 4 (.slice i 0 1 (some 1) 4)=some (1,c):=fun w=>by
  simp only[Zbc,if_true,St.row,gi,slc]
  simp[l4]
  exact Yqp (by omega)
 have hcp:=fun w=>Yv6 (w:=w) (i:=N) (o:=0) (n:=n) (cp:=some n) h0 (by decide) (hsrc w) x1 (by simp at x2 ⊢;omega)
 have hm1:min 1 n=1:=by omega
 have hfl:(c.take (1*4))=c:=by rw[Yqp (by omega)]
 simp only[hm1,hfl]at hcp
 simp only[List.length_nil,Nat.zero_mul,List.flatten_cons,List.flatten_nil,Ysm,List.nil_append]at x3
 have k1:Keeps h N ((h.set N (.cells (Zeh zF n) 102 true)).set N (.cells (splice X 0 c) 102 true)) (N+1):=k0.set (Yqg _)
 have hz:Zeh zF n=Zeh [V.int .i64 0,V.nilslice,V.int .i64 0,V.nilslice] n:=rfl
 rw[hz]at hcp x3 k1
 simp(disch:=first|(simp;done)|omega|rfl) [-getElem?_pos,c1,c2,a1,a2,hcp]
 generalize (h.set N (.cells (Zeh [V.int .i64 0,V.nilslice,V.int .i64 0,V.nilslice] n) 102 true)).set N (.cells (splice X 0 c) 102 true)=G at*
 refine Zaj [(8,8),(34,46)] (fun e r st=>e=.exit 0∧Zac N st.w=[]∧Keeps h N st.h st.n∧RwQ st.h st.n N (List.replicate n q) 0) (fun m r st=>Zac N st.w=[]∧Keeps h N st.h st.n∧m≤n∧∃k,0<k∧k+m=n∧r.get 8=some (.int .i64 k)∧RwQ st.h st.n N (List.replicate k q) m) (n-1) ?_ ?_ ?_
 ·exact⟨by simp,k1,by omega,1,by omega,by omega,by simp,x3⟩
 ·rintro m r ⟨H,n1,W⟩ hr hf ⟨hW,hK,hmn,k,hk0,hkm,h8,hQ⟩
  simp only at hW hK hQ
  rw[Zai]
  have lN:=hQ.lt
  by_cases hm0:m=0
  ·subst hm0
   obtain rfl:k=n:=by omega
   simp(disch:=first|(simp;done)|omega|rfl) [-getElem?_pos,A.lb111_0,hr,hf,h8,hW,hK]
   exact hQ
  ·have hlt:k<n:=by omega
   have hlt':(k:Int)<(n:Int):=by omega
   obtain⟨t,ht⟩:∃t,t=min k m:=⟨_,rfl⟩
   obtain⟨r0,hr0⟩:∃r0,m=t+r0:=⟨m-t,by omega⟩
   have hQ':=hQ
   rw[hr0]at hQ'
   obtain⟨cs,g1,g2,g3⟩:=hQ.ex
   simp only[List.length_replicate]at g2
   obtain⟨f1,_,_⟩:=RwQ.fcs (l:=List.replicate k q) (by simpa using g2) g3
   have hfl:=Zb6 f1
   obtain⟨Y,y1,y2,y3⟩:=hQ'.dup (xs:=cs.take t) (ws:=List.replicate t q) (by simp;omega) (by simp) fun j y hy=>by
    have hj:=Zct hy
    simp at hj
    obtain⟨c',a,b⟩:=g3 j q (by rw[List.getElem?_replicate,Yqi (by omega)])
    rw[List.getElem?_replicate,Yqi hj]at hy
    simp only[Yqc]at hy
    subst hy
    exact⟨c',by rw[Yqy,Yqi hj];exact a,b⟩
   rw[y1]at g1
   simp only[Yqc,O.cells.injEq,and_true]at g1
   rw[Yvm]at y3
   simp only[List.length_replicate]at y2 y3
   have hsr:∀w,Zbc ⟨H,n1,w⟩ 4 (.slice N 0 k (some n) 4)=some (k,cs.flatten):=fun w=>by
    simp only[Zbc,if_true,St.row,y1,slc,g1]
    rw[Yqi (by rw[Yqr,hfl,g2];omega),Ys2,List.take_left' (by rw[hfl,g2])]
   have hcp:=fun w=>Yv6 (w:=w) (i:=N) (o:=k*4) (n:=n-k) (cp:=some (n-k)) (by omega) hk0 (hsr w) y1 (by omega)
   have hmt:min k (n-k)=t:=by omega
   have htk:cs.flatten.take (t*4)=(cs.take t).flatten:=by
    conv=>lhs;rw[←Yr0 t cs,List.flatten_append]
    rw[List.take_left' (by rw[Zb6 (z:=4) fun y hy=>f1 y (Ysg hy)];simp;omega)]
   simp only[hmt,htk]at hcp
   have b1:(k:Int)≤(n:Int):=by omega
   have s1:∀w,Zcr ⟨H,n1,w⟩ 4 (some (.slice N 0 n (some n) 4)) (some (some (.int .i64 k))) (some none) (some none)=some (.slice N (k*4) (n-k) (some (n-k)) 4,⟨H,n1,w⟩):=fun w=>by
    simp[Zcr,Za4,evOpt,Zax,Zd1,Src.ev,show k≤n by omega,show ¬n=k by omega]
   have s2:∀w,Zcr ⟨H,n1,w⟩ 4 (some (.slice N 0 n (some n) 4)) (some none) (some (some (.int .i64 k))) (some none)=some (.slice N 0 k (some n) 4,⟨H,n1,w⟩):=fun w=>by
    simp[Zcr,Za4,evOpt,Zax,Zd1,Src.ev,show k≤n by omega,show ¬n=k by omega]
   simp(disch:=first|(simp;done)|omega|rfl) [-getElem?_pos,A.lb111_0,hr,hf,h8,hlt,hlt',b1,Zea,s1,s2,hcp]
   have lN1:N<n1:=lN
   refine⟨r0,by omega,by simp[lN1,Zac,hW],hK.set (Yqg _),by omega,k+t,by omega,by omega,by simp,y3⟩
 ·rintro _ r ⟨H,n1,W⟩ hr ⟨rfl,hW,hK,hQ⟩
  simp only at hW hK hQ
  simp(disch:=first|(simp;done)|omega|rfl) [-getElem?_pos,hr,hW,hK,Ret]
  exact hQ
variable {a b:List Rat} {x:Rat}
def A.w68:=A.q Tryz.f68
def A.lb68_0:=A.ql A.w68 0 []
def A.b68:=(fun x0=>A.qb A.w68 [x0]) A.lb68_0
def A.k68:=@A.kk 68 34 [.tmp 4] A.b68 (by kernel_rfl) rfl
def pwR(x:Rat):Nat→Rat
 |0=>1
 |k+1=>pwR x k*x
def Yuw(p:List Rat)(x:Rat):List Rat:=(List.range p.length).map fun k=>(p[k]?.getD 0)*pwR x k
def Yvd(a b:List Rat)(t:Nat):List Rat:=a.take t++b.drop t
theorem Yua{p:List Rat}:(Yuw p x).length=p.length:=by simp[Yuw]
theorem Yu0{p:List Rat}{q:Rat}{t:Nat}(h:p[t]?=some q):(Yuw p x)[t]?=some (q*pwR x t):=by
 have ht:=Zct h
 obtain⟨_,e⟩:=Yro.1 h
 simp[Yuw,ht,e]
theorem Yv2{t:Nat}(h:a.length=b.length)(ht:t≤b.length):(Yvd a b t).length=b.length:=by simp[Yvd];omega
theorem Yv3{t:Nat}{q:Rat}(h:a.length=b.length)(hq:b[t]?=some q):(Yvd a b t)[t]?=some q:=by
 have:=Zct hq
 unfold Yvd
 rw[Ytd (by simp;omega),Yqo,Yq0,Yrb (by omega),Nat.sub_self,Ysh,hq]
theorem Yv1{t:Nat}{q:Rat}(h:a.length=b.length)(hq:a[t]?=some q):(Yvd a b t).set t q=Yvd a b (t+1):=by
 have ht:=Zct hq
 obtain⟨_,e⟩:=Yro.1 hq
 unfold Yvd
 rw[List.set_append_right _ _ (by simp;omega),Yq0,Yrb (by omega),Nat.sub_self,Ys4,hq,Yrh]
 congr 1
 rw[Ysj (by omega:t<b.length)]
 rfl
theorem Ywf:Yvd a b 0=b:=by simp[Yvd]
theorem Yv4(h:a.length=b.length):Yvd a b b.length=a:=by
 unfold Yvd
 rw[Ysx,Ysm,Yqp (by omega)]
theorem Yu5{x:Rat}{k:Nat}(hx:Qb k x):∀t,Qb (t*k+1) (pwR x t)
 |0=>(Qb.int (z:=1) (k:=1) (by decide) (by decide)).mono (by omega)
 |t+1=>((Yu5 hx t).mul hx).mono (by rw[Yrf];omega)
theorem RwQ.setB{h:T O}{N R m B:Nat}{l:List Rat}{c0 c1:List V}{e0 e1:TypeId}{w0 w1:Bool}(s:RwQ h N R l m)(g:h.get B=some (.cells c0 e0 w0))(hn:NoU c0)(hc:c1.length=c0.length)(hB:¬B=R):RwQ (h.set B (.cells c1 e1 w1)) N R l m:=by
 obtain⟨cs,g1,g2,g3⟩:=s.ex
 refine⟨s.lt,cs,by rw[T.get_set,Yqe (fun hc=>hB hc.symm)];exact g1,g2,fun j q hq=>?_⟩
 obtain⟨c,a,b⟩:=g3 j q hq
 exact⟨c,a,b.setNU g hn hc⟩
theorem Yuu{c:List V}(h:c.length=4):slc c 0 4=some c:=by unfold slc;rw[h];simp;exact Yqp (by omega)
theorem Yuq{c d:List V}(h:c.length=4)(hd:d.length=4):splice d 0 c=c:=by unfold splice;rw[h];simp[h,hd]
theorem Yvg{h:T O}{N k j:Nat}{v y:V}{p:List Rat}(hs:FrT h N v p)(hx:Fc h N y x)(bp:∀q∈p,Qb j q)(bx:Qb k x)(hl:p.length≤100)(h0:0<p.length)(hj:j≤100000000)(hk:k≤100000):Fn A.C 68 [v,y] h N (fun z h' n'=>FrT h' n' z (Yuw p x)):=by
 intro w
 obtain⟨c,rfl,hc⟩:=hx.c
 obtain⟨c1,c2⟩:=hc.len
 have hcc:∀c:List V,(V.agg c).cells=c:=fun _=>rfl
 have lv:=hs.1.len
 obtain⟨cs,q1,q2,q3⟩:=hs.1
 have k0:Keeps h N (h.set N (.cells c 102 true)) (N+1):=Keeps.refl.new _
 have k1:Keeps h N ((h.set N (.cells c 102 true)).set (N+1) (.cells (Zeh zF p.length) 102 true)) (N+1+1):=k0.new _
 have s0:RwQ ((h.set N (.cells c 102 true)).set (N+1) (.cells (Zeh zF p.length) 102 true)) (N+1+1) (N+1) [] (p.length+0):=⟨by omega,[],by rw[T.get_set,Yqi rfl];rfl,rfl,fun j q hq=>by simp at hq⟩
 obtain⟨X,x1,x2,x3⟩:=s0.dup (xs:=cs) (ws:=p) q2 rfl fun i q hq=>by
  obtain⟨c',a,b⟩:=q3 i q hq
  exact⟨c',a,b.keep k1⟩
 have hsrc:=fun w=>Yve (w:=w) (q1.keep k1)
 have hcp:=fun w=>Yv6 (w:=w) (i:=N+1) (o:=0) (n:=p.length) (cp:=some p.length) h0 (by omega) (hsrc w) x1 (by simp at x2 ⊢;omega)
 obtain⟨f1,_,_⟩:=RwQ.fcs q2 q3
 have hm1:min cs.length p.length=p.length:=by omega
 have hfl:cs.flatten.take (p.length*4)=cs.flatten:=Yqp (by rw[Zb6 f1];omega)
 simp only[hm1,hfl]at hcp
 simp only[List.length_nil,Nat.zero_mul,List.nil_append]at x3
 have gN:(((h.set N (.cells c 102 true)).set (N+1) (.cells (Zeh zF p.length) 102 true)).set (N+1) (.cells (splice X 0 cs.flatten) 102 true)).get N=some (.cells c 102 true):=by simp
 have k2:Keeps h N (((h.set N (.cells c 102 true)).set (N+1) (.cells (Zeh zF p.length) 102 true)).set (N+1) (.cells (splice X 0 cs.flatten) 102 true)) (N+1+1):=k1.set (by omega)
 have cc1:(64:Int)*(p.length:Int)≤140737488355328:=by omega
 have cc2:(p.length:Int)<4611686018427387904:=by omega
 have hz:∀n,Zeh zF n=Zeh [V.int .i64 0,V.nilslice,V.int .i64 0,V.nilslice] n:=fun _=>rfl
 rw[hz]at hcp x3 gN k2
 rw[Zab,A.k68 (by simp)]
 simp(disch:=first|(simp;done)|omega|rfl) [-getElem?_pos, -V.cells, -V.one,A.b68,hcc,c1,c2,lv,cc1,cc2,hcp]
 generalize ((h.set N (.cells c 102 true)).set (N+1) (.cells (Zeh [V.int .i64 0,V.nilslice,V.int .i64 0,V.nilslice] p.length) 102 true)).set (N+1) (.cells (splice X 0 cs.flatten) 102 true)=G at*
 refine Zaa (Ybl (z:=1) (by decide) (by decide)) ?_
 rintro _ h3 n3 k3 h1
 obtain⟨c3,rfl,hc3⟩:=h1.c
 obtain⟨e31,e32⟩:=hc3.len
 have le3:=k3.le
 have e4:=Yuq (d:=zF) e31 rfl
 unfold zF at e4
 have kB:Keeps h3 n3 ((h3.set n3 (.cells [.int .i64 0,.nilslice,.int .i64 0,.nilslice] 102 true)).set n3 (.cells c3 102 true)) (n3+1):=(Keeps.refl.new _).set (Yqg _)
 have gB:((h3.set n3 (.cells [.int .i64 0,.nilslice,.int .i64 0,.nilslice] 102 true)).set n3 (.cells c3 102 true)).get n3=some (.cells c3 102 true):=by simp
 simp(disch:=first|(simp;done)|omega|rfl) [-getElem?_pos, -V.cells, -V.one,hcc,e31,e32,Zal,e4]
 generalize (h3.set n3 (.cells [.int .i64 0,.nilslice,.int .i64 0,.nilslice] 102 true)).set n3 (.cells c3 102 true)=H4 at*
 refine Zaj [(7,7),(17,32)] (fun e r st=>e=.exit 0∧Zac N st.w=[]∧Keeps h N st.h st.n∧RwQ st.h st.n (N+1) (Yuw p x) 0) (fun m r st=>Zac N st.w=[]∧Keeps h N st.h st.n∧n3<st.n∧st.h.get N=some (.cells c 102 true)∧FcC st.h st.n c x∧∃t,t+m=p.length∧r.get 17=some (.int .i64 t)∧∃cf,st.h.get n3=some (.cells cf 102 true)∧FcC st.h st.n cf (pwR x t)∧RwQ st.h st.n (N+1) (Yvd (Yuw p x) p t) 0) p.length ?_ ?_ ?_
 ·exact⟨by simp;omega,(k2.trans k3).trans kB,by show n3<n3+1;omega,(kB.get N (by omega)).trans ((k3.get N (by omega)).trans gN),((hc.keep k2).keep k3).keep kB,0,by omega,by simp,c3,gB,hc3.keep kB,by rw[Ywf];exact(x3.keep k3).keep kB⟩
 ·rintro m r ⟨H,n1,W⟩ hr hf ⟨hW,hK,hB,g0,hcx,t,ht,h17,cf,gF,hcf,hQ⟩
  simp only at hW hK hB g0 hcx gF hcf hQ
  rw[Zai]
  cases m with
  |zero=>
   obtain rfl:t=p.length:=by omega
   rw[Yv4 Yua]at hQ
   simp(disch:=first|(simp;done)|omega|rfl) [-getElem?_pos,A.lb68_0,hr,hf,h17,hW,hK]
   exact hQ
  |succ m=>
   have hlt:t<p.length:=by omega
   have hlt':(t:Int)<(p.length:Int):=by omega
   obtain⟨q,hq⟩:=Zan hlt
   obtain⟨cs0,y1,_,_⟩:=hQ.ex
   obtain⟨ct,s1,fct⟩:=hQ.at (Yv3 Yua hq) y1
   obtain⟨z1,z2⟩:=fct.len
   obtain⟨f31,f32⟩:=hcf.len
   have sf:=Yuu f31
   have sc:=Yuu c1
   have lR:=hQ.lt
   have wq:=(bp q (Yqn hq)).wls
   have bw:=Yu5 bx t
   have wb:=bw.wls
   have wx:=bx.wls
   have hkt:t*k+1≤100000001:=by
    have:t*k≤100*100000:=Yr1 (by omega) hk
    omega
   generalize cs0.flatten++Zeh zF 0=X0 at*
   simp(disch:=first|(simp;done)|omega|rfl) [-getElem?_pos, -V.cells, -V.one,A.lb68_0,hr,hf,h17,hlt,hlt',y1,s1,gF,hB,lR,Zah,sf]
   refine Zaa (Ybh fct.up hcf.up (by omega) (by omega) (by omega) (by omega)) ?_
   rintro _ h5 n5 k5 hm5
   obtain⟨c5,rfl,hc5⟩:=hm5.c
   obtain⟨e51,e52⟩:=hc5.len
   have le5:=k5.le
   obtain⟨Y,p1,p2,p3⟩:=(hQ.keep k5).put hc5 (j:=t) (by rw[Yv2 Yua (by omega)];exact hlt)
   rw[Yv1 Yua (Yu0 hq)]at p3
   have lR5:N+1<n5:=by omega
   have lB5:n3<n5:=by omega
   have lN5:N<n5:=by omega
   have nuY:=RwQ.nou (hQ.keep k5) p1
   have slY:(splice Y (t*4) c5).length=Y.length:=Zb3 (by omega)
   have gF5:=(k5.get n3 hB).trans gF
   have g05:=(k5.get N (by omega)).trans g0
   have hneF:¬n3=N+1:=by omega
   have hneN:¬N=N+1:=by omega
   simp(disch:=first|(simp;done)|omega|rfl) [-getElem?_pos, -V.cells, -V.one,hr,hf,hcc,e51,e52,Zal,p1,p2,lR5,hlt,hlt',gF5,g05,lB5,lN5,hneF,Zah,sf,sc]
   have fcf6:=(hcf.keep k5).setNU (c1:=splice Y (t*4) c5) (e1:=102) (w1:=true) p1 nuY slY
   have fcx6:=(hcx.keep k5).setNU (c1:=splice Y (t*4) c5) (e1:=102) (w1:=true) p1 nuY slY
   have gF6:(h5.set (N+1) (.cells (splice Y (t*4) c5) 102 true)).get n3=some (.cells cf 102 true):=by rw[T.get_set,Yqe (by omega)];exact gF5
   have g06:(h5.set (N+1) (.cells (splice Y (t*4) c5) 102 true)).get N=some (.cells c 102 true):=by rw[T.get_set,Yqe (by omega)];exact g05
   have K6:Keeps h N (h5.set (N+1) (.cells (splice Y (t*4) c5) 102 true)) n5:=(hK.trans k5).set (by omega)
   generalize h5.set (N+1) (.cells (splice Y (t*4) c5) 102 true)=H6 at*
   refine Zaa (Ybh fcf6.up fcx6.up (by omega) (by omega) (by omega) (by omega)) ?_
   rintro _ h7 n7 k7 hm7
   obtain⟨c7,rfl,hc7⟩:=hm7.c
   obtain⟨e71,e72⟩:=hc7.len
   have le7:=k7.le
   have gF7:=(k7.get n3 lB5).trans gF6
   have g07:=(k7.get N lN5).trans g06
   have lB7:n3<n7:=by omega
   have e7:=Yuq (d:=cf) e71 f31
   have l7:4≤cf.length:=by omega
   simp(disch:=first|(simp;done)|omega|rfl) [-getElem?_pos, -V.cells, -V.one,hr,hf,h17,hcc,e71,e72,Zal,gF7,lB7,e7,l7]
   have nuF:=hcf.noU
   have s7:c7.length=cf.length:=by omega
   refine⟨m,by omega,?_,(K6.trans k7).set (by omega),by rw[Yqe (by omega)];exact g07,(fcx6.keep k7).setNU gF7 nuF s7,t+1,by omega,by simp,hc7.setNU gF7 nuF s7,(p3.keep k7).setB gF7 nuF s7 (by omega)⟩
   simp[Zac,hW];omega
 ·rintro _ r ⟨H,n1,W⟩ hr ⟨rfl,hW,hK,hQ⟩
  simp only at hW hK hQ
  have fin:=hQ.frt
  rw[Yua]at fin
  simp(disch:=first|(simp;done)|omega|rfl) [-getElem?_pos,hr,hW,hK,Ret]
  exact fin
end
end Go.Mx
