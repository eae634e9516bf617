/-loop-/
import Derived.Test.YtlbnjhhebffhdaaGreatDoorVaE
set_option linter.all false
set_option maxHeartbeats 4000000
namespace Go.Mx
noncomputable section
open Go Go.Proofs
variable {N:Nat} {h:T O}
set_option maxRecDepth 1000000
def A.Nc:=A.q Tryz.f211
def A.pQ:=A.ql A.Nc 0 []
def A.b211:=(fun x0=>A.qb A.Nc [x0]) A.pQ
def A.k211:=@A.kk 211 19 [.tmp 4] A.b211 (by kernel_rfl) rfl
def Yny{v f:V}(l:List (List V))(p:Nat->Bool)(hs:Sn 4 h N v l)(hl:l.length<1152921504606846976)(hf:∀(j:Nat) (x:List V),l[j]?=some x->∀h' n',ah h N h' n'->FnV A.C f [.agg x] h' n' (fun u _ _=>u=.bool (p j))):Fn A.C 211 [v,f] h N (fun u _ _=>u=.int .i64 (wK p 0 l.length)):=by
 intro w
 have hlen:=hs.len
 rw[aZ,A.k211 (by simp)]
 simp[A.b211,hlen]
 refine Zal [(4,5),(8,18)] (fun e r st=>aL N st.w=[]/\ah h N st.h st.n/\((e=.exit 0/\wK p 0 l.length= -1)\/(e=.ret/\r.get 4=some (.int .i64 (wK p 0 l.length))))) (fun m r st=>aL N st.w=[]/\ah h N st.h st.n/\∃k,k+m=l.length/\r.get 8=some (.int .i64 k)/\wK p 0 l.length=wK p k m) l.length ?_ ?_ ?_
 ·exact⟨by simp,ah.refl,0,by omega,by simp,rfl⟩
 ·rintro m r ⟨H,n1,W⟩ hr ik ⟨hW,hK,k,hk,h8,hz⟩
  simp only at hW hK
  rw[cn]
  cases m with
  |zero=>
   have:k=l.length:=by omega
   subst this
   simp only[wK]at hz
   simp[A.pQ,hr,ik,h8,hW,hK,hz]
  |succ m=>
   have aW:k<l.length:=by omega
   obtain⟨c,hc⟩:=eQ aW
   obtain⟨i,o,cc,e,rw,q1,q2,q3,q4⟩:=hs.at hc
   have q3:=(hK.get _ q2).trans q3
   have hk1:(k:Int)<(l.length:Int):=by omega
   simp only[wK]at hz
   simp[A.pQ,hr,h8,hk1,hlen,q1,q3,q4]
   refine Ymf (hf k c hc _ _ hK) ?_
   rintro v h2 n2 k2 rfl
   have kk:=hK.trans k2
   cases hp:p k
   ·rw[hp]at hz
    simp(disch:=first|(simp;done)|omega|rfl) [ik,h8,hW,kk]
    exact⟨m,by omega,k+1,by omega,by simp,by simpa using hz⟩
   ·rw[hp]at hz
    simp[ik,hW,kk]
    simpa using hz.symm
 ·rintro e r ⟨H,n1,W⟩ hr ⟨hW,hK,⟨rfl,hz⟩|⟨rfl,h4⟩⟩
  ·simp only at hW hK
   simp[hz,Ret,hW,hK]
  ·simp only at hW hK
   simp[h4,Ret,hW,hK]
def A.b152:=A.q Tryz.f152
def A.k152:=@A.kk 152 9 [.tmp 4] A.b152 (by kernel_rfl) rfl
def A.b77:=A.q Tryz.f77
def A.k77:=@A.kk 77 8 [.tmp 2,.tmp 3] A.b77 (by kernel_rfl) rfl
def A.b83:=A.q Tryz.f83
def A.k83:=@A.kk 83 8 [.tmp 2,.tmp 3] A.b83 (by kernel_rfl) rfl
def Yjo{v f:V}(l:List (List V))(p:Nat->Bool)(hs:Sn 4 h N v l)(hl:l.length<1152921504606846976)(hf:∀(j:Nat) (x:List V),l[j]?=some x->∀h' n',ah h N h' n'->FnV A.C f [.agg x] h' n' (fun u _ _=>u=.bool (p j))):Fn A.C 152 [v,f] h N (fun u _ _=>u=.bool (decide (0<=wK p 0 l.length))):=by
 intro w
 rw[aZ,A.k152 (by simp)]
 simp[A.b152]
 refine av (Yny l p hs hl hf) ?_
 rintro v h2 n2 k2 rfl
 simp[Ret,k2]
def Yaq{l:List Rat}:decide (0<=wK (fun j=>vk (l[j]?.getD 0)) 0 l.length)=BB l:=by
 rw[Bool.eq_iff_iff,decide_eq_true_eq,Zs7]
 unfold BB
 rw[List.any_eq_true]
 constructor
 ·rintro⟨j,_,h2,h3⟩
  obtain⟨q,hq⟩:=eQ (l:=l) (k:=j) (by omega)
  rw[hq]at h3
  exact⟨q,eI hq,h3⟩
 ·rintro⟨q,hq,h3⟩
  obtain⟨j,hj⟩:=Nd hq
  exact⟨j,tR _,by have:=yz hj;omega,by rw[hj];exact h3⟩
def Yg3{h:T O}{N:Nat}{u:V}{l:List Rat}{k:Nat}(hu:mV h N u l)(hP:j_ h N)(hl:l.length<1000000000)(hq:∀q∈l,Qb k q)(hk:k<=400000000):Fn A.C 77 [u] h N (fun x h' n'=>(BB l=true/\x=.aX [.ziA,.int .i64 4])\/(BB l=false/\∃v,x=.aX [v,.int .i64 0]/\TxT h' n' v l)):=by
 intro w
 obtain⟨cs,s1,s2,s3⟩:=id hu
 have key:=Yjo (f:=.func 153 [] []) cs (fun j=>vk (l[j]?.getD 0)) s1 (by omega) (fun j x hx h' n' jO=>by
  obtain⟨q,hqj⟩:=eQ (l:=l) (k:=j) (by have:=yz hx;omega)
  obtain⟨c,g1,g2⟩:=s3 j q hqj
  rw[hx]at g1
  obtain rfl:x=c:=by simpa using g1
  simp only[hqj,C8]
  exact Zs6 (g2.ai jO).fc (hP.ai jO) (hq q (eI hqj)) (by omega))
 rw[s2,Yaq]at key
 rw[aZ,A.k77 (by simp)]
 simp(disch:=first|(simp;done)|omega|rfl) [-getElem?_pos,A.b77]
 refine av key ?_
 rintro _ h2 n2 k2 rfl
 cases hb:BB l with
 |true=>
  simp(disch:=first|(simp;done)|omega|rfl) [-getElem?_pos,Ret]
  exact k2
 |false=>
  simp(disch:=first|(simp;done)|omega|rfl) [-getElem?_pos,]
  refine av (Yg7 (k0:=k) (hu.ai k2) (hP.ai k2) hl hq hk) ?_
  rintro v h3 n3 k3 t1
  simp(disch:=first|(simp;done)|omega|rfl) [-getElem?_pos,Ret]
  exact⟨k2.trans k3,t1⟩
def Ycq{h:T O}{N k:Nat}{x:V}{q:Rat}(hx:Fc h N x q)(hP:j_ h N)(hq:Qb k q)(hk:k<=400000000):Fn A.C 83 [x] h N (fun v _ _=>v=if vk q=true then .aX [.str [],.int .i64 4] else .aX [.str (Zao q),.int .i64 0]):=by
 intro w
 rw[aZ,A.k83 (by simp)]
 obtain⟨n1,u1,n2,u2,rfl,s1,s2⟩:=hx
 have o1:=Zaj s1
 have o2:=Zaj s2
 unfold V.one at o1 o2
 have kB:ah h N (h.set N (.cells [.int .i64 n1,u1,.int .i64 n2,u2] 102 true)) (N+1):=aO ah.refl _
 have b0:(h.set N (.cells [.int .i64 n1,u1,.int .i64 n2,u2] 102 true)).get N=some (.cells [.int .i64 n1,u1,.int .i64 n2,u2] 102 true):=by simp
 simp(disch:=first|(simp;done)|omega|rfl) [-getElem?_pos,A.b83,aI,aK,o1,o2]
 generalize gb:h.set N (.cells [.int .i64 n1,u1,.int .i64 n2,u2] 102 true)=hB at*
 clear gb
 have hx:Fc hB (N+1) (.agg [.int .i64 n1,u1,.int .i64 n2,u2]) q:=⟨n1,u1,n2,u2,rfl,s1.ai kB,s2.ai kB⟩
 have R8:=hP.ai kB
 have lg:=Zs6 hx R8 hq hk
 refine av lg ?_
 rintro _ h2 m2 k2 rfl
 have oH:=k2.le
 have f2:=(k2.get N (by omega)).trans b0
 have e2:N<m2:=by omega
 cases hb:vk q with
 |true=>
  simp(disch:=first|(simp;done)|omega|rfl) [-getElem?_pos,Ret]
  exact kB.trans k2
 |false=>
  simp(disch:=first|(simp;done)|omega|rfl) [-getElem?_pos,f2,e2,aI,aK]
  refine av (Yb0 (hx.ai k2) (R8.ai k2) (by have:=HT hq.1;omega) (by have:=HT hq.2;omega)) ?_
  rintro _ h3 m3 k3 rfl
  simp(disch:=first|(simp;done)|omega|rfl) [-getElem?_pos,Ret]
  exact(kB.trans k2).trans k3
def sR(f:Nat->Rat):Nat->Rat
 |0=>0
 |n+1=>sR f n+f n
def il{f g:Nat->Rat}:∀{n:Nat},(∀k,k<n->f k=g k)->sR f n=sR g n
 |0,_=>rfl
 |n+1,h=>by unfold sR;rw[il fun k hk=>h k (by omega),h n (by omega)]
def HW{f:Nat->Rat}:∀{n:Nat},sR (fun k=>f (k+1)) n+f 0=sR f (n+1)
 |0=>by simp[sR]
 |n+1=>by
  have:=HW (f:=f) (n:=n)
  unfold sR at this ⊢
  unfold sR
  grind
def R9{f:Nat->Rat}:∀{n:Nat},sR (fun k=>f (n-1-k)) n=sR f n
 |0=>rfl
 |n+1=>by
  have h1:=HW (f:=fun k=>f (n+1-1-k)) (n:=n)
  have h2:=R9 (f:=f) (n:=n)
  have h3:sR (fun k=>f (n+1-1-(k+1))) n=sR (fun k=>f (n-1-k)) n:=il fun k hk=>by
   show f (n+1-1-(k+1))=f (n-1-k)
   congr 1;omega
  rw[<-h1,h3,h2]
  show sR f n+f (n+1-1-0)=sR f n+f n
  rw[show n+1-1-0=n from by omega]
def Ay{f g:Nat->Rat}{r:Rat}:∀{n:Nat},sR (fun k=>f k-r*g k) n=sR f n-r*sR g n
 |0=>by
  show (0:Rat)=0-r*0
  grind
 |n+1=>by
  have:=Ay (f:=f) (g:=g) (r:=r) (n:=n)
  unfold sR
  grind
def Nf{h:T O}{N:Nat}{w:List Nat}(hP:j_ h N):A.C.call (.func 7 [] []) [] ⟨h,N,w⟩=some (.bool true,⟨h,N,w⟩):=by
 exact A.known hP.2
variable {N:Nat} {h:T O} {l:List bj} {v:V}
def A.b9:=A.q Tryz.f9
def A.k9:=@A.kk 9 22 [.tmp 2] A.b9 (by kernel_rfl) rfl
def A.b61:=A.q Tryz.f61
def A.k61:=@A.kk 61 27 [.tmp 2] A.b61 (by kernel_rfl) rfl
def A.Ng:=A.q Tryz.f145
def A.pS:=A.ql A.Ng 0 []
def A.b145:=(fun x0=>A.qb A.Ng [x0]) A.pS
def A.k145:=@A.kk 145 18 [.tmp 2] A.b145 (by kernel_rfl) rfl
def Xa4{z:Nat}:∀{l:List (List V)} {c:List V} {o:Nat},(∀j x,l[j]?=some x->aK c (o+j*z) z=some x)->o+l.length*z<=c.length->aK c o (l.length*z)=some l.flatten
 |[],c,o,_,h=>by simp[aK]at h ⊢;omega
 |x::l,c,o,h,hl=>by
  obtain⟨h1,h2⟩:=Zwq (h 0 x rfl)
  simp only[bC,ku,Nat.one_mul,Nat.zero_mul,mY]at hl h1 h2 ⊢
  obtain⟨h3,h4⟩:=Zwq (Xa4 (l:=l) (c:=c) (o:=o+z) (fun j y hj=>by
   have:=h (j+1) y (by simpa using hj)
   rw[show o+z+j*z=o+(j+1)*z by rw[ku];omega];exact this) (by omega))
  unfold aK
  rw[aR (by omega),List.flatten_cons,h4,h2]
  congr 1
  rw[Nat.add_comm (l.length*z) z,List.take_add,<-List.drop_drop]
def Xbn{z:Nat}{w:List Nat}{l:List (List V)}(s:Sn z h N v l):oL ⟨h,N,w⟩ z v=some (l.length,l.flatten):=by
 rcases s with⟨rfl,rfl|rfl⟩|⟨i,o,cp,c,e,rw,rfl,h2,h3,h4,h5,h6⟩
 ·rfl
 ·rfl
 ·simp only[oL,if_true,St.row,h3,Xa4 h4 h5]
def gV(l:List bj):Int:=cN (l.map fun s=>((aV s:Nat):Int))
def ks(l:List bj):Int:=if l.length=0 then 12 else if 13<l.length then 5 else if gV l=0 then (if l[l.length-1]?=some [48] then 6 else 0) else gV l
def Nh{l:List bj}(h:gV l=0):∀s∈l,aV s=0:=by
 induction l with
 |nil=>intro s hs;simp at hs
 |cons a l ih=>
  unfold gV at h ih
  rw[Yw1,cN]at h
  by_cases c:((aV a:Nat):Int)=0
  ·rw[aR c]at h
   intro s hs
   rcases kV.1 hs with rfl|hs
   ·omega
   ·exact ih h s hs
  ·rw[aA c]at h;omega
def Zqk(hs:Sl h N v (strs l))(hl:l.length<100000)(rA:∀s∈l,s.length<=100000):Fn A.C 145 [v] h N (fun u _ _=>u=.int .i64 (gV l)):=by
 intro w
 have hlen:=hs.len
 rw[HZ]at hlen
 unfold gV
 rw[aZ,A.k145 (by simp)]
 simp(disch:=first|(simp;done)|omega|rfl) [-getElem?_pos,A.b145,hlen]
 refine Zal [(2,2),(4,5),(8,17)] (fun e r st=>aL N st.w=[]/\ah h N st.h st.n/\((e=.exit 0/\cN (l.map (fun s=>((aV s:Nat):Int)))=0)\/(e=.ret/\r.get 2=some (.int .i64 (cN (l.map (fun s=>((aV s:Nat):Int)))))))) (fun m r st=>aL N st.w=[]/\ah h N st.h st.n/\∃k,k+m=l.length/\r.get 8=some (.int .i64 k)/\cN (l.map (fun s=>((aV s:Nat):Int)))=cN ((l.drop k).map (fun s=>((aV s:Nat):Int)))) l.length ?_ ?_ ?_
 ·exact⟨by simp,ah.refl,0,by omega,by simp,by simp⟩
 ·rintro m r ⟨H,n1,W⟩ hr ik ⟨hW,hK,k,hk,h7,hz⟩
  simp only at hW hK
  rw[cn]
  cases m with
  |zero=>
   obtain rfl:k=l.length:=by omega
   rw[xD,tV,cN]at hz
   simp(disch:=first|(simp;done)|omega|rfl) [-getElem?_pos,A.pS,hr,ik,h7,hz,hW,hK]
  |succ m=>
   have aW:k<l.length:=by omega
   obtain⟨s,hc⟩:=eQ aW
   obtain⟨i,o,cc,e,rw,q1,q2,q3,q4⟩:=(hs.ai hK).at (KR hc)
   rw[rV hc,Yw1,cN]at hz
   have hk1:(k:Int)<(l.length:Int):=by omega
   simp(disch:=first|(simp;done)|omega|rfl) [-getElem?_pos,A.pS,hr,ik,h7,hk1,aW,hlen,q1,q2,q3,q4]
   refine av (Zrc (rA s (eI hc))) ?_
   rintro _ h3 n3 k3 rfl
   have kk:=hK.trans k3
   by_cases h0:aV s=0
   ·rw[aR (by omega)]at hz
    simp(disch:=first|(simp;done)|omega|rfl) [-getElem?_pos,hr,ik,h7,h0,hW,a_]
    exact⟨m,by omega,kk,k+1,by omega,by simp,by simpa using hz⟩
   ·rw[aA (by omega)]at hz
    simp(disch:=first|(simp;done)|omega|rfl) [-getElem?_pos,hr,ik,h7,h0,hW,a_,hz]
    exact kk
 ·rintro _ r ⟨H,n1,W⟩ hr ⟨hW,hK,⟨rfl,hz⟩|⟨rfl,h2⟩⟩
  ·simp only at hW hK
   simp(disch:=first|(simp;done)|omega|rfl) [-getElem?_pos,hr,hz,Ret,hW,hK]
  ·simp only at hW hK
   simp(disch:=first|(simp;done)|omega|rfl) [-getElem?_pos,hr,h2,Ret,hW,hK]
def Yqd(hs:Sl h N v (strs l))(hl:l.length<100000)(rA:∀s∈l,s.length<=100000):Fn A.C 61 [v] h N (fun u _ _=>u=.int .i64 (ks l)):=by
 intro w
 have hlen:=hs.len
 rw[HZ]at hlen
 rw[aZ,A.k61 (by simp)]
 by_cases c0:l.length=0
 ·have c0':(l.length:Int)=0:=by omega
  have c1':¬13<(l.length:Int):=by omega
  have e1:ks l=12:=by simp[ks,c0]
  simp(disch:=first|(simp;done)|omega|rfl) [-getElem?_pos,A.b61,hlen,c0',wM,a_]
  refine av (Zqk hs hl rA) ?_
  rintro _ h1 n1 k1 rfl
  have hi:n1<n1+1:=by omega
  simp(disch:=first|(simp;done)|omega|rfl) [-getElem?_pos,aj,b_.chk,Zje hi,cN,a_,Ret,e1]
  exact k1.trans (aO ah.refl _)
 have c0':¬(l.length:Int)=0:=by omega
 have ne:¬l=[]:=fun h=>c0 (by rw[h];rfl)
 by_cases c1:13<l.length
 ·have c1':13<(l.length:Int):=by omega
  have e1:ks l=5:=by simp[ks,c0,c1]
  simp(disch:=first|(simp;done)|omega|rfl) [-getElem?_pos,A.b61,hlen,c0',ne,c1',wM,a_]
  refine av (Zqk hs hl rA) ?_
  rintro _ h1 n1 k1 rfl
  have hi:n1<n1+1:=by omega
  simp(disch:=first|(simp;done)|omega|rfl) [-getElem?_pos,aj,b_.chk,Zje hi,cN,a_,Ret,e1]
  exact k1.trans (aO ah.refl _)
 have c1':¬13<(l.length:Int):=by omega
 simp(disch:=first|(simp;done)|omega|rfl) [-getElem?_pos,A.b61,hlen,c0',ne,c1',wM,a_]
 refine av (Zqk hs hl rA) ?_
 rintro _ h1 n1 k1 rfl
 have hi:n1<n1+1:=by omega
 have kD:ah h N (h1.set n1 (.cells [.int .i64 0,.int .i64 0,.int .i64 (gV l)] 26 true)) (n1+1):=k1.trans (aO ah.refl _)
 obtain⟨s,gg⟩:=eQ (l:=l) (k:=l.length-1) (by omega)
 obtain⟨i,o,cc,e,rw,q1,q2,q3,q4⟩:=(hs.ai kD).at (KR gg)
 have d1:((l.length:Int)-1).toNat=l.length-1:=by omega
 have d2:(0:Int)<=(l.length:Int)-1:=by omega
 have d3:(l.length:Int)-1<(l.length:Int):=by omega
 by_cases ca:gV l=0
 ·have e1:ks l=if s=[48] then 6 else 0:=by simp[ks,c0,c1,ca,gg]
  rw[ca]at kD q3
  by_cases cz:s=[48]
  ·rw[e1,aR cz]
   simp(disch:=first|(simp;done)|omega|rfl) [-getElem?_pos,aj,b_.chk,Zje hi,cN,a_,ca,ne,hlen,q1,q2,q3,q4,d1,d2,d3,cz,wM,Ret]
   exact kD
  ·rw[e1,aA cz]
   simp(disch:=first|(simp;done)|omega|rfl) [-getElem?_pos,aj,b_.chk,Zje hi,cN,a_,ca,ne,hlen,q1,q2,q3,q4,d1,d2,d3,cz,wM,Ret]
   exact kD
 ·have e1:ks l=gV l:=by simp[ks,c0,c1,ca]
  rw[e1]
  simp(disch:=first|(simp;done)|omega|rfl) [-getElem?_pos,aj,b_.chk,Zje hi,cN,a_,ca,ne,Ret]
  exact kD
def Yp9(hs:Sl h N v (strs l))(hl:l.length<100000)(rA:∀s∈l,s.length<=100000):Fn A.C 9 [v] h N (fun u _ _=>u=.int .i64 (ks l)):=by
 intro w
 have hlen:=hs.len
 rw[HZ]at hlen
 rw[aZ,A.k9 (by simp)]
 by_cases c0:l.length=0
 ·have c0':(l.length:Int)=0:=by omega
  have e1:ks l=12:=by simp[ks,c0]
  simp(disch:=first|(simp;done)|omega|rfl) [-getElem?_pos,A.b9,hlen,c0',a_,Ret,e1]
  exact ah.refl
 have c0':¬(l.length:Int)=0:=by omega
 have ne:¬l=[]:=fun h=>c0 (by rw[h];rfl)
 by_cases c1:13<l.length
 ·have c1':13<(l.length:Int):=by omega
  have e1:ks l=5:=by simp[ks,c0,c1]
  simp(disch:=first|(simp;done)|omega|rfl) [-getElem?_pos,A.b9,hlen,c0',ne,c1',a_,Ret,e1]
  exact ah.refl
 have c1':¬13<(l.length:Int):=by omega
 simp(disch:=first|(simp;done)|omega|rfl) [-getElem?_pos,A.b9,hlen,c0',ne,c1',a_]
 refine av (Zx7 hs hl fun s h=>by have:=rA s h;omega) ?_
 rintro _ h1 n1 k1 rfl
 rw[show cN (l.map fun s=>((aV s:Nat):Int))=gV l from rfl]
 obtain⟨s,gg⟩:=eQ (l:=l) (k:=l.length-1) (by omega)
 obtain⟨i,o,cc,e,rw,q1,q2,q3,q4⟩:=(hs.ai k1).at (KR gg)
 have d1:((l.length:Int)-1).toNat=l.length-1:=by omega
 have d2:(0:Int)<=(l.length:Int)-1:=by omega
 have d3:(l.length:Int)-1<(l.length:Int):=by omega
 by_cases ca:gV l=0
 ·have e1:ks l=if s=[48] then 6 else 0:=by simp[ks,c0,c1,ca,gg]
  have hq:=(kr (Nh ca s (eI gg))).1
  have ez:s=[48]↔aY s=0:=by
   constructor
   ·intro hc;rw[<-hq,<-xI]at hc;exact Zh8 hc
   ·intro hc;rw[<-hq,hc,xI]
  rw[e1]
  simp only[ez]
  rw[<-hq]at q4
  clear e1 ez hq gg
  generalize aY s=q at*
  by_cases cz:q=0
  ·simp(disch:=first|(simp;done)|omega|rfl) [-getElem?_pos,a_,ca,hlen,q1,q2,q3,q4,d1,d2,d3,cz,Zsw,Ret]
   exact k1
  ·simp(disch:=first|(simp;done)|omega|rfl) [-getElem?_pos,a_,ca,hlen,q1,q2,q3,q4,d1,d2,d3,cz,Zsw,Ret]
   exact k1
 ·have e1:ks l=gV l:=by simp[ks,c0,c1,ca]
  rw[e1]
  simp(disch:=first|(simp;done)|omega|rfl) [-getElem?_pos,a_,ca,Ret]
  exact k1
variable {N m n:Nat} {h:T O}
def A.ziG:cC:=.seq (sr [mv 34 8,mv 35 7,ln 36 35,bi 37 .lss 34 36]
 (cd 37
 (.skip)
 (.exit 0)))
 (.block 1 (.eY [mv 38 8,mv 39 7,mv 40 8,ge 41 (.lY 4 (tq 39) (some (tq 40)) none none),mv 42 7,mv 43 8,ge 44 (.lY 4 (tq 42) none (some (tq 43)) none),ge 45 (.copy 4 (tq 41) (tq 44)),bi 46 .add 38 45,mv 8 46] [0,0,0,6,0,0,48,126,255,511]))
def A.b121:cC:=sr [mN 4]
 (.seq (sr [mv 9 1,bc 10 .lss 9 0]
 (cd 10
 (.fk [ge 11 (.fm 9 (.const (.str [99,97,110,110,111,116,32,98,101,32,110,101,103,97,116,105,118,101]))),gn (.stop)])
 (.skip)))
 (sr [mv 13 0,ln 14 13,ge 15 (.zig .u64 (tq 14)),mv 16 1,ge 17 (.zig .u64 (tq 16)),c2 18 185 15 17,mv 12 18,xt 19 12 0,xt 20 12 1,mv 5 19,mv 6 20]
 (.seq (sr [mv 21 5,ge 22 (.bin .gtr (.node []) false (tq 21) (.const (.int .u64 0))),mv 23 22,mh 24 6 23,gz 25 23 (.bin .gtr (.node []) false (tq 24) (.const (.int .u64 9223372036854775807))),pt 26 23 25]
 (cd 26
 (.fk [ge 27 (.fm 9 (.const (.str [116,104,101,32,114,101,115,117,108,116,32,111,102,32,40,108,101,110,40,120,41,32,42,32,99,111,117,110,116,41,32,111,118,101,114,102,108,111,119,115]))),gn (.stop)])
 (.skip)))
 (sr [mv 28 6,ge 29 (.zig .i64 (tq 28)),ge 30 (.jj 102 4 64 [.int .i64 0,.ziA,.int .i64 0,.ziA] (tq 29) (tq 29)),mv 7 30]
 (sr [mv 31 7,mv 32 0,ge 33 (.copy 4 (tq 31) (tq 32)),mv 8 33]
 (.seq (.block 0 (.loop A.ziG))
 (sr [mv 47 7,mv 4 47]
 (.ret))))))))
def A.k121:=@A.kk 121 48 [.tmp 4] A.b121 (by kernel_rfl) rfl
def Xao{z:List V}{n:Nat}:∀{m:Nat},dr z (m+n)=dr z m++dr z n
 |0=>by simp[dr]
 |m+1=>by rw[show m+1+n=(m+n)+1 by omega,KT,KT,Xao (m:=m),rB]
def jQ.dup{R r:Nat}{l ws:List Rat}{xs:List (List V)}(s:jQ h N R l (m+r))(hx:xs.length=m)(hm:ws.length=m)(hw:∀(j:Nat) (q:Rat),ws[j]?=some q->∃c,xs[j]?=some c/\fz h N c q):∃X,h.get R=some (.cells X 102 true)/\l.length*4+m*4<=X.length/\jQ (h.set R (.cells (aj X (l.length*4) xs.flatten) 102 true)) N R (l++ws) r:=by
 obtain⟨cs,g1,g2,g3⟩:=s.ex
 obtain⟨f1,f2,_⟩:=jQ.RG g2 g3
 obtain⟨y1,y2,_⟩:=jQ.RG (l:=ws) (by omega) hw
 have oX:=Zbj f1
 have OV:=Zbj y1
 have hsp:aj (cs.flatten++dr zF (m+r)) (l.length*4) xs.flatten=(cs++xs).flatten++dr zF r:=by
  rw[Xao,Sd (n:=m*4) (by rw[oX,g2]) (Ykc m) (by rw[OV,hx]),List.flatten_append,rB]
 have Dc:sY (cs.flatten++dr zF (m+r)):=f2.app Ni
 have yD:((cs++xs).flatten++dr zF r).length=(cs.flatten++dr zF (m+r)).length:=by
  rw[Xao,List.flatten_append];simp[Ykc,OV,hx]
 refine⟨_,g1,by rw[iJ,oX,g2,Ykc];omega,s.lt,cs++xs,by rw[T.al,aR rfl,hsp],by simp[g2,hx,hm],fun j q hq=>?_⟩
 rw[hsp]
 by_cases e:j<l.length
 ·rw[xJ e]at hq
  obtain⟨x,a,b⟩:=g3 j q hq
  exact⟨x,by rw[xJ (by omega)];exact a,b.ay g1 Dc yD⟩
 ·rw[Ig (by omega)]at hq
  obtain⟨x,a,b⟩:=hw _ q hq
  exact⟨x,by rw[Ig (by omega),g2];exact a,b.ay g1 Dc yD⟩
def Xd8{w:List Nat}{i o:Nat}{cp:Option Nat}{c xs:List V}{e:TypeId}{s:V}(hn:0<n)(hm:0<m)(hs:oL ⟨h,N,w⟩ 4 s=some (m,xs))(hg:h.get i=some (.cells c e true))(hc:o+min m n*4<=c.length):Yrd ⟨h,N,w⟩ 4 (some (.slice i o n cp 4)) (some s)=some (.int .i64 (min m n:Nat),⟨h.set i (.cells (aj c o (xs.take (min m n*4))) e true),N,i::w⟩):=by
 have h0:¬min m n=0:=by omega
 simp only[Yrd,DQ,Src.ev,hs,St.row,hg]
 rw[aA (by omega),aA h0,aR hc]
 rfl
def Xhf{k:Nat}{q:Rat}:List.replicate k q++List.replicate m q=List.replicate (k+m) q:=List.replicate_append_replicate
def Xh7{i:Nat}{q:Rat}{c:List V}{e:TypeId}{rw:Bool}(hi:i<N)(hg:h.get i=some (.cells c e rw))(hc:fz h N c q)(hn:n<1000)(h0:0<n):Fn A.C 121 [.slice i 0 1 (some 1) 4,.int .i64 n] h N (fun x h' n'=>x=.slice N 0 n (some n) 4/\jQ h' n' N (List.replicate n q) 0):=by
 intro w
 have c1:(64:Int)*(n:Int)<=140737488355328:=by omega
 have c2:(n:Int)<4611686018427387904:=by omega
 have e1:cG (1*n)=0:=by unfold cG;omega
 have e2:bJ (1*n)=n:=by unfold bJ;omega
 have a1:¬(n:Int)<0:=by omega
 have w1:bA .u64 (1:Int)=((1:Nat):Int):=Ej (by omega) (by omega)
 have wn:bA .u64 (n:Int)=(n:Int):=Ej (by omega) (by omega)
 have a2:¬(9223372036854775807:Int)<(n:Int):=by omega
 rw[aZ,A.k121 (by simp)]
 simp(disch:=first|(simp;done)|omega|rfl) [-getElem?_pos,A.b121,a1,w1,wn]
 refine av (Yow (x:=1) (y:=n) (by omega) (by omega)) ?_
 rintro _ h N _ ⟨rfl,rfl,rfl⟩
 rw[e1,e2]
 have d1:¬i=N:=by omega
 obtain⟨l4,_⟩:=hc.len
 have k0:ah h N (h.set N (.cells (dr zF n) 102 true)) (N+1):=ah.refl.new _
 have s0:jQ (h.set N (.cells (dr zF n) 102 true)) (N+1) N [] (1+(n-1)):=⟨by omega,[],by rw[T.al,aR rfl,show 1+(n-1)=n by omega];rfl,rfl,fun j q hq=>by simp at hq⟩
 obtain⟨X,x1,x2,x3⟩:=s0.dup (xs:=[c]) (ws:=[q]) rfl rfl fun j y hy=>by
  obtain⟨rfl,rfl⟩:j=0/\q=y:=by
   have:=yz hy
   have h0:j=0:=by simpa using this
   subst h0;simpa using hy
  exact⟨c,rfl,hc.ai k0⟩
 have gi:(h.set N (.cells (dr zF n) 102 true)).get i=some (.cells c e rw):=by rw[T.al,aA d1];exact hg
 have zhS:∀w,oL ⟨h.set N (.cells (dr zF n) 102 true),N+1,w⟩ 4 (.slice i 0 1 (some 1) 4)=some (1,c):=fun w=>by
  simp only[oL,if_true,St.row,gi,aK]
  simp[l4]
  exact jP (by omega)
 have hcp:=fun w=>Xd8 (w:=w) (i:=N) (o:=0) (n:=n) (cp:=some n) h0 (by decide) (zhS w) x1 (by simp at x2 ⊢;omega)
 have oQ:min 1 n=1:=by omega
 have oX:(c.take (1*4))=c:=by rw[jP (by omega)]
 simp only[oQ,oX]at hcp
 simp only[List.length_nil,Nat.zero_mul,List.flatten_cons,List.flatten_nil,AP,List.nil_append]at x3
 have k1:ah h N ((h.set N (.cells (dr zF n) 102 true)).set N (.cells (aj X 0 c) 102 true)) (N+1):=k0.set (Yv5 _)
 have hz:dr zF n=dr [V.int .i64 0,V.ziA,V.int .i64 0,V.ziA] n:=rfl
 rw[hz]at hcp x3 k1
 simp(disch:=first|(simp;done)|omega|rfl) [-getElem?_pos,c1,c2,a1,a2,hcp]
 generalize (h.set N (.cells (dr [V.int .i64 0,V.ziA,V.int .i64 0,V.ziA] n) 102 true)).set N (.cells (aj X 0 c) 102 true)=G at*
 refine Zal [(8,8),(34,46)] (fun e r st=>e=.exit 0/\aL N st.w=[]/\ah h N st.h st.n/\jQ st.h st.n N (List.replicate n q) 0) (fun m r st=>aL N st.w=[]/\ah h N st.h st.n/\m<=n/\∃k,0<k/\k+m=n/\r.get 8=some (.int .i64 k)/\jQ st.h st.n N (List.replicate k q) m) (n-1) ?_ ?_ ?_
 ·exact⟨by simp,k1,by omega,1,by omega,by omega,by simp,x3⟩
 ·rintro m r ⟨H,n1,W⟩ hr hf ⟨hW,hK,hmn,k,sW,hkm,h8,hQ⟩
  simp only at hW hK hQ
  rw[cn]
  have lN:=hQ.lt
  by_cases uD:m=0
  ·subst uD
   obtain rfl:k=n:=by omega
   simp(disch:=first|(simp;done)|omega|rfl) [-getElem?_pos,A.ziG,hr,hf,h8,hW,hK]
   exact hQ
  ·have aW:k<n:=by omega
   have zij:(k:Int)<(n:Int):=by omega
   obtain⟨t,ht⟩:∃t,t=min k m:=⟨_,rfl⟩
   obtain⟨r0,kh⟩:∃r0,m=t+r0:=⟨m-t,by omega⟩
   have hQ':=hQ
   rw[kh]at hQ'
   obtain⟨cs,g1,g2,g3⟩:=hQ.ex
   simp only[List.length_replicate]at g2
   obtain⟨f1,_,_⟩:=jQ.RG (l:=List.replicate k q) (by simpa using g2) g3
   have oX:=Zbj f1
   obtain⟨Y,y1,y2,y3⟩:=hQ'.dup (xs:=cs.take t) (ws:=List.replicate t q) (by simp;omega) (by simp) fun j y hy=>by
    have hj:=yz hy
    simp at hj
    obtain⟨c',a,b⟩:=g3 j q (by rw[List.getElem?_replicate,aR (by omega)])
    rw[List.getElem?_replicate,aR hj]at hy
    simp only[au]at hy
    subst hy
    exact⟨c',by rw[kW,aR hj];exact a,b⟩
   rw[y1]at g1
   simp only[au,O.cells.injEq,and_true]at g1
   rw[Xhf]at y3
   simp only[List.length_replicate]at y2 y3
   have hsr:∀w,oL ⟨H,n1,w⟩ 4 (.slice N 0 k (some n) 4)=some (k,cs.flatten):=fun w=>by
    simp only[oL,if_true,St.row,y1,aK,g1]
    rw[aR (by rw[iJ,oX,g2];omega),Au,List.take_left' (by rw[oX,g2])]
   have hcp:=fun w=>Xd8 (w:=w) (i:=N) (o:=k*4) (n:=n-k) (cp:=some (n-k)) (by omega) sW (hsr w) y1 (by omega)
   have hmt:min k (n-k)=t:=by omega
   have htk:cs.flatten.take (t*4)=(cs.take t).flatten:=by
    conv=>lhs;rw[<-AO t cs,List.flatten_append]
    rw[List.take_left' (by rw[Zbj (z:=4) fun y hy=>f1 y (BR hy)];simp;omega)]
   simp only[hmt,htk]at hcp
   have b1:(k:Int)<=(n:Int):=by omega
   have s1:∀w,oM ⟨H,n1,w⟩ 4 (some (.slice N 0 n (some n) 4)) (some (some (.int .i64 k))) (some none) (some none)=some (.slice N (k*4) (n-k) (some (n-k)) 4,⟨H,n1,w⟩):=fun w=>by
    simp[oM,qH,aH,dG,Zed,Src.ev,show k<=n by omega,show ¬n=k by omega]
   have s2:∀w,oM ⟨H,n1,w⟩ 4 (some (.slice N 0 n (some n) 4)) (some none) (some (some (.int .i64 k))) (some none)=some (.slice N 0 k (some n) 4,⟨H,n1,w⟩):=fun w=>by
    simp[oM,qH,aH,dG,Zed,Src.ev,show k<=n by omega,show ¬n=k by omega]
   simp(disch:=first|(simp;done)|omega|rfl) [-getElem?_pos,A.ziG,hr,hf,h8,aW,zij,b1,Nb,s1,s2,hcp]
   have lN1:N<n1:=lN
   refine⟨r0,by omega,by simp[lN1,aL,hW],hK.set (Yv5 _),by omega,k+t,by omega,by omega,by simp,y3⟩
 ·rintro _ r ⟨H,n1,W⟩ hr ⟨rfl,hW,hK,hQ⟩
  simp only at hW hK hQ
  simp(disch:=first|(simp;done)|omega|rfl) [-getElem?_pos,hr,hW,hK,Ret]
  exact hQ
variable {a b:List Rat} {x:Rat}
def A.w69:=A.q Tryz.f69
def A.zgP:=A.ql A.w69 0 []
def A.b69:=(fun x0=>A.qb A.w69 [x0]) A.zgP
def A.k69:=@A.kk 69 34 [.tmp 4] A.b69 (by kernel_rfl) rfl
def pwR(x:Rat):Nat->Rat
 |0=>1
 |k+1=>pwR x k*x
def Xae(p:List Rat)(x:Rat):List Rat:=(List.range p.length).map fun k=>(p[k]?.getD 0)*pwR x k
def Xbk(a b:List Rat)(t:Nat):List Rat:=a.take t++b.drop t
def Yz1{p:List Rat}:(Xae p x).length=p.length:=by simp[Xae]
def Xag{p:List Rat}{q:Rat}{t:Nat}(h:p[t]?=some q):(Xae p x)[t]?=some (q*pwR x t):=by
 have ht:=yz h
 obtain⟨_,e⟩:=AM.1 h
 simp[Xae,ht,e]
def Xdj{t:Nat}(h:a.length=b.length)(ht:t<=b.length):(Xbk a b t).length=b.length:=by simp[Xbk];omega
def Xdk{t:Nat}{q:Rat}(h:a.length=b.length)(hq:b[t]?=some q):(Xbk a b t)[t]?=some q:=by
 have:=yz hq
 unfold Xbk
 rw[Ig (by simp;omega),gH,j9,oW (by omega),Nat.sub_self,mY,hq]
def Xdi{t:Nat}{q:Rat}(h:a.length=b.length)(hq:a[t]?=some q):(Xbk a b t).set t q=Xbk a b (t+1):=by
 have ht:=yz hq
 obtain⟨_,e⟩:=AM.1 hq
 unfold Xbk
 rw[List.set_append_right _ _ (by simp;omega),j9,oW (by omega),Nat.sub_self,HQ,hq,rB]
 congr 1
 rw[IC (by omega:t<b.length)]
 rfl
def Xd5:Xbk a b 0=b:=by simp[Xbk]
def Xdl(h:a.length=b.length):Xbk a b b.length=a:=by
 unfold Xbk
 rw[xD,AP,jP (by omega)]
def Xa8{x:Rat}{k:Nat}(hx:Qb k x):∀t,Qb (t*k+1) (pwR x t)
 |0=>(Qb.int (z:=1) (k:=1) (by decide) (by decide)).mono (by omega)
 |t+1=>((Xa8 hx t).mul hx).mono (by rw[ku];omega)
def jQ.zhR{h:T O}{N R m B:Nat}{l:List Rat}{c0 c1:List V}{e0 e1:TypeId}{w0 w1:Bool}(s:jQ h N R l m)(g:h.get B=some (.cells c0 e0 w0))(hn:sY c0)(hc:c1.length=c0.length)(hB:¬B=R):jQ (h.set B (.cells c1 e1 w1)) N R l m:=by
 obtain⟨cs,g1,g2,g3⟩:=s.ex
 refine⟨s.lt,cs,by rw[T.al,aA (fun hc=>hB hc.symm)];exact g1,g2,fun j q hq=>?_⟩
 obtain⟨c,a,b⟩:=g3 j q hq
 exact⟨c,a,b.ay g hn hc⟩
def Ia{c:List V}(h:c.length=4):aK c 0 4=some c:=by unfold aK;rw[h];simp;exact jP (by omega)
def BD{c d:List V}(h:c.length=4)(hd:d.length=4):aj d 0 c=c:=by unfold aj;rw[h];simp[h,hd]
def Xbr{h:T O}{N k j:Nat}{v y:V}{p:List Rat}(hs:Al h N v p)(hx:Fc h N y x)(bp:∀q∈p,Qb j q)(bx:Qb k x)(hl:p.length<=100)(h0:0<p.length)(hj:j<=100000000)(hk:k<=100000):Fn A.C 69 [v,y] h N (fun z h' n'=>Al h' n' z (Xae p x)):=by
 intro w
 obtain⟨c,rfl,hc⟩:=hx.c
 obtain⟨c1,c2⟩:=hc.len
 have lO:∀c:List V,(V.agg c).cells=c:=fun _=>rfl
 have lv:=hs.1.len
 obtain⟨cs,q1,q2,q3⟩:=hs.1
 have k0:ah h N (h.set N (.cells c 102 true)) (N+1):=ah.refl.new _
 have k1:ah h N ((h.set N (.cells c 102 true)).set (N+1) (.cells (dr zF p.length) 102 true)) (N+1+1):=k0.new _
 have s0:jQ ((h.set N (.cells c 102 true)).set (N+1) (.cells (dr zF p.length) 102 true)) (N+1+1) (N+1) [] (p.length+0):=⟨by omega,[],by rw[T.al,aR rfl];rfl,rfl,fun j q hq=>by simp at hq⟩
 obtain⟨X,x1,x2,x3⟩:=s0.dup (xs:=cs) (ws:=p) q2 rfl fun i q hq=>by
  obtain⟨c',a,b⟩:=q3 i q hq
  exact⟨c',a,b.ai k1⟩
 have zhS:=fun w=>Xbn (w:=w) (q1.ai k1)
 have hcp:=fun w=>Xd8 (w:=w) (i:=N+1) (o:=0) (n:=p.length) (cp:=some p.length) h0 (by omega) (zhS w) x1 (by simp at x2 ⊢;omega)
 obtain⟨f1,_,_⟩:=jQ.RG q2 q3
 have oQ:min cs.length p.length=p.length:=by omega
 have oX:cs.flatten.take (p.length*4)=cs.flatten:=jP (by rw[Zbj f1];omega)
 simp only[oQ,oX]at hcp
 simp only[List.length_nil,Nat.zero_mul,List.nil_append]at x3
 have gN:(((h.set N (.cells c 102 true)).set (N+1) (.cells (dr zF p.length) 102 true)).set (N+1) (.cells (aj X 0 cs.flatten) 102 true)).get N=some (.cells c 102 true):=by simp
 have k2:ah h N (((h.set N (.cells c 102 true)).set (N+1) (.cells (dr zF p.length) 102 true)).set (N+1) (.cells (aj X 0 cs.flatten) 102 true)) (N+1+1):=k1.set (by omega)
 have cc1:(64:Int)*(p.length:Int)<=140737488355328:=by omega
 have cc2:(p.length:Int)<4611686018427387904:=by omega
 have hz:∀n,dr zF n=dr [V.int .i64 0,V.ziA,V.int .i64 0,V.ziA] n:=fun _=>rfl
 rw[hz]at hcp x3 gN k2
 rw[aZ,A.k69 (by simp)]
 simp(disch:=first|(simp;done)|omega|rfl) [-getElem?_pos, -V.cells, -V.one,A.b69,lO,c1,c2,lv,cc1,cc2,hcp]
 generalize ((h.set N (.cells c 102 true)).set (N+1) (.cells (dr [V.int .i64 0,V.ziA,V.int .i64 0,V.ziA] p.length) 102 true)).set (N+1) (.cells (aj X 0 cs.flatten) 102 true)=G at*
 refine av (BI (z:=1) (by decide) (by decide)) ?_
 rintro _ h3 n3 k3 h1
 obtain⟨c3,rfl,hc3⟩:=h1.c
 obtain⟨e31,e32⟩:=hc3.len
 have KU:=k3.le
 have e4:=BD (d:=zF) e31 rfl
 unfold zF at e4
 have kB:ah h3 n3 ((h3.set n3 (.cells [.int .i64 0,.ziA,.int .i64 0,.ziA] 102 true)).set n3 (.cells c3 102 true)) (n3+1):=(ah.refl.new _).set (Yv5 _)
 have gB:((h3.set n3 (.cells [.int .i64 0,.ziA,.int .i64 0,.ziA] 102 true)).set n3 (.cells c3 102 true)).get n3=some (.cells c3 102 true):=by simp
 simp(disch:=first|(simp;done)|omega|rfl) [-getElem?_pos, -V.cells, -V.one,lO,e31,e32,bM,e4]
 generalize (h3.set n3 (.cells [.int .i64 0,.ziA,.int .i64 0,.ziA] 102 true)).set n3 (.cells c3 102 true)=H4 at*
 refine Zal [(7,7),(17,32)] (fun e r st=>e=.exit 0/\aL N st.w=[]/\ah h N st.h st.n/\jQ st.h st.n (N+1) (Xae p x) 0) (fun m r st=>aL N st.w=[]/\ah h N st.h st.n/\n3<st.n/\st.h.get N=some (.cells c 102 true)/\fz st.h st.n c x/\∃t,t+m=p.length/\r.get 17=some (.int .i64 t)/\∃cf,st.h.get n3=some (.cells cf 102 true)/\fz st.h st.n cf (pwR x t)/\jQ st.h st.n (N+1) (Xbk (Xae p x) p t) 0) p.length ?_ ?_ ?_
 ·exact⟨by simp;omega,(k2.trans k3).trans kB,by show n3<n3+1;omega,(kB.get N (by omega)).trans ((k3.get N (by omega)).trans gN),((hc.ai k2).ai k3).ai kB,0,by omega,by simp,c3,gB,hc3.ai kB,by rw[Xd5];exact(x3.ai k3).ai kB⟩
 ·rintro m r ⟨H,n1,W⟩ hr hf ⟨hW,hK,hB,g0,hcx,t,ht,Un,cf,gF,hcf,hQ⟩
  simp only at hW hK hB g0 hcx gF hcf hQ
  rw[cn]
  cases m with
  |zero=>
   obtain rfl:t=p.length:=by omega
   rw[Xdl Yz1]at hQ
   simp(disch:=first|(simp;done)|omega|rfl) [-getElem?_pos,A.zgP,hr,hf,Un,hW,hK]
   exact hQ
  |succ m=>
   have aW:t<p.length:=by omega
   have zij:(t:Int)<(p.length:Int):=by omega
   obtain⟨q,hq⟩:=eQ aW
   obtain⟨cs0,y1,_,_⟩:=hQ.ex
   obtain⟨ct,s1,fct⟩:=hQ.at (Xdk Yz1 hq) y1
   obtain⟨z1,z2⟩:=fct.len
   obtain⟨f31,f32⟩:=hcf.len
   have sf:=Ia f31
   have sc:=Ia c1
   have lR:=hQ.lt
   have wq:=(bp q (eI hq)).eX
   have bw:=Xa8 bx t
   have wb:=bw.eX
   have wx:=bx.eX
   have hkt:t*k+1<=100000001:=by
    have:t*k<=100*100000:=tU (by omega) hk
    omega
   generalize cs0.flatten++dr zF 0=X0 at*
   simp(disch:=first|(simp;done)|omega|rfl) [-getElem?_pos, -V.cells, -V.one,A.zgP,hr,hf,Un,aW,zij,y1,s1,gF,hB,lR,aI,sf]
   refine av (KZ fct.up hcf.up (by omega) (by omega) (by omega) (by omega)) ?_
   rintro _ h5 n5 k5 hm5
   obtain⟨c5,rfl,hc5⟩:=hm5.c
   obtain⟨e51,e52⟩:=hc5.len
   have le5:=k5.le
   obtain⟨Y,p1,p2,p3⟩:=(hQ.ai k5).put hc5 (j:=t) (by rw[Xdj Yz1 (by omega)];exact aW)
   rw[Xdi Yz1 (Xag hq)]at p3
   have lR5:N+1<n5:=by omega
   have lB5:n3<n5:=by omega
   have lN5:N<n5:=by omega
   have nuY:=jQ.nou (hQ.ai k5) p1
   have slY:(aj Y (t*4) c5).length=Y.length:=Jx (by omega)
   have gF5:=(k5.get n3 hB).trans gF
   have g05:=(k5.get N (by omega)).trans g0
   have zhT:¬n3=N+1:=by omega
   have zia:¬N=N+1:=by omega
   simp(disch:=first|(simp;done)|omega|rfl) [-getElem?_pos, -V.cells, -V.one,hr,hf,lO,e51,e52,bM,p1,p2,lR5,aW,zij,gF5,g05,lB5,lN5,zhT,aI,sf,sc]
   have zhU:=(hcf.ai k5).ay (c1:=aj Y (t*4) c5) (e1:=102) (w1:=true) p1 nuY slY
   have zhC:=(hcx.ai k5).ay (c1:=aj Y (t*4) c5) (e1:=102) (w1:=true) p1 nuY slY
   have gF6:(h5.set (N+1) (.cells (aj Y (t*4) c5) 102 true)).get n3=some (.cells cf 102 true):=by rw[T.al,aA (by omega)];exact gF5
   have g06:(h5.set (N+1) (.cells (aj Y (t*4) c5) 102 true)).get N=some (.cells c 102 true):=by rw[T.al,aA (by omega)];exact g05
   have K6:ah h N (h5.set (N+1) (.cells (aj Y (t*4) c5) 102 true)) n5:=(hK.trans k5).set (by omega)
   generalize h5.set (N+1) (.cells (aj Y (t*4) c5) 102 true)=H6 at*
   refine av (KZ zhU.up zhC.up (by omega) (by omega) (by omega) (by omega)) ?_
   rintro _ h7 n7 k7 hm7
   obtain⟨c7,rfl,Vr⟩:=hm7.c
   obtain⟨e71,e72⟩:=Vr.len
   have le7:=k7.le
   have gF7:=(k7.get n3 lB5).trans gF6
   have g07:=(k7.get N lN5).trans g06
   have lB7:n3<n7:=by omega
   have e7:=BD (d:=cf) e71 f31
   have l7:4<=cf.length:=by omega
   simp(disch:=first|(simp;done)|omega|rfl) [-getElem?_pos, -V.cells, -V.one,hr,hf,Un,lO,e71,e72,bM,gF7,lB7,e7,l7]
   have nuF:=hcf.Sk
   have s7:c7.length=cf.length:=by omega
   refine⟨m,by omega,?_,(K6.trans k7).set (by omega),by rw[aA (by omega)];exact g07,(zhC.ai k7).ay gF7 nuF s7,t+1,by omega,by simp,Vr.ay gF7 nuF s7,(p3.ai k7).zhR gF7 nuF s7 (by omega)⟩
   simp[aL,hW];omega
 ·rintro _ r ⟨H,n1,W⟩ hr ⟨rfl,hW,hK,hQ⟩
  simp only at hW hK hQ
  have fin:=hQ.frt
  rw[Yz1]at fin
  simp(disch:=first|(simp;done)|omega|rfl) [-getElem?_pos,hr,hW,hK,Ret]
  exact fin
variable {l:List bj}
def A.b62:=A.q Tryz.f62
def A.k62:=@A.kk 62 5 [.tmp 2] A.b62 (by kernel_rfl) rfl
def Zvp{h:T O}{N:Nat}{v:V}{l:List Rat}{k0:Nat}(hs:Sl h N v (tx l))(hl:l.length<1000000000)(hq:∀q∈l,Qb k0 q)(sW:k0<=4000):Fn A.C 125 [v] h N (fun u h' n'=>u=.slice N 0 l.length (some l.length) 4/\jQ h' n' N l 0):=by
 intro w
 have hlen:=hs.len
 rw[Sb]at hlen
 have c1:(64:Int)*(l.length:Int)<=140737488355328:=by omega
 have c2:(l.length:Int)<4611686018427387904:=by omega
 have kB:ah h N (h.set N (.cells (dr zF l.length) 102 true)) (N+1):=ah.refl.new _
 rw[aZ,A.k125 (by simp)]
 simp(disch:=first|(simp;done)|omega|rfl) [-getElem?_pos,A.b125,hlen,c1,c2]
 refine Zal [(4,5),(11,21)] (fun e r st=>e=.exit 0/\FaI h N l 0 r st) (FaI h N l) l.length ?_ ?_ ?_
 ·exact⟨by simp,kB,0,[],by omega,by simp,by simp,by show N<N+1;omega,by rw[T.al,aR rfl];rfl,rfl,fun j q hj=>by omega⟩
 ·rintro m r ⟨H,n1,W⟩ hr hf ⟨hW,hK,k,cs,hk,jR,h3,tW,hM,dW,sX⟩
  simp only at hW hK hM tW sX
  rw[cn]
  cases m with
  |zero=>
   obtain rfl:k=l.length:=by omega
   simp(disch:=first|(simp;done)|omega|rfl) [-getElem?_pos,A.pT,hr,hf,jR]
   exact⟨hW,hK,l.length,cs,by omega,by simp[jR],by simp[h3],tW,hM,dW,sX⟩
  |succ m=>
   have aW:k<l.length:=by omega
   have zij:(k:Int)<(l.length:Int):=by omega
   obtain⟨q,Ib⟩:=eQ aW
   have Ic:=hq q (eI Ib)
   obtain⟨i,o,cc,e,rw,q1,q2,q3,q4⟩:=(hs.ai hK).at (Ykf Ib)
   have la:=BE Ic.1
   have la2:=Ie Ic.2
   simp(disch:=first|(simp;done)|omega|rfl) [-getElem?_pos,A.pT,hr,hf,jR,h3,aW,zij,hlen,q1,q3,q4]
   refine av (Ye6 (q:=q) (by omega) (by omega)) ?_
   rintro _ H2 n2 k2 ik
   obtain⟨c,rfl,hc⟩:=ik.c
   have oH:=k2.le
   have gW:=hK.le
   have tX:=(k2.get N tW).trans hM
   have zdX:∀(j:Nat) (q:Rat),j<cs.length->l[j]?=some q->∃c,cs[j]?=some c/\fz H2 n2 c q:=fun j q hj hq=>by
    obtain⟨c,g1,g2⟩:=sX j q (by omega) hq
    exact⟨c,g1,g2.ai k2⟩
   obtain⟨f1,f2,f3⟩:=Zvs (l:=l) (by omega) zdX
   have oX:=Zbj f1
   obtain⟨e1,e2⟩:=hc.len
   have hsp:aj (cs.flatten++dr zF (m+1)) (k*4) c=(cs++[c]).flatten++dr zF m:=by
    rw[KT,Sd (n:=4) (by rw[oX,dW]) rfl e1,Se,rB]
   have hb:k*4+4<=(cs.flatten++dr zF (m+1)).length:=by
    rw[iJ,oX,Ykc];omega
   have lO:(V.agg c).cells=c:=rfl
   have Dc:sY (cs.flatten++dr zF (m+1)):=f2.app Ni
   have yC:((cs++[c]).flatten++dr zF m).length=(cs.flatten++dr zF (m+1)).length:=by
    rw[KT,Se];simp[e1,zF];omega
   generalize cs.flatten++dr zF (m+1)=X at*
   obtain⟨Y,hY⟩:∃Y,(cs++[c]).flatten++dr zF m=Y:=⟨_,rfl⟩
   rw[hY]at hsp yC
   simp(disch:=first|(simp;done)|omega|rfl) [-getElem?_pos, -V.cells, -V.one,hr,hf,jR,h3,aW,zij,tX,bM,lO,e1,e2,hb,hsp]
   have lP:¬N<N:=by omega
   refine⟨m,by omega,⟨by simp[aL,hW],(hK.trans k2).set (Yv5 N),k+1,cs++[c],by omega,by simp,by simp[h3],by show N<n2;omega,by show T.get _ N=_;rw[T.al,aR rfl,hY],by simp[dW],fun j q' hj Sf=>?_⟩⟩
   by_cases Az:j<k
   ·obtain⟨c',g1,g2⟩:=sX j q' Az Sf
    exact⟨c',by rw[xJ (by omega)];exact g1,(g2.ai k2).ay tX Dc yC⟩
   ·obtain rfl:j=k:=by omega
    rw[Ib]at Sf
    simp only[au]at Sf
    subst Sf
    exact⟨c,by rw[Ig (by omega),dW];simp,hc.ay tX Dc yC⟩
 ·rintro _ r ⟨H,n1,W⟩ hr ⟨rfl,hW,hK,k,cs,hk,jR,h3,tW,hM,dW,sX⟩
  simp only at hW hK hM tW sX
  obtain rfl:k=l.length:=by omega
  simp(disch:=first|(simp;done)|omega|rfl) [-getElem?_pos,hr,h3,Ret,hW,hK]
  have hz:dr zF 0=[]:=by simp[dr]
  obtain⟨f1,_,_⟩:=Zvs (l:=l) (by omega) (fun j q hj hq=>sX j q (by omega) hq)
  have oX:=Zbj f1
  exact⟨tW,cs,hM,dW,fun j q hq=>sX j q (yz hq) hq⟩
def Yhs{h:T O}{N:Nat}{v:V}{l:List Rat}{k0:Nat}(hs:Sl h N v (tx l))(hl:l.length<1000000000)(hq:∀q∈l,Qb k0 q)(sW:k0<=4000):Fn A.C 62 [v] h N (fun u h' n'=>u=.slice N 0 l.length (some l.length) 4/\jQ h' n' N l 0):=by
 intro w
 rw[aZ,A.k62 (by simp)]
 simp(disch:=first|(simp;done)|omega|rfl) [-getElem?_pos,A.b62]
 refine av (Zvp hs hl hq sW) ?_
 rintro _ h1 n1 k1 ⟨rfl,hu⟩
 simp(disch:=first|(simp;done)|omega|rfl) [-getElem?_pos,Ret]
 exact⟨k1,hu⟩
def ziB(l:List bj):List Rat:=l.map aY
def Ymk(h:gV l=0):strs l=tx (ziB l):=by
 unfold tx ziB
 congr 1
 rw[List.map_map]
 conv=>lhs;rw[<-List.map_id l]
 apply Nj
 intro s hs
 exact((kr (Nh h s hs)).1).symm
def Xfa{n:Nat}(h:gV l=0)(hl:∀s∈l,s.length<=n):∀q∈ziB l,Qb (4*n+4) q:=fun q hq=>by
 obtain⟨s,hs,rfl⟩:=vo.1 hq
 exact yB (Nh h s hs) (hl s hs)
def Yht{l:List bj}:(ziB l).length=l.length:=by simp[ziB]
def Yti(h:ks l=0):0<l.length/\l.length<=13/\gV l=0/\pg (ziB l) (l.length-1)≠0:=by
 unfold ks at h
 split at h
 ·omega
 rename_i h0
 split at h
 ·omega
 rename_i h1
 split at h
 ·rename_i ha
  split at h
  ·omega
  rename_i hz
  refine⟨by omega,by omega,ha,fun hc=>hz ?_⟩
  obtain⟨s,hs⟩:=eQ (l:=l) (k:=l.length-1) (by omega)
  have e:pg (ziB l) (l.length-1)=aY s:=by simp[pg,ziB,hs]
  rw[e]at hc
  rw[hs,<-(kr (Nh ha s (eI hs))).1,hc,xI]
 ·omega
def Xgw(out:List Rat)(a:Rat)(q:List Rat)(i:Nat):Nat->List Rat
 |0=>out
 |k+1=>(Xgw out a q i k).set (i+k) (pg (Xgw out a q i k) (i+k)+a*pg q k)
def Xgh(p q:List Rat):Nat->List Rat
 |0=>List.replicate (p.length+q.length-1) 0
 |i+1=>Xgw (Xgh p q i) (pg p i) q i q.length
def Xgd(p q:List Rat):List Rat:=Xgh p q p.length
def Xf2{out:List Rat}{a:Rat}{q:List Rat}{i:Nat}:∀{k:Nat},(Xgw out a q i k).length=out.length
 |0=>rfl
 |k+1=>by rw[Xgw,xL,Xf2]
def Xf0{p q:List Rat}:∀{i:Nat},(Xgh p q i).length=p.length+q.length-1
 |0=>by simp[Xgh]
 |i+1=>by rw[Xgh,Xf2,Xf0]
def Xgm{out:List Rat}{a:Rat}{q:List Rat}{i B A K:Nat}(ho:∀y∈out,Qb B y)(ha:Qb A a)(hq:∀y∈q,Qb K y):∀{k:Nat},k<=q.length->i+k<=out.length->∀(j:Nat) (y:Rat),(Xgw out a q i k)[j]?=some y->Qb (if j<i+k then B+(A+K)+1 else B) y
 |0,_,_,j,y,hy=>(ho y (eI hy)).mono (by split<;>omega)
 |k+1,hk,hi,j,y,hy=>by
  have ih:=Xgm ho ha hq (i:=i) (k:=k) (by omega) (by omega)
  rw[Xgw]at hy
  by_cases hj:j=i+k
  ·subst hj
   rw[lM (by rw[Xf2];omega)]at hy
   simp only[au]at hy
   have h1:=ih (i+k) _ (iy (p:=Xgw out a q i k) (i:=i+k) (by rw[Xf2];omega))
   rw[aA (by omega)]at h1
   rw[aR (by omega),<-hy]
   exact(h1.add (ha.mul (hq _ (eI (iy (p:=q) (i:=k) (by omega)))))).mono (by omega)
  ·rw[eJ (Ne.symm hj)]at hy
   have h1:=ih j y hy
   by_cases hc:j<i+k
   ·rw[aR hc]at h1;rw[aR (by omega)];exact h1
   ·rw[aA hc]at h1;rw[aA (by omega)];exact h1
def Xgl{p q:List Rat}{A K:Nat}(hp:∀y∈p,Qb A y)(hq:∀y∈q,Qb K y)(h0:0<q.length):∀{i:Nat},i<=p.length->∀y∈Xgh p q i,Qb (1+i*(A+K+1)) y
 |0,_,y,hy=>by
  have:=List.eq_of_mem_replicate hy
  subst this
  exact(Qb.int (z:=0) (k:=1) (by decide) (by decide)).mono (by omega)
 |i+1,hi,y,hy=>by
  have ih:=Xgl hp hq h0 (i:=i) (by omega)
  obtain⟨j,hj⟩:=Nd hy
  rw[Xgh]at hj
  have:=Xgm ih (hp _ (eI (iy (p:=p) (i:=i) (by omega)))) hq (k:=q.length) (Yv5 _) (by rw[Xf0];omega) j y hj
  refine this.mono ?_
  rw[ku]
  split<;>omega
end
end Go.Mx
