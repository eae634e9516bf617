/-loop-/
import Derived.Test.YtlbnjhhebffhdaaGreatDoorVaE
set_option linter.all false
set_option maxHeartbeats 4000000
namespace Go.Mx
noncomputable section
open Go Go.Proofs
variable {N:Nat} {h:T O}
set_option maxRecDepth 1000000
def A.Nc:=A.q Tryz.f211
def A.pQ:=A.ql A.Nc 0 []
def A.b211:=(fun x0=>A.qb A.Nc [x0]) A.pQ
def A.k211:=@A.kk 211 19 [.tmp 4] A.b211 (by kernel_rfl) rfl
def Yny{v f:V}(l:List (List V))(p:Nat->Bool)(hs:Sn 4 h N v l)(hl:l.length<1152921504606846976)(hf:∀(j:Nat) (x:List V),l[j]?=some x->∀h' n',ah h N h' n'->FnV A.C f [.agg x] h' n' (fun u _ _=>u=.bool (p j))):Fn A.C 211 [v,f] h N (fun u _ _=>u=.int .i64 (wK p 0 l.length)):=by
 intro w
 have hlen:=hs.len
 rw[aZ,A.k211 (by simp)]
 simp[A.b211,hlen]
 refine Zal [(4,5),(8,18)] (fun e r st=>aL N st.w=[]/\ah h N st.h st.n/\((e=.exit 0/\wK p 0 l.length= -1)\/(e=.ret/\r.get 4=some (.int .i64 (wK p 0 l.length))))) (fun m r st=>aL N st.w=[]/\ah h N st.h st.n/\∃k,k+m=l.length/\r.get 8=some (.int .i64 k)/\wK p 0 l.length=wK p k m) l.length ?_ ?_ ?_
 ·exact⟨by simp,ah.refl,0,by omega,by simp,rfl⟩
 ·rintro m r ⟨H,n1,W⟩ hr ik ⟨hW,hK,k,hk,h8,hz⟩
  simp only at hW hK
  rw[cn]
  cases m with
  |zero=>
   have:k=l.length:=by omega
   subst this
   simp only[wK]at hz
   simp[A.pQ,hr,ik,h8,hW,hK,hz]
  |succ m=>
   have aW:k<l.length:=by omega
   obtain⟨c,hc⟩:=eQ aW
   obtain⟨i,o,cc,e,rw,q1,q2,q3,q4⟩:=hs.at hc
   have q3:=(hK.get _ q2).trans q3
   have hk1:(k:Int)<(l.length:Int):=by omega
   simp only[wK]at hz
   simp[A.pQ,hr,h8,hk1,hlen,q1,q3,q4]
   refine Ymf (hf k c hc _ _ hK) ?_
   rintro v h2 n2 k2 rfl
   have kk:=hK.trans k2
   cases hp:p k
   ·rw[hp]at hz
    simp(disch:=first|(simp;done)|omega|rfl) [ik,h8,hW,kk]
    exact⟨m,by omega,k+1,by omega,by simp,by simpa using hz⟩
   ·rw[hp]at hz
    simp[ik,hW,kk]
    simpa using hz.symm
 ·rintro e r ⟨H,n1,W⟩ hr ⟨hW,hK,⟨rfl,hz⟩|⟨rfl,h4⟩⟩
  ·simp only at hW hK
   simp[hz,Ret,hW,hK]
  ·simp only at hW hK
   simp[h4,Ret,hW,hK]
def A.b152:=A.q Tryz.f152
def A.k152:=@A.kk 152 9 [.tmp 4] A.b152 (by kernel_rfl) rfl
def A.b77:=A.q Tryz.f77
def A.k77:=@A.kk 77 8 [.tmp 2,.tmp 3] A.b77 (by kernel_rfl) rfl
def A.b83:=A.q Tryz.f83
def A.k83:=@A.kk 83 8 [.tmp 2,.tmp 3] A.b83 (by kernel_rfl) rfl
def Yjo{v f:V}(l:List (List V))(p:Nat->Bool)(hs:Sn 4 h N v l)(hl:l.length<1152921504606846976)(hf:∀(j:Nat) (x:List V),l[j]?=some x->∀h' n',ah h N h' n'->FnV A.C f [.agg x] h' n' (fun u _ _=>u=.bool (p j))):Fn A.C 152 [v,f] h N (fun u _ _=>u=.bool (decide (0<=wK p 0 l.length))):=by
 intro w
 rw[aZ,A.k152 (by simp)]
 simp[A.b152]
 refine av (Yny l p hs hl hf) ?_
 rintro v h2 n2 k2 rfl
 simp[Ret,k2]
def Yaq{l:List Rat}:decide (0<=wK (fun j=>vk (l[j]?.getD 0)) 0 l.length)=BB l:=by
 rw[Bool.eq_iff_iff,decide_eq_true_eq,Zs7]
 unfold BB
 rw[List.any_eq_true]
 constructor
 ·rintro⟨j,_,h2,h3⟩
  obtain⟨q,hq⟩:=eQ (l:=l) (k:=j) (by omega)
  rw[hq]at h3
  exact⟨q,eI hq,h3⟩
 ·rintro⟨q,hq,h3⟩
  obtain⟨j,hj⟩:=Nd hq
  exact⟨j,tR _,by have:=yz hj;omega,by rw[hj];exact h3⟩
def Yg3{h:T O}{N:Nat}{u:V}{l:List Rat}{k:Nat}(hu:mV h N u l)(hP:j_ h N)(hl:l.length<1000000000)(hq:∀q∈l,Qb k q)(hk:k<=400000000):Fn A.C 77 [u] h N (fun x h' n'=>(BB l=true/\x=.aX [.ziA,.int .i64 4])\/(BB l=false/\∃v,x=.aX [v,.int .i64 0]/\TxT h' n' v l)):=by
 intro w
 obtain⟨cs,s1,s2,s3⟩:=id hu
 have key:=Yjo (f:=.func 153 [] []) cs (fun j=>vk (l[j]?.getD 0)) s1 (by omega) (fun j x hx h' n' jO=>by
  obtain⟨q,hqj⟩:=eQ (l:=l) (k:=j) (by have:=yz hx;omega)
  obtain⟨c,g1,g2⟩:=s3 j q hqj
  rw[hx]at g1
  obtain rfl:x=c:=by simpa using g1
  simp only[hqj,C8]
  exact Zs6 (g2.ai jO).fc (hP.ai jO) (hq q (eI hqj)) (by omega))
 rw[s2,Yaq]at key
 rw[aZ,A.k77 (by simp)]
 simp(disch:=first|(simp;done)|omega|rfl) [-getElem?_pos,A.b77]
 refine av key ?_
 rintro _ h2 n2 k2 rfl
 cases hb:BB l with
 |true=>
  simp(disch:=first|(simp;done)|omega|rfl) [-getElem?_pos,Ret]
  exact k2
 |false=>
  simp(disch:=first|(simp;done)|omega|rfl) [-getElem?_pos,]
  refine av (Yg7 (k0:=k) (hu.ai k2) (hP.ai k2) hl hq hk) ?_
  rintro v h3 n3 k3 t1
  simp(disch:=first|(simp;done)|omega|rfl) [-getElem?_pos,Ret]
  exact⟨k2.trans k3,t1⟩
def Ycq{h:T O}{N k:Nat}{x:V}{q:Rat}(hx:Fc h N x q)(hP:j_ h N)(hq:Qb k q)(hk:k<=400000000):Fn A.C 83 [x] h N (fun v _ _=>v=if vk q=true then .aX [.str [],.int .i64 4] else .aX [.str (Zao q),.int .i64 0]):=by
 intro w
 rw[aZ,A.k83 (by simp)]
 obtain⟨n1,u1,n2,u2,rfl,s1,s2⟩:=hx
 have o1:=Zaj s1
 have o2:=Zaj s2
 unfold V.one at o1 o2
 have kB:ah h N (h.set N (.cells [.int .i64 n1,u1,.int .i64 n2,u2] 102 true)) (N+1):=aO ah.refl _
 have b0:(h.set N (.cells [.int .i64 n1,u1,.int .i64 n2,u2] 102 true)).get N=some (.cells [.int .i64 n1,u1,.int .i64 n2,u2] 102 true):=by simp
 simp(disch:=first|(simp;done)|omega|rfl) [-getElem?_pos,A.b83,aI,aK,o1,o2]
 generalize gb:h.set N (.cells [.int .i64 n1,u1,.int .i64 n2,u2] 102 true)=hB at*
 clear gb
 have hx:Fc hB (N+1) (.agg [.int .i64 n1,u1,.int .i64 n2,u2]) q:=⟨n1,u1,n2,u2,rfl,s1.ai kB,s2.ai kB⟩
 have R8:=hP.ai kB
 have lg:=Zs6 hx R8 hq hk
 refine av lg ?_
 rintro _ h2 m2 k2 rfl
 have oH:=k2.le
 have f2:=(k2.get N (by omega)).trans b0
 have e2:N<m2:=by omega
 cases hb:vk q with
 |true=>
  simp(disch:=first|(simp;done)|omega|rfl) [-getElem?_pos,Ret]
  exact kB.trans k2
 |false=>
  simp(disch:=first|(simp;done)|omega|rfl) [-getElem?_pos,f2,e2,aI,aK]
  refine av (Yb0 (hx.ai k2) (R8.ai k2) (by have:=HT hq.1;omega) (by have:=HT hq.2;omega)) ?_
  rintro _ h3 m3 k3 rfl
  simp(disch:=first|(simp;done)|omega|rfl) [-getElem?_pos,Ret]
  exact(kB.trans k2).trans k3
def sR(f:Nat->Rat):Nat->Rat
 |0=>0
 |n+1=>sR f n+f n
def il{f g:Nat->Rat}:∀{n:Nat},(∀k,k<n->f k=g k)->sR f n=sR g n
 |0,_=>rfl
 |n+1,h=>by unfold sR;rw[il fun k hk=>h k (by omega),h n (by omega)]
def HW{f:Nat->Rat}:∀{n:Nat},sR (fun k=>f (k+1)) n+f 0=sR f (n+1)
 |0=>by simp[sR]
 |n+1=>by
  have:=HW (f:=f) (n:=n)
  unfold sR at this ⊢
  unfold sR
  grind
def R9{f:Nat->Rat}:∀{n:Nat},sR (fun k=>f (n-1-k)) n=sR f n
 |0=>rfl
 |n+1=>by
  have h1:=HW (f:=fun k=>f (n+1-1-k)) (n:=n)
  have h2:=R9 (f:=f) (n:=n)
  have h3:sR (fun k=>f (n+1-1-(k+1))) n=sR (fun k=>f (n-1-k)) n:=il fun k hk=>by
   show f (n+1-1-(k+1))=f (n-1-k)
   congr 1;omega
  rw[<-h1,h3,h2]
  show sR f n+f (n+1-1-0)=sR f n+f n
  rw[show n+1-1-0=n from by omega]
def Ay{f g:Nat->Rat}{r:Rat}:∀{n:Nat},sR (fun k=>f k-r*g k) n=sR f n-r*sR g n
 |0=>by
  show (0:Rat)=0-r*0
  grind
 |n+1=>by
  have:=Ay (f:=f) (g:=g) (r:=r) (n:=n)
  unfold sR
  grind
def Nf{h:T O}{N:Nat}{w:List Nat}(hP:j_ h N):A.C.call (.func 7 [] []) [] ⟨h,N,w⟩=some (.bool true,⟨h,N,w⟩):=by
 exact A.known hP.2
variable {N:Nat} {h:T O} {l:List bj} {v:V}
def A.b9:=A.q Tryz.f9
def A.k9:=@A.kk 9 22 [.tmp 2] A.b9 (by kernel_rfl) rfl
def A.b61:=A.q Tryz.f61
def A.k61:=@A.kk 61 27 [.tmp 2] A.b61 (by kernel_rfl) rfl
def A.Ng:=A.q Tryz.f145
def A.pS:=A.ql A.Ng 0 []
def A.b145:=(fun x0=>A.qb A.Ng [x0]) A.pS
def A.k145:=@A.kk 145 18 [.tmp 2] A.b145 (by kernel_rfl) rfl
def A.b12:=A.q Tryz.f12
def A.c12:A.F 12=some ⟨6,[.tmp 2],A.b12⟩:=by kernel_rfl
def A.k12:=@A.kk 12 _ _ _ A.c12 rfl
def Xa4{z:Nat}:∀{l:List (List V)} {c:List V} {o:Nat},(∀j x,l[j]?=some x->aK c (o+j*z) z=some x)->o+l.length*z<=c.length->aK c o (l.length*z)=some l.flatten
 |[],c,o,_,h=>by simp[aK]at h ⊢;omega
 |x::l,c,o,h,hl=>by
  obtain⟨h1,h2⟩:=Zwq (h 0 x rfl)
  simp only[bC,ku,Nat.one_mul,Nat.zero_mul,mY]at hl h1 h2 ⊢
  obtain⟨h3,h4⟩:=Zwq (Xa4 (l:=l) (c:=c) (o:=o+z) (fun j y hj=>by
   have:=h (j+1) y (by simpa using hj)
   rw[show o+z+j*z=o+(j+1)*z by rw[ku];omega];exact this) (by omega))
  unfold aK
  rw[aR (by omega),List.flatten_cons,h4,h2]
  congr 1
  rw[Nat.add_comm (l.length*z) z,List.take_add,<-List.drop_drop]
def Xbn{z:Nat}{w:List Nat}{l:List (List V)}(s:Sn z h N v l):oL ⟨h,N,w⟩ z v=some (l.length,l.flatten):=by
 rcases s with⟨rfl,rfl|rfl⟩|⟨i,o,cp,c,e,rw,rfl,h2,h3,h4,h5,h6⟩
 ·rfl
 ·rfl
 ·simp only[oL,if_true,St.row,h3,Xa4 h4 h5]
def Cw(z:Nat)(e:TypeId)(N0:Nat)(h:T O)(N:Nat)(y:V)(l:List (List V)):Prop:=
 (∀x∈l,x.length=z)/\((l=[]/\∃i,y=.slice i 0 0 (some 0) z/\N0<=i/\i<N/\h.get i=some (.cells [] e true))\/∃i,y=.slice i 0 l.length none z/\N0<=i/\i<N/\h.get i=some (.cells l.flatten e true))
def Xcq{z bytes:Nat}{e:TypeId}{N0:Nat}{i:Nat}{w:List Nat}{l:List (List V)}(hz:0<z)(hs:Sn z h N v l)(hlz:∀x∈l,x.length=z)(hi:i<N)(h0:N0<=i)(hg:h.get i=some (.cells [] e true))(hb:(2*l.length+1000)*bytes<=281474976710656):
  ∃y h' N',tf ⟨h,N,w⟩ z bytes e (.slice i 0 0 (some 0) z) v=some (y,⟨h',N',w⟩)/\ah h N h' N'/\Cw z e N0 h' N' y l:=by
 by_cases hl:l.length=0
 ·have:l=[]:=rz hl
  subst this
  exact⟨_,h,N,by simp[tf,Xbn hs],ah.refl,by simp,.inl ⟨rfl,i,rfl,h0,hi,hg⟩⟩
 ·refine⟨.slice N 0 l.length none z,h.set N (.cells l.flatten e true),N+1,?_,ah.refl.new _,hlz,.inr ⟨N,rfl,by omega,by omega,by rw[T.al,aR rfl]⟩⟩
  have cv:l≠[]:=fun hc=>hl (by rw[hc];rfl)
  simp only[tf,Xbn hs,AU,St.row,hg,aK,St.alloc]
  simp[cv]
  have:=ot bytes (show 2*l.length<=2*l.length+1000 by omega)
  omega
def Cw.sn{z:Nat}{e:TypeId}{N0:Nat}{y:V}{l:List (List V)}(s:Cw z e N0 h N y l):Sn z h N y l:=by
 obtain⟨hl,⟨h0,i,h1,h2,h3,h4⟩|⟨i,h1,h2,h3,h4⟩⟩:=s
 ·subst h0
  exact .inr ⟨i,0,some 0,[],e,true,h1,h3,h4,fun j x hj=>by simp at hj,by simp,fun k hk=>by simp⟩
 ·exact .inr ⟨i,0,none,l.flatten,e,true,h1,h3,h4,fun j x hj=>by rw[oJ];exact NJ hl hj,by rw[Zbj hl];omega,fun k hk=>by cases hk⟩
def gV(l:List bj):Int:=cN (l.map fun s=>((aV s:Nat):Int))
def ks(l:List bj):Int:=if l.length=0 then 12 else if 13<l.length then 5 else if gV l=0 then (if l[l.length-1]?=some [48] then 6 else 0) else gV l
def Nh{l:List bj}(h:gV l=0):∀s∈l,aV s=0:=by
 induction l with
 |nil=>intro s hs;simp at hs
 |cons a l ih=>
  unfold gV at h ih
  rw[Yw1,cN]at h
  by_cases c:((aV a:Nat):Int)=0
  ·rw[aR c]at h
   intro s hs
   rcases kV.1 hs with rfl|hs
   ·omega
   ·exact ih h s hs
  ·rw[aA c]at h;omega
def Zqk(hs:Sl h N v (strs l))(hl:l.length<100000)(rA:∀s∈l,s.length<=100000):Fn A.C 145 [v] h N (fun u _ _=>u=.int .i64 (gV l)):=by
 intro w
 have hlen:=hs.len
 rw[HZ]at hlen
 unfold gV
 rw[aZ,A.k145 (by simp)]
 simp(disch:=first|(simp;done)|omega|rfl) [-getElem?_pos,A.b145,hlen]
 refine Zal [(2,2),(4,5),(8,17)] (fun e r st=>aL N st.w=[]/\ah h N st.h st.n/\((e=.exit 0/\cN (l.map (fun s=>((aV s:Nat):Int)))=0)\/(e=.ret/\r.get 2=some (.int .i64 (cN (l.map (fun s=>((aV s:Nat):Int)))))))) (fun m r st=>aL N st.w=[]/\ah h N st.h st.n/\∃k,k+m=l.length/\r.get 8=some (.int .i64 k)/\cN (l.map (fun s=>((aV s:Nat):Int)))=cN ((l.drop k).map (fun s=>((aV s:Nat):Int)))) l.length ?_ ?_ ?_
 ·exact⟨by simp,ah.refl,0,by omega,by simp,by simp⟩
 ·rintro m r ⟨H,n1,W⟩ hr ik ⟨hW,hK,k,hk,h7,hz⟩
  simp only at hW hK
  rw[cn]
  cases m with
  |zero=>
   obtain rfl:k=l.length:=by omega
   rw[xD,tV,cN]at hz
   simp(disch:=first|(simp;done)|omega|rfl) [-getElem?_pos,A.pS,hr,ik,h7,hz,hW,hK]
  |succ m=>
   have aW:k<l.length:=by omega
   obtain⟨s,hc⟩:=eQ aW
   obtain⟨i,o,cc,e,rw,q1,q2,q3,q4⟩:=(hs.ai hK).at (KR hc)
   rw[rV hc,Yw1,cN]at hz
   have hk1:(k:Int)<(l.length:Int):=by omega
   simp(disch:=first|(simp;done)|omega|rfl) [-getElem?_pos,A.pS,hr,ik,h7,hk1,aW,hlen,q1,q2,q3,q4]
   refine av (Zrc (rA s (eI hc))) ?_
   rintro _ h3 n3 k3 rfl
   have kk:=hK.trans k3
   by_cases h0:aV s=0
   ·rw[aR (by omega)]at hz
    simp(disch:=first|(simp;done)|omega|rfl) [-getElem?_pos,hr,ik,h7,h0,hW,a_]
    exact⟨m,by omega,kk,k+1,by omega,by simp,by simpa using hz⟩
   ·rw[aA (by omega)]at hz
    simp(disch:=first|(simp;done)|omega|rfl) [-getElem?_pos,hr,ik,h7,h0,hW,a_,hz]
    exact kk
 ·rintro _ r ⟨H,n1,W⟩ hr ⟨hW,hK,⟨rfl,hz⟩|⟨rfl,h2⟩⟩
  ·simp only at hW hK
   simp(disch:=first|(simp;done)|omega|rfl) [-getElem?_pos,hr,hz,Ret,hW,hK]
  ·simp only at hW hK
   simp(disch:=first|(simp;done)|omega|rfl) [-getElem?_pos,hr,h2,Ret,hW,hK]
def Yqd(hs:Sl h N v (strs l))(hl:l.length<100000)(rA:∀s∈l,s.length<=100000):Fn A.C 61 [v] h N (fun u _ _=>u=.int .i64 (ks l)):=by
 intro w
 have hlen:=hs.len
 rw[HZ]at hlen
 rw[aZ,A.k61 (by simp)]
 by_cases c0:l.length=0
 ·have c0':(l.length:Int)=0:=by omega
  have c1':¬13<(l.length:Int):=by omega
  have e1:ks l=12:=by simp[ks,c0]
  simp(disch:=first|(simp;done)|omega|rfl) [-getElem?_pos,A.b61,hlen,c0',wM,a_]
  refine av (Zqk hs hl rA) ?_
  rintro _ h1 n1 k1 rfl
  have hi:n1<n1+1:=by omega
  simp(disch:=first|(simp;done)|omega|rfl) [-getElem?_pos,aj,b_.chk,Zje hi,cN,a_,Ret,e1]
  exact k1.trans (aO ah.refl _)
 have c0':¬(l.length:Int)=0:=by omega
 have ne:¬l=[]:=fun h=>c0 (by rw[h];rfl)
 by_cases c1:13<l.length
 ·have c1':13<(l.length:Int):=by omega
  have e1:ks l=5:=by simp[ks,c0,c1]
  simp(disch:=first|(simp;done)|omega|rfl) [-getElem?_pos,A.b61,hlen,c0',ne,c1',wM,a_]
  refine av (Zqk hs hl rA) ?_
  rintro _ h1 n1 k1 rfl
  have hi:n1<n1+1:=by omega
  simp(disch:=first|(simp;done)|omega|rfl) [-getElem?_pos,aj,b_.chk,Zje hi,cN,a_,Ret,e1]
  exact k1.trans (aO ah.refl _)
 have c1':¬13<(l.length:Int):=by omega
 simp(disch:=first|(simp;done)|omega|rfl) [-getElem?_pos,A.b61,hlen,c0',ne,c1',wM,a_]
 refine av (Zqk hs hl rA) ?_
 rintro _ h1 n1 k1 rfl
 have hi:n1<n1+1:=by omega
 have kD:ah h N (h1.set n1 (.cells [.int .i64 0,.int .i64 0,.int .i64 (gV l)] 26 true)) (n1+1):=k1.trans (aO ah.refl _)
 obtain⟨s,gg⟩:=eQ (l:=l) (k:=l.length-1) (by omega)
 obtain⟨i,o,cc,e,rw,q1,q2,q3,q4⟩:=(hs.ai kD).at (KR gg)
 have d1:((l.length:Int)-1).toNat=l.length-1:=by omega
 have d2:(0:Int)<=(l.length:Int)-1:=by omega
 have d3:(l.length:Int)-1<(l.length:Int):=by omega
 by_cases ca:gV l=0
 ·have e1:ks l=if s=[48] then 6 else 0:=by simp[ks,c0,c1,ca,gg]
  rw[ca]at kD q3
  by_cases cz:s=[48]
  ·rw[e1,aR cz]
   simp(disch:=first|(simp;done)|omega|rfl) [-getElem?_pos,aj,b_.chk,Zje hi,cN,a_,ca,ne,hlen,q1,q2,q3,q4,d1,d2,d3,cz,wM,Ret]
   exact kD
  ·rw[e1,aA cz]
   simp(disch:=first|(simp;done)|omega|rfl) [-getElem?_pos,aj,b_.chk,Zje hi,cN,a_,ca,ne,hlen,q1,q2,q3,q4,d1,d2,d3,cz,wM,Ret]
   exact kD
 ·have e1:ks l=gV l:=by simp[ks,c0,c1,ca]
  rw[e1]
  simp(disch:=first|(simp;done)|omega|rfl) [-getElem?_pos,aj,b_.chk,Zje hi,cN,a_,ca,ne,Ret]
  exact kD
def Xaj(hs:Sl h N v (strs l))(hl:l.length<100000):Fn A.C 12 [v] h N (fun u h' n'=>Sl h' n' u (strs l)):=by
 intro w
 rw[aZ,A.k12 (by simp)]
 have k0:ah h N (h.set N (.cells [] 30 true)) (N+1):=ah.refl.new _
 have s1:Sn 1 (h.set N (.cells [] 30 true)) (N+1) v ((strs l).map fun x=>[x]):=Sn.one.2 (hs.ai k0)
 obtain⟨y,h',N',ap,kk,cw⟩:=Xcq (z:=1) (bytes:=16) (e:=30) (N0:=N) (i:=N) (w:=[]) (by decide) s1 (by simp) (by omega) (Yv5 _) (by rw[T.al,aR rfl]) (by simp[strs];omega)
 simp(disch:=first|(simp;done)|omega|rfl) [-getElem?_pos,A.b12,ap,Ret]
 exact⟨k0.trans kk,Sn.one.1 cw.sn⟩
def Xao{z:List V}{n:Nat}:∀{m:Nat},dr z (m+n)=dr z m++dr z n
 |0=>by simp[dr]
 |m+1=>by rw[show m+1+n=(m+n)+1 by omega,KT,KT,Xao (m:=m),rB]
def jQ.dup{h:T O}{N R m r:Nat}{l ws:List Rat}{xs:List (List V)}(s:jQ h N R l (m+r))(hx:xs.length=m)(hm:ws.length=m)(hw:∀(j:Nat) (q:Rat),ws[j]?=some q->∃c,xs[j]?=some c/\fz h N c q):∃X,h.get R=some (.cells X 102 true)/\l.length*4+m*4<=X.length/\jQ (h.set R (.cells (aj X (l.length*4) xs.flatten) 102 true)) N R (l++ws) r:=by
 obtain⟨cs,g1,g2,g3⟩:=s.ex
 obtain⟨f1,f2,_⟩:=jQ.RG g2 g3
 obtain⟨y1,y2,_⟩:=jQ.RG (l:=ws) (by omega) hw
 have oX:=Zbj f1
 have OV:=Zbj y1
 have hsp:aj (cs.flatten++dr zF (m+r)) (l.length*4) xs.flatten=(cs++xs).flatten++dr zF r:=by
  rw[Xao,Sd (n:=m*4) (by rw[oX,g2]) (Ykc m) (by rw[OV,hx]),List.flatten_append,rB]
 have Dc:sY (cs.flatten++dr zF (m+r)):=f2.app Ni
 have yD:((cs++xs).flatten++dr zF r).length=(cs.flatten++dr zF (m+r)).length:=by
  rw[Xao,List.flatten_append];simp[Ykc,OV,hx]
 refine⟨_,g1,by rw[iJ,oX,g2,Ykc];omega,s.lt,cs++xs,by rw[T.al,aR rfl,hsp],by simp[g2,hx,hm],fun j q hq=>?_⟩
 rw[hsp]
 by_cases e:j<l.length
 ·rw[xJ e]at hq
  obtain⟨x,a,b⟩:=g3 j q hq
  exact⟨x,by rw[xJ (by omega)];exact a,b.ay g1 Dc yD⟩
 ·rw[Ig (by omega)]at hq
  obtain⟨x,a,b⟩:=hw _ q hq
  exact⟨x,by rw[Ig (by omega),g2];exact a,b.ay g1 Dc yD⟩
def Xd8{h:T O}{N:Nat}{w:List Nat}{i o n m:Nat}{cp:Option Nat}{c xs:List V}{e:TypeId}{s:V}(hn:0<n)(hm:0<m)(hs:oL ⟨h,N,w⟩ 4 s=some (m,xs))(hg:h.get i=some (.cells c e true))(hc:o+min m n*4<=c.length):Yrd ⟨h,N,w⟩ 4 (some (.slice i o n cp 4)) (some s)=some (.int .i64 (min m n:Nat),⟨h.set i (.cells (aj c o (xs.take (min m n*4))) e true),N,i::w⟩):=by
 have h0:¬min m n=0:=by omega
 simp only[Yrd,DQ,Src.ev,hs,St.row,hg]
 rw[aA (by omega),aA h0,aR hc]
 rfl
variable {a b:List Rat} {x:Rat}
def A.w69:=A.q Tryz.f69
def A.zgP:=A.ql A.w69 0 []
def A.b69:=(fun x0=>A.qb A.w69 [x0]) A.zgP
def A.k69:=@A.kk 69 34 [.tmp 4] A.b69 (by kernel_rfl) rfl
def pwR(x:Rat):Nat->Rat
 |0=>1
 |k+1=>pwR x k*x
def zih(p:List Rat)(x:Rat):List Rat:=(List.range p.length).map fun k=>(p[k]?.getD 0)*pwR x k
def Xbk(a b:List Rat)(t:Nat):List Rat:=a.take t++b.drop t
def Yz1{p:List Rat}:(zih p x).length=p.length:=by simp[zih]
def Xag{p:List Rat}{q:Rat}{t:Nat}(h:p[t]?=some q):(zih p x)[t]?=some (q*pwR x t):=by
 have ht:=yz h
 obtain⟨_,e⟩:=AM.1 h
 simp[zih,ht,e]
def Xdj{t:Nat}(h:a.length=b.length)(ht:t<=b.length):(Xbk a b t).length=b.length:=by simp[Xbk];omega
def Xdk{t:Nat}{q:Rat}(h:a.length=b.length)(hq:b[t]?=some q):(Xbk a b t)[t]?=some q:=by
 have:=yz hq
 unfold Xbk
 rw[Ig (by simp;omega),gH,j9,oW (by omega),Nat.sub_self,mY,hq]
def Xdi{t:Nat}{q:Rat}(h:a.length=b.length)(hq:a[t]?=some q):(Xbk a b t).set t q=Xbk a b (t+1):=by
 have ht:=yz hq
 obtain⟨_,e⟩:=AM.1 hq
 unfold Xbk
 rw[List.set_append_right _ _ (by simp;omega),j9,oW (by omega),Nat.sub_self,HQ,hq,rB]
 congr 1
 rw[IC (by omega:t<b.length)]
 rfl
def Xd5:Xbk a b 0=b:=by simp[Xbk]
def Xdl(h:a.length=b.length):Xbk a b b.length=a:=by
 unfold Xbk
 rw[xD,AP,jP (by omega)]
def Xa8{x:Rat}{k:Nat}(hx:Qb k x):∀t,Qb (t*k+1) (pwR x t)
 |0=>(Qb.int (z:=1) (k:=1) (by decide) (by decide)).mono (by omega)
 |t+1=>((Xa8 hx t).mul hx).mono (by rw[ku];omega)
def jQ.zhR{h:T O}{N R m B:Nat}{l:List Rat}{c0 c1:List V}{e0 e1:TypeId}{w0 w1:Bool}(s:jQ h N R l m)(g:h.get B=some (.cells c0 e0 w0))(hn:sY c0)(hc:c1.length=c0.length)(hB:¬B=R):jQ (h.set B (.cells c1 e1 w1)) N R l m:=by
 obtain⟨cs,g1,g2,g3⟩:=s.ex
 refine⟨s.lt,cs,by rw[T.al,aA (fun hc=>hB hc.symm)];exact g1,g2,fun j q hq=>?_⟩
 obtain⟨c,a,b⟩:=g3 j q hq
 exact⟨c,a,b.ay g hn hc⟩
def Ia{c:List V}(h:c.length=4):aK c 0 4=some c:=by unfold aK;rw[h];simp;exact jP (by omega)
def BD{c d:List V}(h:c.length=4)(hd:d.length=4):aj d 0 c=c:=by unfold aj;rw[h];simp[h,hd]
def Xbr{h:T O}{N k j:Nat}{v y:V}{p:List Rat}(hs:Al h N v p)(hx:Fc h N y x)(bp:∀q∈p,Qb j q)(bx:Qb k x)(hl:p.length<=100)(h0:0<p.length)(hj:j<=100000000)(hk:k<=100000):Fn A.C 69 [v,y] h N (fun z h' n'=>Al h' n' z (zih p x)):=by
 intro w
 obtain⟨c,rfl,hc⟩:=hx.c
 obtain⟨c1,c2⟩:=hc.len
 have lO:∀c:List V,(V.agg c).cells=c:=fun _=>rfl
 have lv:=hs.1.len
 obtain⟨cs,q1,q2,q3⟩:=hs.1
 have k0:ah h N (h.set N (.cells c 102 true)) (N+1):=ah.refl.new _
 have k1:ah h N ((h.set N (.cells c 102 true)).set (N+1) (.cells (dr zF p.length) 102 true)) (N+1+1):=k0.new _
 have s0:jQ ((h.set N (.cells c 102 true)).set (N+1) (.cells (dr zF p.length) 102 true)) (N+1+1) (N+1) [] (p.length+0):=⟨by omega,[],by rw[T.al,aR rfl];rfl,rfl,fun j q hq=>by simp at hq⟩
 obtain⟨X,x1,x2,x3⟩:=s0.dup (xs:=cs) (ws:=p) q2 rfl fun i q hq=>by
  obtain⟨c',a,b⟩:=q3 i q hq
  exact⟨c',a,b.ai k1⟩
 have zhS:=fun w=>Xbn (w:=w) (q1.ai k1)
 have hcp:=fun w=>Xd8 (w:=w) (i:=N+1) (o:=0) (n:=p.length) (cp:=some p.length) h0 (by omega) (zhS w) x1 (by simp at x2 ⊢;omega)
 obtain⟨f1,_,_⟩:=jQ.RG q2 q3
 have oQ:min cs.length p.length=p.length:=by omega
 have oX:cs.flatten.take (p.length*4)=cs.flatten:=jP (by rw[Zbj f1];omega)
 simp only[oQ,oX]at hcp
 simp only[List.length_nil,Nat.zero_mul,List.nil_append]at x3
 have gN:(((h.set N (.cells c 102 true)).set (N+1) (.cells (dr zF p.length) 102 true)).set (N+1) (.cells (aj X 0 cs.flatten) 102 true)).get N=some (.cells c 102 true):=by simp
 have k2:ah h N (((h.set N (.cells c 102 true)).set (N+1) (.cells (dr zF p.length) 102 true)).set (N+1) (.cells (aj X 0 cs.flatten) 102 true)) (N+1+1):=k1.set (by omega)
 have cc1:(64:Int)*(p.length:Int)<=140737488355328:=by omega
 have cc2:(p.length:Int)<4611686018427387904:=by omega
 have hz:∀n,dr zF n=dr [V.int .i64 0,V.ziA,V.int .i64 0,V.ziA] n:=fun _=>rfl
 rw[hz]at hcp x3 gN k2
 rw[aZ,A.k69 (by simp)]
 simp(disch:=first|(simp;done)|omega|rfl) [-getElem?_pos, -V.cells, -V.one,A.b69,lO,c1,c2,lv,cc1,cc2,hcp]
 generalize ((h.set N (.cells c 102 true)).set (N+1) (.cells (dr [V.int .i64 0,V.ziA,V.int .i64 0,V.ziA] p.length) 102 true)).set (N+1) (.cells (aj X 0 cs.flatten) 102 true)=G at*
 refine av (BI (z:=1) (by decide) (by decide)) ?_
 rintro _ h3 n3 k3 h1
 obtain⟨c3,rfl,hc3⟩:=h1.c
 obtain⟨e31,e32⟩:=hc3.len
 have KU:=k3.le
 have e4:=BD (d:=zF) e31 rfl
 unfold zF at e4
 have kB:ah h3 n3 ((h3.set n3 (.cells [.int .i64 0,.ziA,.int .i64 0,.ziA] 102 true)).set n3 (.cells c3 102 true)) (n3+1):=(ah.refl.new _).set (Yv5 _)
 have gB:((h3.set n3 (.cells [.int .i64 0,.ziA,.int .i64 0,.ziA] 102 true)).set n3 (.cells c3 102 true)).get n3=some (.cells c3 102 true):=by simp
 simp(disch:=first|(simp;done)|omega|rfl) [-getElem?_pos, -V.cells, -V.one,lO,e31,e32,bM,e4]
 generalize (h3.set n3 (.cells [.int .i64 0,.ziA,.int .i64 0,.ziA] 102 true)).set n3 (.cells c3 102 true)=H4 at*
 refine Zal [(7,7),(17,32)] (fun e r st=>e=.exit 0/\aL N st.w=[]/\ah h N st.h st.n/\jQ st.h st.n (N+1) (zih p x) 0) (fun m r st=>aL N st.w=[]/\ah h N st.h st.n/\n3<st.n/\st.h.get N=some (.cells c 102 true)/\fz st.h st.n c x/\∃t,t+m=p.length/\r.get 17=some (.int .i64 t)/\∃cf,st.h.get n3=some (.cells cf 102 true)/\fz st.h st.n cf (pwR x t)/\jQ st.h st.n (N+1) (Xbk (zih p x) p t) 0) p.length ?_ ?_ ?_
 ·exact⟨by simp;omega,(k2.trans k3).trans kB,by show n3<n3+1;omega,(kB.get N (by omega)).trans ((k3.get N (by omega)).trans gN),((hc.ai k2).ai k3).ai kB,0,by omega,by simp,c3,gB,hc3.ai kB,by rw[Xd5];exact(x3.ai k3).ai kB⟩
 ·rintro m r ⟨H,n1,W⟩ hr hf ⟨hW,hK,hB,g0,hcx,t,ht,Un,cf,gF,hcf,hQ⟩
  simp only at hW hK hB g0 hcx gF hcf hQ
  rw[cn]
  cases m with
  |zero=>
   obtain rfl:t=p.length:=by omega
   rw[Xdl Yz1]at hQ
   simp(disch:=first|(simp;done)|omega|rfl) [-getElem?_pos,A.zgP,hr,hf,Un,hW,hK]
   exact hQ
  |succ m=>
   have aW:t<p.length:=by omega
   have zij:(t:Int)<(p.length:Int):=by omega
   obtain⟨q,hq⟩:=eQ aW
   obtain⟨cs0,y1,_,_⟩:=hQ.ex
   obtain⟨ct,s1,fct⟩:=hQ.at (Xdk Yz1 hq) y1
   obtain⟨z1,z2⟩:=fct.len
   obtain⟨f31,f32⟩:=hcf.len
   have sf:=Ia f31
   have sc:=Ia c1
   have lR:=hQ.lt
   have wq:=(bp q (eI hq)).eX
   have bw:=Xa8 bx t
   have wb:=bw.eX
   have wx:=bx.eX
   have hkt:t*k+1<=100000001:=by
    have:t*k<=100*100000:=tU (by omega) hk
    omega
   generalize cs0.flatten++dr zF 0=X0 at*
   simp(disch:=first|(simp;done)|omega|rfl) [-getElem?_pos, -V.cells, -V.one,A.zgP,hr,hf,Un,aW,zij,y1,s1,gF,hB,lR,aI,sf]
   refine av (KZ fct.up hcf.up (by omega) (by omega) (by omega) (by omega)) ?_
   rintro _ h5 n5 k5 hm5
   obtain⟨c5,rfl,hc5⟩:=hm5.c
   obtain⟨e51,e52⟩:=hc5.len
   have le5:=k5.le
   obtain⟨Y,p1,p2,p3⟩:=(hQ.ai k5).put hc5 (j:=t) (by rw[Xdj Yz1 (by omega)];exact aW)
   rw[Xdi Yz1 (Xag hq)]at p3
   have lR5:N+1<n5:=by omega
   have lB5:n3<n5:=by omega
   have lN5:N<n5:=by omega
   have nuY:=jQ.nou (hQ.ai k5) p1
   have slY:(aj Y (t*4) c5).length=Y.length:=Jx (by omega)
   have gF5:=(k5.get n3 hB).trans gF
   have g05:=(k5.get N (by omega)).trans g0
   have zhT:¬n3=N+1:=by omega
   have zia:¬N=N+1:=by omega
   simp(disch:=first|(simp;done)|omega|rfl) [-getElem?_pos, -V.cells, -V.one,hr,hf,lO,e51,e52,bM,p1,p2,lR5,aW,zij,gF5,g05,lB5,lN5,zhT,aI,sf,sc]
   have zhU:=(hcf.ai k5).ay (c1:=aj Y (t*4) c5) (e1:=102) (w1:=true) p1 nuY slY
   have zhC:=(hcx.ai k5).ay (c1:=aj Y (t*4) c5) (e1:=102) (w1:=true) p1 nuY slY
   have gF6:(h5.set (N+1) (.cells (aj Y (t*4) c5) 102 true)).get n3=some (.cells cf 102 true):=by rw[T.al,aA (by omega)];exact gF5
   have g06:(h5.set (N+1) (.cells (aj Y (t*4) c5) 102 true)).get N=some (.cells c 102 true):=by rw[T.al,aA (by omega)];exact g05
   have K6:ah h N (h5.set (N+1) (.cells (aj Y (t*4) c5) 102 true)) n5:=(hK.trans k5).set (by omega)
   generalize h5.set (N+1) (.cells (aj Y (t*4) c5) 102 true)=H6 at*
   refine av (KZ zhU.up zhC.up (by omega) (by omega) (by omega) (by omega)) ?_
   rintro _ h7 n7 k7 hm7
   obtain⟨c7,rfl,Vr⟩:=hm7.c
   obtain⟨e71,e72⟩:=Vr.len
   have le7:=k7.le
   have gF7:=(k7.get n3 lB5).trans gF6
   have g07:=(k7.get N lN5).trans g06
   have lB7:n3<n7:=by omega
   have e7:=BD (d:=cf) e71 f31
   have l7:4<=cf.length:=by omega
   simp(disch:=first|(simp;done)|omega|rfl) [-getElem?_pos, -V.cells, -V.one,hr,hf,Un,lO,e71,e72,bM,gF7,lB7,e7,l7]
   have nuF:=hcf.Sk
   have s7:c7.length=cf.length:=by omega
   refine⟨m,by omega,?_,(K6.trans k7).set (by omega),by rw[aA (by omega)];exact g07,(zhC.ai k7).ay gF7 nuF s7,t+1,by omega,by simp,Vr.ay gF7 nuF s7,(p3.ai k7).zhR gF7 nuF s7 (by omega)⟩
   simp[aL,hW];omega
 ·rintro _ r ⟨H,n1,W⟩ hr ⟨rfl,hW,hK,hQ⟩
  simp only at hW hK hQ
  have fin:=hQ.frt
  rw[Yz1]at fin
  simp(disch:=first|(simp;done)|omega|rfl) [-getElem?_pos,hr,hW,hK,Ret]
  exact fin
variable {l:List bj}
def A.b62:=A.q Tryz.f62
def A.k62:=@A.kk 62 5 [.tmp 2] A.b62 (by kernel_rfl) rfl
def Zvp{h:T O}{N:Nat}{v:V}{l:List Rat}{k0:Nat}(hs:Sl h N v (tx l))(hl:l.length<1000000000)(hq:∀q∈l,Qb k0 q)(sW:k0<=4000):Fn A.C 125 [v] h N (fun u h' n'=>u=.slice N 0 l.length (some l.length) 4/\jQ h' n' N l 0):=by
 intro w
 have hlen:=hs.len
 rw[Sb]at hlen
 have c1:(64:Int)*(l.length:Int)<=140737488355328:=by omega
 have c2:(l.length:Int)<4611686018427387904:=by omega
 have kB:ah h N (h.set N (.cells (dr zF l.length) 102 true)) (N+1):=ah.refl.new _
 rw[aZ,A.k125 (by simp)]
 simp(disch:=first|(simp;done)|omega|rfl) [-getElem?_pos,A.b125,hlen,c1,c2]
 refine Zal [(4,5),(11,21)] (fun e r st=>e=.exit 0/\FaI h N l 0 r st) (FaI h N l) l.length ?_ ?_ ?_
 ·exact⟨by simp,kB,0,[],by omega,by simp,by simp,by show N<N+1;omega,by rw[T.al,aR rfl];rfl,rfl,fun j q hj=>by omega⟩
 ·rintro m r ⟨H,n1,W⟩ hr hf ⟨hW,hK,k,cs,hk,jR,h3,tW,hM,dW,sX⟩
  simp only at hW hK hM tW sX
  rw[cn]
  cases m with
  |zero=>
   obtain rfl:k=l.length:=by omega
   simp(disch:=first|(simp;done)|omega|rfl) [-getElem?_pos,A.pT,hr,hf,jR]
   exact⟨hW,hK,l.length,cs,by omega,by simp[jR],by simp[h3],tW,hM,dW,sX⟩
  |succ m=>
   have aW:k<l.length:=by omega
   have zij:(k:Int)<(l.length:Int):=by omega
   obtain⟨q,Ib⟩:=eQ aW
   have Ic:=hq q (eI Ib)
   obtain⟨i,o,cc,e,rw,q1,q2,q3,q4⟩:=(hs.ai hK).at (Ykf Ib)
   have la:=BE Ic.1
   have la2:=Ie Ic.2
   simp(disch:=first|(simp;done)|omega|rfl) [-getElem?_pos,A.pT,hr,hf,jR,h3,aW,zij,hlen,q1,q3,q4]
   refine av (Ye6 (q:=q) (by omega) (by omega)) ?_
   rintro _ H2 n2 k2 ik
   obtain⟨c,rfl,hc⟩:=ik.c
   have oH:=k2.le
   have gW:=hK.le
   have tX:=(k2.get N tW).trans hM
   have zdX:∀(j:Nat) (q:Rat),j<cs.length->l[j]?=some q->∃c,cs[j]?=some c/\fz H2 n2 c q:=fun j q hj hq=>by
    obtain⟨c,g1,g2⟩:=sX j q (by omega) hq
    exact⟨c,g1,g2.ai k2⟩
   obtain⟨f1,f2,f3⟩:=Zvs (l:=l) (by omega) zdX
   have oX:=Zbj f1
   obtain⟨e1,e2⟩:=hc.len
   have hsp:aj (cs.flatten++dr zF (m+1)) (k*4) c=(cs++[c]).flatten++dr zF m:=by
    rw[KT,Sd (n:=4) (by rw[oX,dW]) rfl e1,Se,rB]
   have hb:k*4+4<=(cs.flatten++dr zF (m+1)).length:=by
    rw[iJ,oX,Ykc];omega
   have lO:(V.agg c).cells=c:=rfl
   have Dc:sY (cs.flatten++dr zF (m+1)):=f2.app Ni
   have yC:((cs++[c]).flatten++dr zF m).length=(cs.flatten++dr zF (m+1)).length:=by
    rw[KT,Se];simp[e1,zF];omega
   generalize cs.flatten++dr zF (m+1)=X at*
   obtain⟨Y,hY⟩:∃Y,(cs++[c]).flatten++dr zF m=Y:=⟨_,rfl⟩
   rw[hY]at hsp yC
   simp(disch:=first|(simp;done)|omega|rfl) [-getElem?_pos, -V.cells, -V.one,hr,hf,jR,h3,aW,zij,tX,bM,lO,e1,e2,hb,hsp]
   have lP:¬N<N:=by omega
   refine⟨m,by omega,⟨by simp[aL,hW],(hK.trans k2).set (Yv5 N),k+1,cs++[c],by omega,by simp,by simp[h3],by show N<n2;omega,by show T.get _ N=_;rw[T.al,aR rfl,hY],by simp[dW],fun j q' hj Sf=>?_⟩⟩
   by_cases Az:j<k
   ·obtain⟨c',g1,g2⟩:=sX j q' Az Sf
    exact⟨c',by rw[xJ (by omega)];exact g1,(g2.ai k2).ay tX Dc yC⟩
   ·obtain rfl:j=k:=by omega
    rw[Ib]at Sf
    simp only[au]at Sf
    subst Sf
    exact⟨c,by rw[Ig (by omega),dW];simp,hc.ay tX Dc yC⟩
 ·rintro _ r ⟨H,n1,W⟩ hr ⟨rfl,hW,hK,k,cs,hk,jR,h3,tW,hM,dW,sX⟩
  simp only at hW hK hM tW sX
  obtain rfl:k=l.length:=by omega
  simp(disch:=first|(simp;done)|omega|rfl) [-getElem?_pos,hr,h3,Ret,hW,hK]
  have hz:dr zF 0=[]:=by simp[dr]
  obtain⟨f1,_,_⟩:=Zvs (l:=l) (by omega) (fun j q hj hq=>sX j q (by omega) hq)
  have oX:=Zbj f1
  exact⟨tW,cs,hM,dW,fun j q hq=>sX j q (yz hq) hq⟩
def Yhs{h:T O}{N:Nat}{v:V}{l:List Rat}{k0:Nat}(hs:Sl h N v (tx l))(hl:l.length<1000000000)(hq:∀q∈l,Qb k0 q)(sW:k0<=4000):Fn A.C 62 [v] h N (fun u h' n'=>u=.slice N 0 l.length (some l.length) 4/\jQ h' n' N l 0):=by
 intro w
 rw[aZ,A.k62 (by simp)]
 simp(disch:=first|(simp;done)|omega|rfl) [-getElem?_pos,A.b62]
 refine av (Zvp hs hl hq sW) ?_
 rintro _ h1 n1 k1 ⟨rfl,hu⟩
 simp(disch:=first|(simp;done)|omega|rfl) [-getElem?_pos,Ret]
 exact⟨k1,hu⟩
def ziB(l:List bj):List Rat:=l.map aY
def Ymk(h:gV l=0):strs l=tx (ziB l):=by
 unfold tx ziB
 congr 1
 rw[List.map_map]
 conv=>lhs;rw[<-List.map_id l]
 apply Nj
 intro s hs
 exact((kr (Nh h s hs)).1).symm
def Xfa{n:Nat}(h:gV l=0)(hl:∀s∈l,s.length<=n):∀q∈ziB l,Qb (4*n+4) q:=fun q hq=>by
 obtain⟨s,hs,rfl⟩:=vo.1 hq
 exact yB (Nh h s hs) (hl s hs)
def Yht{l:List bj}:(ziB l).length=l.length:=by simp[ziB]
def Yti(h:ks l=0):0<l.length/\l.length<=13/\gV l=0/\pg (ziB l) (l.length-1)≠0:=by
 unfold ks at h
 split at h
 ·omega
 rename_i h0
 split at h
 ·omega
 rename_i h1
 split at h
 ·rename_i ha
  split at h
  ·omega
  rename_i hz
  refine⟨by omega,by omega,ha,fun hc=>hz ?_⟩
  obtain⟨s,hs⟩:=eQ (l:=l) (k:=l.length-1) (by omega)
  have e:pg (ziB l) (l.length-1)=aY s:=by simp[pg,ziB,hs]
  rw[e]at hc
  rw[hs,<-(kr (Nh ha s (eI hs))).1,hc,xI]
 ·omega
def Xfz(h:T O)(N:Nat)(x:V)(bad:Int)(l:List Rat):Prop:=(bad≠0/\x=.aX [.ziA,.int .i64 bad])\/(bad=0/\((BB l=true/\x=.aX [.ziA,.int .i64 4])\/(BB l=false/\∃v,x=.aX [v,.int .i64 0]/\TxT h N v l)))
def Xfc{a b c:Int}:cN [a,b,c]=if cN [a,b]=0 then c else cN [a,b]:=by
 unfold cN
 by_cases ha:a=0
 ·rw[aR ha,aR ha]
  unfold cN
  by_cases hb:b=0
  ·rw[aR hb,aR hb]
   by_cases hc:c=0<;>simp[cN,hc]
  ·rw[aA hb,aA hb,aA hb]
 ·rw[aA ha,aA ha,aA ha]
def Ytr(p:List Rat)(x:Rat):Nat->Rat
 |0=>0
 |k+1=>Ytr p x k*x+pg p (p.length-1-k)
def Ytf(p:List Rat)(x:Rat):Rat:=Ytr p x p.length
def A.b43:=A.q Tryz.f43
def A.k43:=@A.kk 43 26 [.tmp 4,.tmp 5] A.b43 (by kernel_rfl) rfl
def scE(a:List bj)(s:bj):Int:=cN [ks a,((aV s:Nat):Int),if s=[48] then 6 else 0]
def Xbs{p:List Rat}{x:Rat}{ja jk:Nat}(hp:∀y∈p,Qb ja y)(hx:Qb jk x):∀y∈zih p x,Qb (ja+(p.length*jk+1)) y:=fun y hy=>by
 obtain⟨j,hj⟩:=Nd hy
 have hl:=yz hj
 rw[Yz1]at hl
 obtain⟨q,hq⟩:=eQ hl
 rw[Xag hq]at hj
 simp only[au]at hj
 rw[<-hj]
 have:=ot jk (show j<=p.length by omega)
 exact((hp q (eI hq)).mul (Xa8 hx j)).mono (by omega)
def Xfj{h:T O}{N:Nat}{u:V}{a:List bj}{s:bj}(hu:Sl h N u (strs a))(hP:j_ h N)(la:a.length<100000)(fa:∀s∈a,s.length<=40)(fs:s.length<=40):Fn A.C 43 [u,.str s] h N (fun x h' n'=>Xfz h' n' x (scE a s) (zih (ziB a) (aY s))):=by
 intro w
 have hlu:=hu.len
 rw[HZ]at hlu
 rw[aZ,A.k43 (by simp)]
 simp(disch:=first|(simp;done)|omega|rfl) [-getElem?_pos,A.b43]
 refine av (Yqd hu la fun s hs=>by have:=fa s hs;omega) ?_
 rintro _ h1 n1 k1 rfl
 simp(disch:=first|(simp;done)|omega|rfl) [-getElem?_pos,]
 refine av (Zrc (by omega)) ?_
 rintro _ h2 n2 k2 rfl
 have hi:n2<n2+1:=by omega
 have kD:ah h N (h2.set n2 (.cells [.int .i64 (ks a),.int .i64 ((aV s:Nat):Int)] 26 true)) (n2+1):=(k1.trans k2).trans (aO ah.refl _)
 have eM:scE a s=if cN [ks a,((aV s:Nat):Int)]=0 then (if s=[48] then 6 else 0) else cN [ks a,((aV s:Nat):Int)]:=Xfc
 rw[eM]
 by_cases c:cN [ks a,((aV s:Nat):Int)]=0
 ·obtain⟨ca,cs⟩:=HV c
  have AH:aV s=0:=by omega
  obtain⟨a0,a1,a2,a3⟩:=Yti ca
  rw[aR c]
  by_cases c3:s=[48]
  ·have c4:(s==[48])=true:=by simpa using c3
   rw[aR c3]
   simp(disch:=first|(simp;done)|omega|rfl) [-getElem?_pos,aj,b_.chk,Zup hi,c,a_,c4,Ret]
   exact⟨kD,.inl ⟨by decide,rfl⟩⟩
  ·have c4:(s==[48])=false:=by simpa using c3
   rw[aA c3]
   rw[ca,cs]at kD
   have qs:=yB AH fs
   have es:=(kr AH).1
   simp(disch:=first|(simp;done)|omega|rfl) [-getElem?_pos,aj,b_.chk,ca,AH,Zup hi,cN,a_,c4]
   generalize h2.set n2 (.cells [.int .i64 0,.int .i64 0] 26 true)=H2 at*
   have ta:=Ymk a2
   have qa:=Xfa a2 fa
   have Il:Sl h N u (tx (ziB a)):=by rw[<-ta];exact hu
   have lra:=@Yht a
   rw[<-lra]at a0 a1
   generalize ziB a=p at*
   clear eM c c3 c4 cs AH
   generalize aY s=q at*
   subst es
   refine av (Yhs (k0:=164) (Il.ai kD) (by omega) qa (by decide)) ?_
   rintro _ h5 n5 k5 ⟨rfl,hF5⟩
   simp(disch:=first|(simp;done)|omega|rfl) [-getElem?_pos,]
   refine av (AB qs (by omega)) ?_
   rintro v6 h6 n6 k6 hv6
   simp(disch:=first|(simp;done)|omega|rfl) [-getElem?_pos,]
   refine av (Xbr (hF5.ai k6).frt hv6 qa qs (by omega) a0 (by decide) (by decide)) ?_
   rintro v7 h7 n7 k7 hT
   have hbq:=Xbs qa qs
   have ziz:p.length*(4*40+4)<=13*(4*40+4):=ot _ (by omega)
   have K:=((kD.trans k5).trans k6).trans k7
   simp(disch:=first|(simp;done)|omega|rfl) [-getElem?_pos,]
   refine av (Yg3 (k:=5000) hT.1 (hP.ai K) (by rw[Yz1];omega) (fun y hy=>(hbq y hy).mono (by omega)) (by decide)) ?_
   rintro x h9 n9 k9 hx
   rcases hx with⟨hb,rfl⟩|⟨hb,y,rfl,hy⟩
   ·simp(disch:=first|(simp;done)|omega|rfl) [-getElem?_pos,Ret]
    exact⟨K.trans k9,.inr ⟨rfl,.inl ⟨hb,rfl⟩⟩⟩
   ·simp(disch:=first|(simp;done)|omega|rfl) [-getElem?_pos,Ret]
    exact⟨K.trans k9,.inr ⟨rfl,.inr ⟨hb,y,rfl,hy⟩⟩⟩
 ·rw[aA c]
  simp(disch:=first|(simp;done)|omega|rfl) [-getElem?_pos,aj,b_.chk,Zup hi,c,a_,Ret]
  exact⟨kD,.inl ⟨c,rfl⟩⟩
open Go
def Xhg(r:T V)(n:Nat)(ps:List Nat)(a b:cC)(d:Nat):Yrr:={st:=.ready,iD:=none,r:=r,n:=n,ps:=ps,assign:=a,body:=b,defs:=d}
def Xgg:Option Ex->Ex
 |none=>.normal
 |some e=>e
def Xgv{C:Cx}{K:List Kf}{Q:Rs->Prop}{g:Src}{ps:List Nat}{a b:cC}{r:T V}{n N:Nat}{h:T O}{w:List Nat}{gv:V}{P:V->St->Prop}(hg:g.ev r=some gv)(hy:gv.LQ=false)(hc:Call C gv [.yield (N+1)] ⟨(h.set N (.defs true)).set (N+1) (.loop (Xhg r n ps a b N)),N+1+1,w⟩ P)(k:∀v st',P v st'->∃R,st'.h.get (N+1)=some (.loop R)/\R.st≠.busy/\Run C K (some (.ex (Xgg R.iD) ⟨r,n,[N]⟩ (st'.write (N+1) (.loop {R with st:=.exhausted})))) Q):Run C K (fx (C.code none (.zim g ps a b) ⟨r,n,[]⟩ ⟨h,N,w⟩)) Q:=by
 obtain⟨v,st',e,p⟩:=hc.ex
 obtain⟨R,h1,h2,h3⟩:=k v st' p
 have e2:C.code none (.zim g ps a b) ⟨r,n,[]⟩ ⟨h,N,w⟩=some (Xgg R.iD,⟨r,n,[N]⟩,st'.write (N+1) (.loop {R with st:=.exhausted})):=by
  rw[Cx.dJ]
  show B6 g ps a b C.call C.code none ⟨r,n,[]⟩ ⟨h,N,w⟩=_
  unfold B6
  simp only[hg,hy,Zuk,St.alloc]
  unfold Xhg at e
  simp only[gj,if_false,e,h1,h2]
  unfold Xgg
  rfl
 rw[e2]
 exact h3
def Xgq{C:Cx}{K:List Kf}{Q:Rs->Prop}{rs:List Iw}{st:St}{e:Ex}{r:T V}{n d:Nat}{h1:T O}{n1:Nat}{w1:List Nat}(hd:h1.get d=some (.defs true))(he:∀i,e≠.exit i):Run C (.fin rs st::K) (some (.ex e ⟨r,n,[d]⟩ ⟨h1,n1,w1⟩)) Q↔Run C K (Ytc (h1.set d (.defs false)) n1 (aL st.n (d::w1)++st.w) (gJ r ⟨h1.set d (.defs false),n1,d::w1⟩ rs)) Q:=iW (by
 have:shut ⟨h1,n1,w1⟩ [d]=some ⟨h1.set d (.defs false),n1,d::w1⟩:=by
  unfold shut
  simp only[hd]
  rfl
 cases e with
 |exit i=>exact absurd rfl (he i)
 |normal=>
  simp only[iV,l9,sE,this]
  rcases gJ r _ rs with _|_<;>rfl
 |ret=>
  simp only[iV,l9,sE,this]
  rcases gJ r _ rs with _|_<;>rfl)
def Xgz{C:Cx}{l:Nat}{args:List V}{st:St}{R:Yrr}{r0:T V}{P:V->St->Prop}(hx:C.x (.yield l) args st=none)(hl:st.h.get l=some (.loop R))(hs:R.st=.ready)(hp:I7 R.r R.n R.ps args=some r0)(hc:Code C (some l) R.assign ⟨r0,R.n,[]⟩ st (fun e fr cj=>e=.normal/\cj.h.get l=some (.loop R)/\Code C (some l) R.body fr (cj.write l (.loop {R with st:=.busy})) (fun e2 _ fh=>∃R2,fh.h.get l=some (.loop R2)/\P (.bool (Zev e2).isNone) (fh.write l (.loop {R2 with st:=Oe (Zev e2),iD:=Zev e2}))))):Call C (.yield l) args st P:=by
 obtain⟨e,fr,cj,e1,rfl,g1,hb⟩:=hc.ex
 obtain⟨e2,yc,fh,e3,R2,g2,p⟩:=hb.ex
 refine⟨_,_,?_,p⟩
 rw[Cx.qI]
 unfold rZ
 rw[hx]
 show I8 C.code l args st=_
 unfold I8
 simp only[hl,hp,e1,g1,hs,if_true,e3,g2]
def Yvu(x:V)(bad:Int)(q:Rat):Prop:=(bad≠0/\x=.aX [.str [],.int .i64 bad])\/(bad=0/\x=if vk q=true then .aX [.str [],.int .i64 4] else .aX [.str (Zao q),.int .i64 0])
def Db(D B:Nat)(q:Rat):Prop:=∃z:Int,q*(D:Rat)=(z:Rat)/\z.natAbs<=B
def Db.own{k:Nat}{q:Rat}(h:Qb k q):Db q.den (2^k) q:=⟨q.num,by
 have h1:=AA q
 rw[Rat.divInt_eq_div]at h1
 have h2:(((q.den:Nat):Int):Rat)=(q.den:Rat):=rfl
 rw[h2]at h1
 have hD:(q.den:Rat)≠0:=by
  intro hc
  have:((q.den:Nat):Rat)=((0:Nat):Rat):=hc
  rw[Rat.natCast_inj]at this
  have:=q.den_pos
  omega
 grind,by have:=h.1;omega⟩
def A.w81:=A.q Tryz.f81
def A.zgR:=A.ql A.w81 0 []
def A.b81:=(fun x0=>A.qb A.w81 [x0]) A.zgR
def A.k81:=@A.kk 81 22 [.cell 4 (some 4)] A.b81 (by kernel_rfl) rfl
def Yrg(l:List bj):Int:=if 64<l.length then 5 else gV l
structure RnH (g l p:bj) (D:Int) (d:List bj):Prop where
 lg:g.length<=40
 ll:l.length<=40
 lp:p.length<=40
 ld:d.length<100000
 fd:∀s∈d,s.length<=64
 q:gT g l p D=0->Qb 40 (aY g)/\Qb 40 (aY l)/\Qb 40 (aY p)
 s:Yrg d=0->d.length<=12
end
end Go.Mx
