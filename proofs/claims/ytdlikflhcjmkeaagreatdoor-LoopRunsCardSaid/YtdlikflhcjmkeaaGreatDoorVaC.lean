/-lensletref05-/
import Derived.Test.YtdlikflhcjmkeaaGreatDoorNdC
set_option linter.all false
namespace Go.Mx
noncomputable section
open Go Go.Proofs
variable {N:Nat} {h:T O} {v:V}
set_option maxRecDepth 1000000
def A.w41:=A.q Tryz.f41
def A.lb41_0:=A.ql A.w41 0 []
def A.b41:=(fun x0=>A.qb A.w41 [x0]) A.lb41_0
def A.k41:=@A.kk 41 26 [.tmp 4] A.b41 (by kernel_rfl) rfl
def Yhl{u:V}{l:List Str}{w:List Nat}(hu:Sl h N u (strs l))(hv:Sl h N v (strs l))(hl:l.length<100000):A.C.call (.func 41 [] []) [u,v] ⟨h,N,w⟩=some (.bool true,⟨h,N,w⟩):=by
 apply Call.eq
 have l1:=hu.len
 have l2:=hv.len
 rw[Zt1]at l1 l2
 rw[Zab,A.k41 (by simp)]
 simp[A.b41,l1,l2]
 refine Zaj [(4,5),(11,25)] (fun e r st=>st=⟨h,N,[]⟩∧e=.exit 0) (fun m r st=>st=⟨h,N,[]⟩∧∃k,k+m=l.length∧r.get 5=some (.int .i64 k)) l.length ?_ ?_ ?_
 ·exact⟨rfl,0,by omega,by simp⟩
 ·rintro m r _ hr hf ⟨rfl,k,hk,h5⟩
  rw[Zai]
  cases m with
  |zero=>
   obtain rfl:k=l.length:=by omega
   simp[A.lb41_0,hr,hf,h5,l1]
  |succ m=>
   have hlt:k<l.length:=by omega
   obtain⟨s,hs⟩:=Zan hlt
   obtain⟨i,o,c,e,rw,q1,q2,q3,q4⟩:=hu.at (Zt2 hs)
   obtain⟨i',o',c',e',rw',p1,p2,p3,p4⟩:=hv.at (Zt2 hs)
   have hk1:(k:Int)<(l.length:Int):=by omega
   simp(disch:=first|(simp;done)|omega|rfl) [A.lb41_0,hr,hf,h5,l1,l2,hk1,q1,q2,q3,q4,p1,p2,p3,p4,Zbk]
   exact⟨m,by omega,k+1,by omega,by simp⟩
 ·rintro _ r _ hr ⟨rfl,rfl⟩
  simp
def MtS(h:T O)(N:Nat)(v:V)(m:List (List Str)):Prop:=∃us:List V,Sl h N v us∧us.length=m.length∧∀(j:Nat) (l:List Str),m[j]?=some l→∃u,us[j]?=some u∧Sl h N u (strs l)
def MtS.keep{h':T O}{N':Nat}{m:List (List Str)}(s:MtS h N v m)(k:Keeps h N h' N'):MtS h' N' v m:=by
 obtain⟨us,h1,h2,h3⟩:=s
 refine⟨us,h1.keep k,h2,fun j l hl=>?_⟩
 obtain⟨u,g1,g2⟩:=h3 j l hl
 exact⟨u,g1,g2.keep k⟩
def MtS.at{m:List (List Str)}(s:MtS h N v m){j:Nat}{l:List Str}(hj:m[j]?=some l):∃i o c e rw u,Zno v=some (i,o)∧i<N∧h.get i=some (.cells c e rw)∧c[o+j]?=some u∧Sl h N u (strs l):=by
 obtain⟨us,h1,h2,h3⟩:=s
 obtain⟨u,g1,g2⟩:=h3 j l hj
 obtain⟨i,o,c,e,rw,q1,q2,q3,q4⟩:=h1.at g1
 exact⟨i,o,c,e,rw,u,q1,q2,q3,q4,g2⟩
def A.w59:=A.q Tryz.f59
def A.lb59_0:=A.ql A.w59 0 []
def A.b59:=(fun x0=>A.qb A.w59 [x0]) A.lb59_0
def A.k59:=@A.kk 59 19 [.tmp 2] A.b59 (by kernel_rfl) rfl
def Yvq{h:T O}{N:Nat}{v:V}{l:List Str}(hs:Sl h N v (strs l))(hl:l.length<100000)(hf0:∀s∈l,s.length<9223372036854775808):Fn A.C 59 [v] h N (fun u _ _=>u=.int .i64 (Zau (l.map fun s=>((chkNum s:Nat):Int)))):=by
 intro w
 have hlen:=hs.len
 rw[Zt1]at hlen
 rw[Zab,A.k59 (by simp)]
 simp(disch:=first|(simp;done)|omega|rfl) [-getElem?_pos,A.b59]
 refine Zaj [(2,18)] (fun e r st=>Zac N st.w=[]∧Keeps h N st.h st.n∧((e=.exit 0∧Zau (l.map fun s=>((chkNum s:Nat):Int))=0)∨(e=.ret∧r.get 2=some (.int .i64 (Zau (l.map fun s=>((chkNum s:Nat):Int))))))) (fun m r st=>Zac N st.w=[]∧Keeps h N st.h st.n∧∃k,k+m=l.length∧r.get 3=some (.int .i64 k)∧Zau (l.map fun s=>((chkNum s:Nat):Int))=Zau ((l.drop k).map fun s=>((chkNum s:Nat):Int))) l.length ?_ ?_ ?_
 ·exact⟨by simp,Keeps.refl,0,by omega,by simp,by simp⟩
 ·rintro m r ⟨H,n1,W⟩ hr hf ⟨hW,hK,k,hk,h7,hz⟩
  simp only at hW hK
  rw[Zai]
  cases m with
  |zero=>
   obtain rfl:k=l.length:=by omega
   rw[Ysx,Yta,Zau]at hz
   simp(disch:=first|(simp;done)|omega|rfl) [-getElem?_pos,A.lb59_0,hr,hf,h7,hlen,hz,hW,hK]
  |succ m=>
   have hlt:k<l.length:=by omega
   obtain⟨s,hc⟩:=Zan hlt
   obtain⟨i,o,cc,e,rw,q1,q2,q3,q4⟩:=(hs.keep hK).at (Zt2 hc)
   rw[Za2 hc,Yrj,Zau]at hz
   have hk1:(k:Int)<(l.length:Int):=by omega
   simp(disch:=first|(simp;done)|omega|rfl) [-getElem?_pos,A.lb59_0,hr,hf,h7,hk1,hlt,hlen,q1,q3,q4]
   refine Zaa (Zwb (hf0 s (Yqn hc))) ?_
   rintro _ h3 n3 k3 rfl
   have kk:=hK.trans k3
   by_cases h0:chkNum s=0
   ·rw[Yqi (by omega)]at hz
    simp(disch:=first|(simp;done)|omega|rfl) [-getElem?_pos,hr,hf,h7,h0,hW,Zak]
    exact⟨m,by omega,kk,k+1,by omega,by simp,by simpa using hz⟩
   ·rw[Yqe (by omega)]at hz
    have h0':¬((chkNum s:Nat):Int)=0:=by omega
    simp(disch:=first|(simp;done)|omega|rfl) [-getElem?_pos,hr,hf,h7,h0,h0',hW,Zak,hz]
    exact kk
 ·rintro _ r ⟨H,n1,W⟩ hr ⟨hW,hK,⟨rfl,hz⟩|⟨rfl,h2⟩⟩
  ·simp only at hW hK
   simp(disch:=first|(simp;done)|omega|rfl) [-getElem?_pos,hr,hz,Ret,hW,hK]
  ·simp only at hW hK
   simp(disch:=first|(simp;done)|omega|rfl) [-getElem?_pos,hr,h2,Ret,hW,hK]
def A.w39:=A.q Tryz.f39
def A.lb39_0:=A.ql A.w39 0 []
def A.b39:=(fun x0=>A.qb A.w39 [x0]) A.lb39_0
def A.k39:=@A.kk 39 16 [.tmp 2] A.b39 (by kernel_rfl) rfl
def Zcy(l:List Rat):Bool:=l.any Zrn
def Yas{h:T O}{N:Nat}{v:V}{l:List Rat}{w:List Nat}(hs:Tx h N v l)(hl:l.length<100000)(hf0:∀q∈l,(Zaq q).length<1000000000):A.C.call (.func 39 [] []) [v] ⟨h,N,w⟩=some (.int .i64 (if Zcy l=true then 4 else 0),⟨h,N,w⟩):=by
 apply Call.eq
 have hlen:=hs.len
 rw[Zab,A.k39 (by simp)]
 simp[A.b39]
 refine Zaj [(2,15)] (fun e r st=>st=⟨h,N,[]⟩∧((e=.exit 0∧Zcy l=false)∨(e=.ret∧Zcy l=true∧r.get 2=some (.int .i64 4)))) (fun m r st=>st=⟨h,N,[]⟩∧∃k,k+m=l.length∧r.get 3=some (.int .i64 k)∧Zcy l=Zcy (l.drop k)) l.length ?_ ?_ ?_
 ·exact⟨rfl,0,by omega,by simp,by simp⟩
 ·rintro m r _ hr hf ⟨rfl,k,hk,h7,hz⟩
  rw[Zai]
  cases m with
  |zero=>
   obtain rfl:k=l.length:=by omega
   rw[Ysx]at hz
   simp[Zcy]at hz
   simp[A.lb39_0,hr,hf,h7,hlen]
   simpa[Zcy]using hz
  |succ m=>
   have hlt:k<l.length:=by omega
   obtain⟨q,hc⟩:=Zan hlt
   obtain⟨i,o,cc,e,rw,q1,q2,q3,q4⟩:=Sl.at hs (Zks hc)
   rw[Za2 hc]at hz
   have hk1:(k:Int)<(l.length:Int):=by omega
   have hlg:=fun st=>Zmq (st:=st) (hf0 q (Yqn hc))
   by_cases h0:Zrn q=true
   ·have e1:Zcy l=true:=by rw[hz];simp[Zcy,h0]
    rw[Yqi h0]at hlg
    simp[A.lb39_0,hr,hf,h7,hk1,hlt,hlen,q1,q2,q3,q4,hlg,Zak,e1]
   ·have e1:Zcy l=Zcy (l.drop (k+1)):=by rw[hz];simp[Zcy,h0]
    rw[Yqe h0]at hlg
    simp(disch:=first|(simp;done)|omega|rfl) [A.lb39_0,hr,hf,h7,hk1,hlt,hlen,q1,q2,q3,q4,hlg,Zak]
    exact⟨m,by omega,k+1,by omega,by simp,e1⟩
 ·rintro _ r _ hr ⟨rfl,⟨rfl,hz⟩|⟨rfl,hz,h2⟩⟩
  ·simp[hr,hz]
  ·simp[hr,h2,hz]
def A.b145:=A.q Tryz.f145
def A.k145:=@A.kk 145 9 [.cell 2 (some 4)] A.b145 (by kernel_rfl) rfl
def A.b71:=A.q Tryz.f71
def A.k71:=@A.kk 71 9 [.cell 4 (some 4)] A.b71 (by kernel_rfl) rfl
def Zpd{x:V}{q:Rat}{h:T O}{N:Nat}(hx:Fc h N x q)(l1:wl q.num<1000000000):Fn A.C 145 [x] h N (fun v h' n'=>Fc h' n' v (-q)):=by
 intro w
 rw[Zab,A.k145 (by simp)]
 obtain⟨n1,u1,n2,u2,rfl,s1,s2⟩:=hx
 have o1:=Zat s1
 have o2:=Zat s2
 unfold V.one at o1 o2
 have kB:Keeps h N ((h.set N (.cells [.int .i64 n1,u1,.int .i64 n2,u2] 102 true)).set (N+1) (.cells [.int .i64 0,.nilslice,.int .i64 0,.nilslice] 102 true)) (N+2):=kset (kset Keeps.refl _) _
 simp[A.b145,Zah,slc,o1,o2]
 generalize hhB:(h.set N (.cells [.int .i64 n1,u1,.int .i64 n2,u2] 102 true)).set (N+1) (.cells [.int .i64 0,.nilslice,.int .i64 0,.nilslice] 102 true)=hB at*
 have b1:hB.get N=some (.cells [.int .i64 n1,u1,.int .i64 n2,u2] 102 true):=by rw[←hhB];simp
 have b3:hB.get (N+1)=some (.cells [.int .i64 0,.nilslice,.int .i64 0,.nilslice] 102 true):=by rw[←hhB];simp
 refine Zaa (Zn8 (s1.keep kB) (by omega)) ?_
 rintro v5 h1 m1 k1 q1
 obtain⟨n3,u3,rfl⟩:∃n3 u3,v5=.agg [.int .i64 n3,u3]:=by
  rcases q1 with⟨rfl,_⟩|⟨_,_,_,_,rfl,_⟩<;>exact⟨_,_,rfl⟩
 have o3:=Zat q1
 unfold V.one at o3
 have kle1:=k1.le
 have f1:=(k1.get N (by omega)).trans b1
 have f3:=(k1.get (N+1) (by omega)).trans b3
 have e1:N<m1:=by omega
 have e2:N+1<m1:=by omega
 simp[f1,f3,e1,e2,Zah,slc,splice,Zal,o2,o3,Zam.chk,Ret]
 have kk:=kB.trans k1
 exact⟨kk.set (by omega),n3,u3,n2,u2,rfl,by rw[Rat.neg_num];exact q1.setNU (i:=N+1) f3 nu0 rfl,by rw[Rat.neg_den];exact((s2.keep kB).keep k1).setNU (i:=N+1) f3 nu0 rfl⟩
def Ybg{x y:V}{p q:Rat}{h:T O}{N:Nat}(hx:Fc h N x p)(hy:Fc h N y q)(l1:wl p.num<1000000000)(l2:wl (p.den:Nat)<1000000000)(l3:wl q.num<1000000000)(l4:wl (q.den:Nat)<1000000000):Fn A.C 71 [x,y] h N (fun v h' n'=>Fc h' n' v (p-q)):=by
 intro w
 rw[Zab,A.k71 (by simp)]
 have hx0:=hx
 have hy0:=hy
 obtain⟨n1,u1,n2,u2,rfl,s1,s2⟩:=hx
 obtain⟨n3,u3,n4,u4,rfl,s3,s4⟩:=hy
 have o1:=Zat s1
 have o2:=Zat s2
 have o3:=Zat s3
 have o4:=Zat s4
 unfold V.one at o1 o2 o3 o4
 have kB:Keeps h N (((h.set N (.cells [.int .i64 n1,u1,.int .i64 n2,u2] 102 true)).set (N+1) (.cells [.int .i64 n3,u3,.int .i64 n4,u4] 102 true)).set (N+2) (.cells [.int .i64 0,.nilslice,.int .i64 0,.nilslice] 102 true)) (N+3):=kset (kset (kset Keeps.refl _) _) _
 simp[A.b71,Zah,slc,o1,o2,o3,o4]
 generalize hhB:((h.set N (.cells [.int .i64 n1,u1,.int .i64 n2,u2] 102 true)).set (N+1) (.cells [.int .i64 n3,u3,.int .i64 n4,u4] 102 true)).set (N+2) (.cells [.int .i64 0,.nilslice,.int .i64 0,.nilslice] 102 true)=hB at*
 have b1:hB.get N=some (.cells [.int .i64 n1,u1,.int .i64 n2,u2] 102 true):=by rw[←hhB];simp
 have b2:hB.get (N+1)=some (.cells [.int .i64 n3,u3,.int .i64 n4,u4] 102 true):=by rw[←hhB];simp
 have b3:hB.get (N+2)=some (.cells [.int .i64 0,.nilslice,.int .i64 0,.nilslice] 102 true):=by rw[←hhB];simp
 refine Zaa (Zpd (hy0.keep kB) l3) ?_
 rintro v5 h1 m1 k1 q1
 have kle1:=k1.le
 have f1:=(k1.get N (by omega)).trans b1
 have f2:=(k1.get (N+1) (by omega)).trans b2
 have f3:=(k1.get (N+2) (by omega)).trans b3
 have e1:N<m1:=by omega
 have e2:N+1<m1:=by omega
 simp
 refine Zaa (Zpf ((hx0.keep kB).keep k1) q1 l1 l2 (by rw[Rat.neg_num,Zpw];exact l3) (by rw[Rat.neg_den];exact l4)) ?_
 rintro v7 h3 m3 k3 hv
 rw[←Rat.sub_eq_add_neg]at hv
 obtain⟨n5,u5,n6,u6,rfl,t1,t2⟩:=hv
 have o5:=Zat t1
 have o6:=Zat t2
 unfold V.one at o5 o6
 have kle3:=k3.le
 have f5:=(k3.get (N+2) (by omega)).trans f3
 have e3:N+2<m3:=by omega
 simp[f5,e3,Zah,slc,splice,Zal,o5,o6,Zam.chk,Ret]
 have kk:=(kB.trans k1).trans k3
 exact⟨kk.set (by omega),n5,u5,n6,u6,rfl,t1.setNU (i:=N+2) f5 nu0 rfl,t2.setNU (i:=N+2) f5 nu0 rfl⟩
def Qb.wls{q:Rat}{k:Nat}(h:Qb k q):wl q.num≤k∧wl (q.den:Nat)≤k:=⟨Yc0 h.1,Yc0 (z:=(q.den:Int)) (k:=k) (by rw[Yqk];exact h.2)⟩
def A.b100:=A.q Tryz.f100
def A.k100:=@A.kk 100 14 [.tmp 2] A.b100 (by kernel_rfl) rfl
def A.w16:=A.q Tryz.f16
def A.lb16_0:=A.ql A.w16 0 []
def A.b16:=(fun x0=>A.qb A.w16 [x0]) A.lb16_0
def A.k16:=@A.kk 16 19 [.tmp 2] A.b16 (by kernel_rfl) rfl
def A.b17:=A.q Tryz.f17
def A.k17:=@A.kk 17 15 [.tmp 6] A.b17 (by kernel_rfl) rfl
def A.b98:=A.q Tryz.f98
def A.k98:=@A.kk 98 12 [.tmp 2] A.b98 (by kernel_rfl) rfl
def Zfw{q:Rat}:sg3 q.num<0↔q<0:=by
 have:q<0↔q.num<0:=by
  rw[Rat.lt_iff];simp
 rw[this];unfold sg3;split
 ·simp[*]
 ·split<;>simp[*]<;>omega
def Zjm(s:Str):Int:=if chkNum s=0 then (if ratS s<0 then 3 else 0) else (chkNum s:Nat)
def Zim{q:Rat}{k:Nat}(hq:Qb k q)(hk:k≤90000){h:T O}{N:Nat}:Fn A.C 102 [.str (Zaq q)] h N (fun v h' n'=>Fc h' n' v q):=
 Yjj (by have:=Zgf hq.1;omega) (by
  have:=Zgf (z:=(q.den:Int)) (k:=k) (by simpa using hq.2)
  unfold decI at this;rw[Yqe (by omega)]at this;simp at this;omega)
def Zuq{s:Str}{n:Nat}(hl:s.length≤n)(hn:n≤20000){h:T O}{N:Nat}:Fn A.C 100 [.str s] h N (fun u _ _=>u=.int .i64 (Zjm s)):=by
 intro w
 rw[Zab,A.k100 (by simp)]
 simp(disch:=first|(simp;done)|omega|rfl) [-getElem?_pos,A.b100]
 refine Zaa (Yfn (by omega)) ?_
 rintro _ h1 n1 k1 rfl
 by_cases c:chkNum s=0
 ·have hq:=Ze6 c hl
  have e:=(Zco c).1
  have c':=c
  unfold Zjm
  rw[Yqi c]
  generalize ratS s=q at*
  subst e
  simp(disch:=first|(simp;done)|omega|rfl) [-getElem?_pos,c',Zak]
  refine Zaa (Zim hq (by omega)) ?_
  rintro v h2 n2 k2 hv
  simp(disch:=first|(simp;done)|omega|rfl) [-getElem?_pos,]
  refine Zaa (Zu8 hv) ?_
  rintro _ h3 n3 k3 rfl
  by_cases hz:q<0
  ·have:=Zfw.2 hz
   simp(disch:=first|(simp;done)|omega|rfl) [-getElem?_pos,this,Zh6,Ret,hz]
   exact(k1.trans k2).trans k3
  ·have:¬sg3 q.num<0:=fun hc=>hz (Zfw.1 hc)
   simp(disch:=first|(simp;done)|omega|rfl) [-getElem?_pos,this,Zh6,Ret,hz]
   exact(k1.trans k2).trans k3
 ·have c':¬((chkNum s:Nat):Int)=0:=by omega
  simp(disch:=first|(simp;done)|omega|rfl) [-getElem?_pos,c',Zak,Zjm,c,Ret]
  exact k1
def Zwd{h:T O}{N:Nat}{v:V}{l:List Int}{w:List Nat}(hs:Sl h N v (dI l))(hl:l.length<1000):A.C.call (.func 16 [] []) [v] ⟨h,N,w⟩=some (.int .i64 (Zau l),⟨h,N,w⟩):=by
 apply Call.eq
 have hlen:=hs.len
 rw[Zas]at hlen
 rw[Zab,A.k16 (by simp)]
 simp(disch:=first|(simp;done)|omega|rfl) [-getElem?_pos,A.b16]
 refine Zaj [(2,18)] (fun e r st=>st=⟨h,N,[]⟩∧((e=.exit 0∧Zau l=0)∨(e=.ret∧r.get 2=some (.int .i64 (Zau l))))) (fun m r st=>st=⟨h,N,[]⟩∧∃k,k+m=l.length∧r.get 3=some (.int .i64 k)∧Zau l=Zau (l.drop k)) l.length ?_ ?_ ?_
 ·exact⟨rfl,0,by omega,by simp,by simp⟩
 ·rintro m r _ hr hf ⟨rfl,k,hk,h7,hz⟩
  rw[Zai]
  cases m with
  |zero=>
   obtain rfl:k=l.length:=by omega
   rw[Ysx,Zau]at hz
   simp(disch:=first|(simp;done)|omega|rfl) [-getElem?_pos,A.lb16_0,hr,hf,h7,hlen,hz]
  |succ m=>
   have hlt:k<l.length:=by omega
   obtain⟨c,hc⟩:=Zan hlt
   obtain⟨i,o,cc,e,rw,q1,q2,q3,q4⟩:=hs.at (Zbf hc)
   rw[Za2 hc,Zau]at hz
   have hk1:(k:Int)<(l.length:Int):=by omega
   by_cases h0:c=0
   ·rw[Yqi h0]at hz
    simp(disch:=first|(simp;done)|omega|rfl) [-getElem?_pos,A.lb16_0,hr,hf,h7,hk1,hlt,hlen,q1,q3,q4,Zak,h0]
    exact⟨m,by omega,k+1,by omega,by simp,hz⟩
   ·rw[Yqe h0]at hz
    simp(disch:=first|(simp;done)|omega|rfl) [-getElem?_pos,A.lb16_0,hr,hf,h7,hk1,hlt,hlen,q1,q3,q4,Zak,h0,hz]
 ·rintro _ r _ hr ⟨rfl,⟨rfl,hz⟩|⟨rfl,h2⟩⟩
  ·simp(disch:=first|(simp;done)|omega|rfl) [-getElem?_pos,hr,hz]
  ·simp(disch:=first|(simp;done)|omega|rfl) [-getElem?_pos,hr,h2]
def Zue{h:T O}{N i:Nat}{w:List Nat}{a0 a1:Int}(hi:i<N):A.C.call (.func 16 [] []) [.slice i 0 2 (some 2) 1] ⟨h.set i (.cells [.int .i64 a0,.int .i64 a1] 3 true),N,w⟩=some (.int .i64 (Zau [a0,a1]),⟨h.set i (.cells [.int .i64 a0,.int .i64 a1] 3 true),N,w⟩):=
 Zwd (l:=[a0,a1]) (Sl.row (e:=3) (rw:=true) (cp:=some 2) hi (by simp[dI]) rfl (by simp)) (by simp)
def Zwc{x lo hi:Int}{st:St}:A.C.call (.func 17 [] []) [.int .i64 x,.int .i64 lo,.int .i64 hi] st=some (.int .i64 (if x<lo∨hi<x then 3 else 0),st):=by
 apply Call.eq
 rw[Zab,A.k17 (by simp)]
 by_cases h1:x<lo
 ·simp(disch:=first|(simp;done)|omega|rfl) [-getElem?_pos,A.b17,h1]
 ·by_cases h2:hi<x<;>simp(disch:=first|(simp;done)|omega|rfl) [-getElem?_pos,A.b17,h1,h2]
def Zse{s:Str}(hl:s.length<9223372036854775808){h:T O}{N:Nat}:Fn A.C 98 [.str s] h N (fun u _ _=>u=.int .i64 (Zjm s)):=by
 intro w
 rw[Zab,A.k98 (by simp)]
 simp(disch:=first|(simp;done)|omega|rfl) [-getElem?_pos,A.b98]
 refine Zaa (Zwb hl) ?_
 rintro _ h1 n1 k1 rfl
 by_cases c:chkNum s=0
 ·have e:=(Zco c).1
  have c':=c
  unfold Zjm
  rw[Yqi c]
  generalize ratS s=q at*
  subst e
  have hs:=fun st=>Zjf (q:=q) (st:=st)
  by_cases hz:q<0
  ·have:=Zfw.2 hz
   simp(disch:=first|(simp;done)|omega|rfl) [-getElem?_pos,this,c',Zak,hs,Ret,hz]
   exact k1
  ·have:¬sg3 q.num<0:=fun hc=>hz (Zfw.1 hc)
   simp(disch:=first|(simp;done)|omega|rfl) [-getElem?_pos,this,c',Zak,hs,Ret,hz]
   exact k1
 ·have c':¬((chkNum s:Nat):Int)=0:=by omega
  simp(disch:=first|(simp;done)|omega|rfl) [-getElem?_pos,c',Zak,Zjm,c,Ret]
  exact k1
variable {N:Nat} {d:Int} {g l:Str} {h:T O}
def A.b26:=A.q Tryz.f26
def A.k26:=@A.kk 26 30 [.tmp 2] A.b26 (by kernel_rfl) rfl
def A.b25:=A.q Tryz.f25
def A.k25:=@A.kk 25 27 [.tmp 2] A.b25 (by kernel_rfl) rfl
def A.b24:=A.q Tryz.f24
def A.k24:=@A.kk 24 19 [.tmp 2] A.b24 (by kernel_rfl) rfl
def A.b86:=A.q Tryz.f86
def A.k86:=@A.kk 86 9 [.tmp 4] A.b86 (by kernel_rfl) rfl
def A.b84:=A.q Tryz.f84
def A.k84:=@A.kk 84 9 [.tmp 4] A.b84 (by kernel_rfl) rfl
def Zzn{i:Nat}{w:List Nat}{a0 a1 a2:Int}(hi:i<N):A.C.call (.func 99 [] []) [.slice i 0 3 (some 3) 1] ⟨h.set i (.cells [.int .i64 a0,.int .i64 a1,.int .i64 a2] 26 true),N,w⟩=some (.int .i64 (Zau [a0,a1,a2]),⟨h.set i (.cells [.int .i64 a0,.int .i64 a1,.int .i64 a2] 26 true),N,w⟩):=
 Zva (l:=[a0,a1,a2]) (Sl.row (e:=26) (rw:=true) (cp:=some 3) hi (by simp[dI]) rfl (by simp)) (by simp)
def Zjh{a b:Rat}{j k:Nat}(ha:Qb j a)(hb:Qb k b)(hj:j≤400000000)(hk:k≤400000000)(hl:(Zaq b).length<1000000000):Fn A.C 86 [.str (Zaq a),.str (Zaq b)] h N (fun u _ _=>u=.str (Zaq (a-b))):=by
 intro w
 have hn:=fun st=>Yim (q:=b) (st:=st) hl
 rw[Zab,A.k86 (by simp)]
 simp[A.b86,hn]
 refine Zaa (Zpq (a:=a) (b:= -b) ha hb.neg hj hk) ?_
 rintro _ H1 n1 k1 rfl
 rw[←Rat.sub_eq_add_neg]
 simp[Ret]
 exact k1
def Zuc{a b:Rat}{j k:Nat}(ha:Qb j a)(hb:Qb k b)(hj:j≤400000000)(hk:k≤400000000)(hl:(Zaq b).length<1000000000):Fn A.C 84 [.str (Zaq a),.str (Zaq b)] h N (fun u _ _=>u=.int .i64 (sg3 (a-b).num)):=by
 intro w
 rw[Zab,A.k84 (by simp)]
 simp[A.b84]
 refine Zaa (Zjh ha hb hj hk hl) ?_
 rintro _ H1 n1 k1 rfl
 have hs:=fun st=>Zjf (q:=a-b) (st:=st)
 simp[hs,Ret]
 exact k1
def Zy2{z:Int}:sg3 z > 0↔0<z:=by
 unfold sg3;split
 ·constructor<;>intro<;>omega
 ·split<;>constructor<;>intro<;>omega
def Zzy{q:Rat}:0<q.num↔0<q:=by rw[Rat.lt_iff (a:=0)];simp
def Ykr:Zaq 1=[49]:=by decide+kernel
def Zbj(g l p:Str)(d:Int):Int:=if Zau [Zjm g,Zjm l]=0 then (if 1<ratS l then 3 else Zau [Zjm p,if d<0∨6<d then 3 else 0]) else Zau [Zjm g,Zjm l]
def Zio{a b:Int}(h:Zau [a,b]=0):a=0∧b=0:=by
 unfold Zau at h
 split at h
 ·rename_i ha;unfold Zau at h;split at h
  ·exact⟨ha,by assumption⟩
  ·omega
 ·omega
def Zz7{s:Str}(h:Zjm s=0):chkNum s=0∧¬ratS s<0:=by
 unfold Zjm at h
 split at h
 ·rename_i c;split at h
  ·omega
  ·exact⟨c,by assumption⟩
 ·omega
def Ycf{p:Str}{n:Nat}(hg:g.length≤n)(hl:l.length≤n)(hp:p.length≤n)(hn:n≤20000){h:T O}{N:Nat}:Fn A.C 26 [.agg [.str g,.str l,.str p,.int .i64 d]] h N (fun u _ _=>u=.int .i64 (Zbj g l p d)):=by
 intro w
 rw[Zab,A.k26 (by simp)]
 have kB:=kset (Keeps.refl (h:=h) (n:=N)) (.cells [.str g,.str l,.str p,.int .i64 d] 48 true)
 simp(disch:=first|(simp;done)|omega|rfl) [-getElem?_pos,A.b26]
 have b0:(h.set N (.cells [.str g,.str l,.str p,.int .i64 d] 48 true)).get N=some (.cells [.str g,.str l,.str p,.int .i64 d] 48 true):=by simp
 generalize h.set N (.cells [.str g,.str l,.str p,.int .i64 d] 48 true)=hB at*
 refine Zaa (Zuq hg hn) ?_
 rintro _ h1 n1 k1 rfl
 have e1:=k1.le
 have f1:=(k1.get N (by omega)).trans b0
 have g1:N<n1:=by omega
 simp(disch:=first|(simp;done)|omega|rfl) [-getElem?_pos,f1,g1]
 refine Zaa (Zuq hl hn) ?_
 rintro _ h2 n2 k2 rfl
 have e2:=k2.le
 have f2:=(k2.get N (by omega)).trans f1
 have g2:N<n2:=by omega
 have hi:n2<n2+1:=by omega
 have kC:=((kB.trans k1).trans k2).trans (kset (Keeps.refl (h:=h2) (n:=n2)) (.cells [.int .i64 (Zjm g),.int .i64 (Zjm l)] 26 true))
 simp(disch:=first|(simp;done)|omega|rfl) [-getElem?_pos,f2,g2,splice,Zam.chk,Zzo hi]
 by_cases c:Zau [Zjm g,Zjm l]=0
 ·have c0:=Zio c
  obtain⟨q0,q1⟩:=Zz7 c0.2
  have hq:=Ze6 q0 hl
  have e:=(Zco q0).1
  have f3:(h2.set n2 (.cells [.int .i64 (Zjm g),.int .i64 (Zjm l)] 26 true)).get N=some (.cells [.str g,.str l,.str p,.int .i64 d] 48 true):=by
   rw[T.get_set,Yqe (by omega)];exact f2
  generalize h2.set n2 (.cells [.int .i64 (Zjm g),.int .i64 (Zjm l)] 26 true)=h3 at*
  have e3:=kC.le
  have g3:N<n2+1:=by omega
  simp(disch:=first|(simp;done)|omega|rfl) [-getElem?_pos,c,Zak,f3,g3]
  unfold Zbj
  rw[Yqi c]
  generalize ratS l=q at*
  subst e
  refine Zaa (Zim hq (by omega)) ?_
  rintro v4 h4 n4 k4 hv4
  simp(disch:=first|(simp;done)|omega|rfl) [-getElem?_pos,]
  refine Zaa (Ybl (z:=1) (by omega) (by omega)) ?_
  rintro v5 h5 n5 k5 hv5
  have wq:=hq.wls
  have w1:=(Qb.int (z:=1) (k:=1) (by decide) (by decide)).wls
  simp(disch:=first|(simp;done)|omega|rfl) [-getElem?_pos,]
  refine Zaa (Ybo (hv4.keep k5) hv5 (by omega) (by omega) (by omega) (by omega)) ?_
  rintro _ h6 n6 k6 rfl
  have ec:(sg3 (q.num*(((1:Int):Rat).den:Nat)-((1:Int):Rat).num*(q.den:Nat)) > 0)↔1<q:=by
   have h1:1<q↔((1:Int):Rat).num*(q.den:Nat)<q.num*(((1:Int):Rat).den:Nat):=by
    rw[Rat.lt_iff];rfl
   rw[h1];unfold sg3;split
   ·constructor<;>intro<;>omega
   ·split<;>constructor<;>intro<;>omega
  generalize sg3 (q.num*(((1:Int):Rat).den:Nat)-((1:Int):Rat).num*(q.den:Nat))=cz at*
  have kD:=((kC.trans k4).trans k5).trans k6
  have e4:=k4.le
  have e5:=k5.le
  have e6:=k6.le
  have f6:=(((k4.trans k5).trans k6).get N (by omega)).trans f3
  have g6:N<n6:=by omega
  have hi6:=fun (m:Nat)=>Yrl m
  by_cases cc:1<q
  ·have cz1:0<cz:=ec.2 cc
   simp(disch:=first|(simp;done)|omega|rfl) [-getElem?_pos,f6,g6,cz1,Zh6]
   refine Zaa (Zuq hp hn) ?_
   rintro _ h7 n7 k7 rfl
   have e7:=k7.le
   have f7:=(k7.get N (by omega)).trans f6
   have g7:N<n7:=by omega
   have hi7:n7<n7+1:=by omega
   simp(disch:=first|(simp;done)|omega|rfl) [-getElem?_pos,f7,g7,Zpx,splice,Zam.chk,Zzn hi7,Ret,cc,Zau]
   exact(kD.trans k7).trans (kset (Keeps.refl) _)
  ·have cz1:¬0<cz:=fun h=>cc (ec.1 h)
   simp(disch:=first|(simp;done)|omega|rfl) [-getElem?_pos,f6,g6,cz1,Zh6]
   refine Zaa (Zuq hp hn) ?_
   rintro _ h7 n7 k7 rfl
   have e7:=k7.le
   have f7:=(k7.get N (by omega)).trans f6
   have g7:N<n7:=by omega
   have hi7:n7<n7+1:=by omega
   simp(disch:=first|(simp;done)|omega|rfl) [-getElem?_pos,f7,g7,Zpx,splice,Zam.chk,Zzn hi7,Ret,cc]
   exact⟨(kD.trans k7).trans (kset (Keeps.refl) _),by simp[Zau]⟩
 ·simp(disch:=first|(simp;done)|omega|rfl) [-getElem?_pos,c,Zak,Zbj,Ret]
  exact kC
def Yh6{p:Str}(hg:g.length<100000)(hl:l.length<100000)(hp:p.length<100000){h:T O}{N:Nat}:Fn A.C 25 [.agg [.str g,.str l,.str p,.int .i64 d]] h N (fun u _ _=>u=.int .i64 (Zbj g l p d)):=by
 intro w
 rw[Zab,A.k25 (by simp)]
 have kB:=kset (Keeps.refl (h:=h) (n:=N)) (.cells [.str g,.str l,.str p,.int .i64 d] 49 true)
 simp(disch:=first|(simp;done)|omega|rfl) [-getElem?_pos,A.b25]
 have b0:(h.set N (.cells [.str g,.str l,.str p,.int .i64 d] 49 true)).get N=some (.cells [.str g,.str l,.str p,.int .i64 d] 49 true):=by simp
 generalize h.set N (.cells [.str g,.str l,.str p,.int .i64 d] 49 true)=hB at*
 refine Zaa (Zse (by omega)) ?_
 rintro _ h1 n1 k1 rfl
 have e1:=k1.le
 have f1:=(k1.get N (by omega)).trans b0
 have g1:N<n1:=by omega
 simp(disch:=first|(simp;done)|omega|rfl) [-getElem?_pos,f1,g1]
 refine Zaa (Zse (by omega)) ?_
 rintro _ h2 n2 k2 rfl
 have e2:=k2.le
 have f2:=(k2.get N (by omega)).trans f1
 have g2:N<n2:=by omega
 have hi:n2<n2+1:=by omega
 have kC:=((kB.trans k1).trans k2).trans (kset (Keeps.refl (h:=h2) (n:=n2)) (.cells [.int .i64 (Zjm g),.int .i64 (Zjm l)] 3 true))
 simp(disch:=first|(simp;done)|omega|rfl) [-getElem?_pos,f2,g2,splice,Zam.chk,Zue hi]
 by_cases c:Zau [Zjm g,Zjm l]=0
 ·have c0:=Zio c
  obtain⟨q0,q1⟩:=Zz7 c0.2
  have hq:=Ze6 q0 (Yqg _)
  have e:=(Zco q0).1
  have f3:(h2.set n2 (.cells [.int .i64 (Zjm g),.int .i64 (Zjm l)] 3 true)).get N=some (.cells [.str g,.str l,.str p,.int .i64 d] 49 true):=by
   rw[T.get_set,Yqe (by omega)];exact f2
  generalize h2.set n2 (.cells [.int .i64 (Zjm g),.int .i64 (Zjm l)] 3 true)=h3 at*
  have e3:=kC.le
  have g3:N<n2+1:=by omega
  simp(disch:=first|(simp;done)|omega|rfl) [-getElem?_pos,c,Zak,f3,g3]
  unfold Zbj
  rw[Yqi c]
  generalize ratS l=q at*
  subst e
  have hc:=Zuc (a:=q) (b:=1) (k:=1) (h:=h3) (N:=n2+1) hq (by unfold Qb;decide) (by have:=hl;have:=Zgf hq.1;omega) (by decide) (by rw[Ykr];decide)
  rw[Ykr]at hc
  refine Zaa hc ?_
  rintro _ h6 n6 k6 rfl
  have e6:=k6.le
  have f6:=(k6.get N (by omega)).trans f3
  have g6:N<n6:=by omega
  by_cases cc:1<q
  ·have cz1:0<sg3 (q-1).num:=Zy2.2 (Zzy.2 (by have:=cc;rw[Rat.sub_eq_add_neg];rw[Rat.lt_iff_sub_pos]at this;simpa[Rat.sub_eq_add_neg]using this))
   simp(disch:=first|(simp;done)|omega|rfl) [-getElem?_pos,f6,g6,cz1,Ret,cc]
   exact kC.trans k6
  ·have cz1:¬0<sg3 (q-1).num:=fun h=>cc (by have:=Zzy.1 (Zy2.1 h);rw[Rat.lt_iff_sub_pos];exact this)
   simp(disch:=first|(simp;done)|omega|rfl) [-getElem?_pos,f6,g6,cz1]
   refine Zaa (Zse (by omega)) ?_
   rintro _ h7 n7 k7 rfl
   have e7:=k7.le
   have f7:=(k7.get N (by omega)).trans f6
   have g7:N<n7:=by omega
   have hi7:n7<n7+1:=by omega
   simp(disch:=first|(simp;done)|omega|rfl) [-getElem?_pos,f7,g7,Zwc,splice,Zam.chk,Zue hi7,Ret,cc]
   exact(((kC.trans k6)).trans k7).trans (kset (Keeps.refl) _)
 ·simp(disch:=first|(simp;done)|omega|rfl) [-getElem?_pos,c,Zak,Zbj,Ret]
  exact kC
def Ydk{p:Str}(hg:g.length<9223372036854775808)(hl:l.length<9223372036854775808)(hp:p.length<9223372036854775808):Fn A.C 24 [.agg [.str g,.str l,.str p,.int .i64 d]] h N (fun u _ _=>u=.bool (decide (g.length≤40∧l.length≤40∧p.length≤40))):=by
 intro w
 rw[Zab,A.k24 (by simp)]
 by_cases c1:g.length≤40
 ·have d1:(g.length:Int)≤40:=by omega
  by_cases c2:l.length≤40
  ·have d2:(l.length:Int)≤40:=by omega
   by_cases c3:p.length≤40
   ·have d3:(p.length:Int)≤40:=by omega
    simp(disch:=first|(simp;done)|omega|rfl) [-getElem?_pos,A.b24,d1,d2,d3,c1,c2,c3,Ret]
    exact kset (Keeps.refl) _
   ·have d3:¬(p.length:Int)≤40:=by omega
    simp(disch:=first|(simp;done)|omega|rfl) [-getElem?_pos,A.b24,d1,d2,d3,c1,c2,c3,Ret]
    exact kset (Keeps.refl) _
  ·have d2:¬(l.length:Int)≤40:=by omega
   simp(disch:=first|(simp;done)|omega|rfl) [-getElem?_pos,A.b24,d1,d2,c1,c2,Ret]
   exact kset (Keeps.refl) _
 ·have d1:¬(g.length:Int)≤40:=by omega
  simp(disch:=first|(simp;done)|omega|rfl) [-getElem?_pos,A.b24,d1,c1,Ret]
  exact kset (Keeps.refl) _
variable {N:Nat} {h:T O}
def A.w93:=A.q Tryz.f93
def A.lb93_0:=A.ql A.w93 0 []
def A.b93:=(fun x0=>A.qb A.w93 [x0]) A.lb93_0
def A.k93:=@A.kk 93 14 [.tmp 2] A.b93 (by kernel_rfl) rfl
def Zv1{l:List V}{i:Nat}{u:V}(h:i<l.length):splice l i [u]=l.set i u:=by
 unfold splice
 rw[List.set_eq_take_append_cons_drop,Yqi h]
 simp
def Yn3{l:List V}:(l.map fun y=>[y]).flatten=l:=by
 induction l with
 |nil=>rfl
 |cons a t ih=>simp[ih]
structure RwS (h:T O) (N R:Nat) (l:List Rat):Prop where
 lt:R<N
 get:h.get R=some (.cells (tx l) 30 true)
def RwS.put{R j:Nat}{l:List Rat}{q:Rat}(s:RwS h N R l)(hj:j<l.length):splice (tx l) j [.str (Zaq q)]=tx (l.set j q)∧RwS (h.set R (.cells (tx (l.set j q)) 30 true)) N R (l.set j q):=by
 refine⟨?_,s.lt,by rw[T.get_set,Yqi rfl]⟩
 rw[Zv1 (by rw[Zfc];exact hj)]
 simp[tx,strs,List.map_set]
def RwS.txt{R:Nat}{l:List Rat}(s:RwS h N R l):TxT h N (.slice R 0 l.length none 1) l:=⟨Sl.row s.lt s.get (Zfc l) (fun k hk=>by cases hk),fun i hi=>by
 simp[Zhk]at hi
 subst hi
 exact⟨_,_,s.get⟩⟩
def Zy8{n:Nat}(h0:0<n)(hn:n<1000):Fn A.C 93 [.int .i64 n] h N (fun x h' n'=>∃R,x=.slice R 0 n none 1∧N≤R∧RwS h' n' R ((List.range n).map fun _=>0)):=by
 intro w
 rw[Zab,A.k93 (by simp)]
 simp(disch:=first|(simp;done)|omega|rfl) [-getElem?_pos,A.b93]
 refine Zaj [(3,12)] (fun e r st=>e=.exit 0∧Zac N st.w=[]∧Keeps h N st.h st.n∧∃v,r.get 3=some v∧Own 1 30 N st.h st.n v ((tx ((List.range n).map fun _=>0)).map fun y=>[y])) (fun m r st=>Zac N st.w=[]∧Keeps h N st.h st.n∧∃t v,t+m=n∧r.get 4=some (.int .i64 t)∧r.get 3=some v∧Own 1 30 N st.h st.n v ((tx ((List.range t).map fun _=>0)).map fun y=>[y])) n ?_ ?_ ?_
 ·exact⟨by simp,Keeps.refl,0,_,by omega,by simp,by simp,Own.nil⟩
 ·rintro m r ⟨H,n1,W⟩ hr hf ⟨hW,hK,t,v,ht,h4,h3,hO⟩
  simp only at hW hK hO
  rw[Zai]
  have le:=hK.le
  cases m with
  |zero=>
   obtain rfl:t=n:=by omega
   simp(disch:=first|(simp;done)|omega|rfl) [-getElem?_pos,A.lb93_0,hr,hf,h3,h4,hW,hK]
   exact hO
  |succ m=>
   have hlt:t<n:=by omega
   have hlt':(t:Int)<(n:Int):=by omega
   have sp1:splice [V.str []] 0 [.str [48]]=[.str [48]]:=rfl
   have kD:Keeps H n1 (H.set n1 (.cells [.str [48]] 30 true)) (n1+1):=Keeps.refl.new _
   obtain⟨v',h',w',j1,j2,j3,_,j5⟩:=Zbw (x:=[.str [48]]) (u:=.slice n1 0 1 (some 1) 1) (bytes:=16) (w:=W) (hO.keep kD) (by omega) (by decide) rfl (by simp[Zbc,St.row,slc]) (by simp[tx,strs];omega)
   have kF:Keeps h N h' (n1+1+1):=(hK.trans kD).then j3
   simp(disch:=first|(simp;done)|omega|rfl) [-getElem?_pos,A.lb93_0,hr,hf,h3,h4,hlt,hlt',sp1,Zk2,j1,j2,hW,kF]
   refine⟨m,by omega,t+1,by omega,by simp,?_⟩
   have e:(tx ((List.range (t+1)).map fun _=>(0:Rat))).map (fun y=>[y])=(tx ((List.range t).map fun _=>(0:Rat))).map (fun y=>[y])++[[.str [48]]]:=by
    rw[List.range_succ,List.map_append]
    simp[tx,strs]
    rfl
   rw[e]
   exact j5
 ·rintro _ r ⟨H,n1,W⟩ hr ⟨rfl,hW,hK,v,h3,hO⟩
  simp only at hW hK hO
  obtain⟨hl,⟨hz,_⟩|⟨R,rfl,h1,h2,h3'⟩⟩:=hO
  ·have:=congrArg List.length hz
   simp[tx,strs]at this
   omega
  ·simp(disch:=first|(simp;done)|omega|rfl) [-getElem?_pos,hr,h3,Ret,hW,hK]
   refine⟨R,⟨rfl,by rw[Zfc];simp⟩,h1,h2,?_⟩
   rw[h3',Yn3]
def FcC.up{h:T O}{N:Nat}{c:List V}{q:Rat}(s:FcC h N c q):Fc h N (.agg c) q:=by
 obtain⟨a,b,c,d,rfl,e,f⟩:=s
 exact⟨a,b,c,d,rfl,e,f⟩
variable {N:Nat} {h h':T O} {v:V}
abbrev NW(y:V):Prop:=∀m,y≠.int .u64 m
def In.moved{n n':Nat}{x:V}{z:Int}{e:TypeId}(s:In h n x z)(k:Upd (fun i=>i∈Zhk v) h n h' n')(hd:Ymm e NW h v):In h' n' x z:=by
 rcases s with s|⟨i,o,l,c,s1,s2,s3⟩
 ·exact .inl s
 ·refine .inr ⟨i,o,l,c,s1,Sl.moved s2 k fun j hj hjv=>?_,s3⟩
  simp[Zhk]at hj
  subst hj
  obtain⟨z2,g1,_,g3⟩:=hd j hjv
  unfold Wn at s2
  have hne:wds z.natAbs≠[]:=fun h0=>by
   have:=Zbm z.natAbs
   rw[h0]at this
   simp[val]at this
   omega
  obtain⟨d,ds,hds⟩:=List.exists_cons_of_ne_nil hne
  have hat:(dg (wds z.natAbs))[0]?=some (.int .u64 d):=by rw[hds];simp[dg]
  obtain⟨i2,o2,c2,e2,rw2,q1,q2,q3,q4⟩:=Sl.at s2 hat
  simp[Zno]at q1
  obtain⟨rfl,rfl⟩:=q1
  rw[g1]at q3
  simp only[Yqc,O.cells.injEq]at q3
  obtain⟨rfl,_⟩:=q3
  exact g3 _ (Yqn q4) _ rfl
def FcC.moved{n n':Nat}{c:List V}{q:Rat}{e:TypeId}(s:FcC h n c q)(k:Upd (fun i=>i∈Zhk v) h n h' n')(hd:Ymm e NW h v):FcC h' n' c q:=by
 obtain⟨n1,u1,n2,u2,rfl,s1,s2⟩:=s
 exact⟨n1,u1,n2,u2,rfl,s1.moved k hd,s2.moved k hd⟩
def Sn.row_lt{z:Nat}{l:List (List V)}(s:Sn z h N v l):∀i∈Zhk v,i<N:=fun i hi=>by
 rcases s with⟨_,rfl|rfl⟩|⟨j,o,cp,c,e,rw,rfl,hj,_⟩
 ·simp[Zhk]at hi
 ·simp[Zhk]at hi
 ·simp[Zhk]at hi;omega
def Sn.moved{z:Nat}{D:Nat→Prop}{N':Nat}{l:List (List V)}(s:Sn z h N v l)(k:Upd D h N h' N')(hd:∀i∈Zhk v,¬D i):Sn z h' N' v l:=by
 rcases s with s|⟨i,o,cp,c,e,rw,rfl,h2,h3,h4⟩
 ·exact .inl s
 ·exact .inr ⟨i,o,cp,c,e,rw,rfl,Yqq h2 k.le,(k.get i h2 (hd i (by simp[Zhk]))).trans h3,h4⟩
def FrT.keep{N':Nat}{u:V}{l:List Rat}(s:FrT h N u l)(k:Keeps h N h' N'):FrT h' N' u l:=⟨s.1.keep k,fun i hi=>by
 obtain⟨cs,h1,_⟩:=s.1
 rw[k.get i (h1.row_lt i hi)]
 exact s.2 i hi⟩
def Ylg{N0:Nat}{out:List (List V)}{l:List Rat}(s:Own 4 102 N0 h N v out)(hl:out.length=l.length)(hc:∀(j:Nat),j<l.length→∃c,out[j]?=some c∧∀q,l[j]?=some q→FcC h N c q):FrT h N v l:=by
 refine⟨⟨out,s.sn,hl,fun j q hq=>?_⟩,fun i hi=>?_⟩
 ·obtain⟨c,g1,g2⟩:=hc j (Zct hq)
  exact⟨c,g1,g2 q hq⟩
 ·obtain⟨_,⟨_,rfl⟩|⟨j,rfl,_,_,hg⟩⟩:=s
  ·simp[Zhk]at hi
  ·simp[Zhk]at hi;subst hi;exact⟨_,_,hg⟩
set_option maxHeartbeats 4000000
def pg(p:List Rat)(i:Nat):Rat:=(p[i]?).getD 0
def Zce{p:List Rat}{i:Nat}(h:i<p.length):p[i]?=some (pg p i):=by
 unfold pg;rw[Yqh h];rfl
end
end Go.Mx
