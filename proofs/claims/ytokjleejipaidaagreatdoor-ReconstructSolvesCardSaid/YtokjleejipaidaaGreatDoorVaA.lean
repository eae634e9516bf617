/-lensletref05-/
import Derived.Test.YtokjleejipaidaaGreatDoorNdC
set_option linter.all false
namespace Go.Mx
noncomputable section
open Go Go.Proofs
variable {N j k:Nat} {b l:List Rat} {h:T O} {m:List (List Rat)} {v:V}
set_option maxRecDepth 1000000
def A.P1:=A.q Tryz.f185
def A.sY:=A.ql A.P1 0 []
def A.b185:=(fun x0=>A.qb A.P1 [x0]) A.sY
def A.k185:=@A.kk 185 25 [.tmp 4] A.b185 (by kernel_rfl) rfl
def A.P2:=A.q Tryz.f132
def A.sZ:=A.ql A.P2 0 []
def A.b132:=(fun x0=>A.qb A.P2 [x0]) A.sZ
def A.k132:=@A.kk 132 23 [.tmp 4] A.b132 (by kernel_rfl) rfl
def jD(a b:List Rat):Nat->Rat
 |0=>0
 |k+1=>jD a b k+a[k]?.getD 0*b[k]?.getD 0
def lK(a b:List Rat):Rat:=jD a b a.length
def Qb.zero:Qb 1 0:=⟨by decide,by decide⟩
def Jw{l:List Rat}{k:Nat}(h:∀q∈l,Qb k q)(hk:1<=k)(j:Nat):Qb k (l[j]?.getD 0):=by
 cases hj:l[j]? with
 |none=>exact Qb.zero.mono hk
 |some q=>exact h q (bM hj)
def Tn{a b:List Rat}{j k:Nat}(ha:∀q∈a,Qb j q)(hb:∀q∈b,Qb k q)(hj:1<=j)(hk:1<=k):∀n,Qb (n*(j+k+1)+1) (jD a b n)
 |0=>by simpa[jD]using Qb.zero
 |n+1=>by
  have h:=(Tn ha hb hj hk n).add ((Jw ha hj n).mul (Jw hb hk n))
  exact h.mono (by rw[iY];omega)
def Tx(h:T O)(N:Nat)(v:V)(l:List Rat):Prop:=Sl h N v (tx l)
def Tx.ad{h':T O}{N':Nat}(s:Tx h N v l)(k:ab h N h' N'):Tx h' N' v l:=Sl.ad s k
def Tx.len(s:Tx h N v l):pA v=some l.length:=by
 have:=Sl.len s
 rwa [mq]at this
def Yoi{u:V}{a:List Rat}(hu:Tx h N u a)(hv:Tx h N v b)(ec:a.length<=b.length)(ha:∀q∈a,Qb j q)(hb:∀q∈b,Qb k q)(hj:1<=j)(hk:1<=k)(hl:a.length*(j+k+1)+j+k+1<=400000000):Fn A.C 185 [u,v] h N (fun x _ _=>x=.str (aP (lK a b))):=by
 intro w
 have l1:=hu.len
 have l2:=hv.len
 have hal:a.length<=400000000:=by have:=Nat.le_mul_of_pos_right a.length (show 0<j+k+1 by omega);omega
 rw[aM,A.k185 (by simp)]
 simp[A.b185]
 refine bA [(5,23)] (fun e r st=>e=.exit 0/\ar N st.w=[]/\ab h N st.h st.n/\r.get 5=some (.str (aP (lK a b)))) (fun m r st=>ar N st.w=[]/\ab h N st.h st.n/\∃t,t+m=a.length/\r.get 6=some (.int .i64 t)/\r.get 5=some (.str (aP (jD a b t)))) a.length ?_ ?_ ?_
 ·exact⟨by simp,ab.refl,0,by omega,by simp,by simp[jD,Ynk]⟩
 ·rintro m r ⟨H,n1,W⟩ hr hf ⟨hW,hK,t,ht,h6,h5⟩
  simp only at hW hK
  rw[bb]
  cases m with
  |zero=>
   obtain rfl:t=a.length:=by omega
   simp[A.sY,hr,hf,h6,h5,l1,hW,hK]
   rfl
  |succ m=>
   have au:t<a.length:=by omega
   have aS:(t:Int)<(a.length:Int):=by omega
   have jw:t<b.length:=by omega
   have Br:(t:Int)<(b.length:Int):=by omega
   obtain⟨p,hp⟩:=a_ au
   obtain⟨q,hq⟩:=a_ jw
   have uL:=ha p (bM hp)
   have iU:=hb q (bM hq)
   have zR:=Tn ha hb hj hk t
   have hmul:t*(j+k+1)<=a.length*(j+k+1):=ki _ (by omega)
   have e1:jD a b (t+1)=jD a b t+p*q:=by simp[jD,hp,hq]
   obtain⟨i,o,cc,e,rw,q1,q2,q3,q4⟩:=(Sl.ad hu hK).at (xw hp)
   obtain⟨i',o',cc',e',mP,p1,p2,p3,p4⟩:=(Sl.ad hv hK).at (xw hq)
   simp[A.sY,hr,hf,h6,h5,l1,l2,au,aS,jw,Br,q1,q2,q3,q4,p1,p2,p3,p4]
   refine ay (VV uL iU (by omega) (by omega)) ?_
   rintro _ H2 n2 k2 rfl
   simp[]
   refine ay (Yg9 zR (uL.mul iU) (by omega) (by omega)) ?_
   rintro _ H3 n3 k3 rfl
   rw[<-e1]
   simp(disch:=first|(simp;done)|omega|rfl) [hr,hf,h6,cn.cr,hW]
   exact⟨m,by omega,(hK.trans k2).trans k3,t+1,by omega,by simp,by simp⟩
 ·rintro _ r ⟨H,n1,W⟩ hr ⟨rfl,hW,hK,h5⟩
  simp only at hW hK
  simp[hr,h5,az,hW,hK]
def fA(h:T O)(N:Nat)(v:V)(m:List (List Rat)):Prop:=∃us:List V,Sl h N v us/\us.length=m.length/\∀(j:Nat) (l:List Rat),m[j]?=some l->∃u,us[j]?=some u/\Tx h N u l
def fA.ad{h':T O}{N':Nat}(s:fA h N v m)(k:ab h N h' N'):fA h' N' v m:=by
 obtain⟨us,h1,h2,h3⟩:=s
 refine⟨us,h1.ad k,h2,fun j l hl=>?_⟩
 obtain⟨u,g1,g2⟩:=h3 j l hl
 exact⟨u,g1,g2.ad k⟩
def fA.len(s:fA h N v m):pA v=some m.length:=by
 obtain⟨us,h1,h2,_⟩:=s
 rw[h1.len,h2]
def fA.at(s:fA h N v m){j:Nat}{l:List Rat}(hj:m[j]?=some l):∃i o c e rw u,xA v=some (i,o)/\i<N/\h.get i=some (.cells c e rw)/\c[o+j]?=some u/\Tx h N u l:=by
 obtain⟨us,h1,h2,h3⟩:=s
 obtain⟨u,g1,g2⟩:=h3 j l hj
 obtain⟨i,o,c,e,rw,q1,q2,q3,q4⟩:=h1.at g1
 exact⟨i,o,c,e,rw,u,q1,q2,q3,q4,g2⟩
def Ydv{u:V}{n:Nat}(hu:fA h N u m)(hv:Tx h N v b)(hm:∀r∈m,r.length=n/\∀q∈r,Qb j q)(hn:n<=b.length)(hb:∀q∈b,Qb k q)(hj:1<=j)(hk:1<=k)(hl:n*(j+k+1)+j+k+1<=400000000)(mj:m.length<100000):Fn A.C 132 [u,v] h N (fun x h' n'=>Own 1 41 N h' n' x ((tx (m.map fun r=>lK r b)).map fun y=>[y])):=by
 intro w
 have l1:=hu.len
 rw[aM,A.k132 (by simp)]
 simp[A.b132]
 refine bA [(5,21)] (fun e r st=>e=.exit 0/\ar N st.w=[]/\ab h N st.h st.n/\∃x,r.get 5=some x/\Own 1 41 N st.h st.n x ((tx (m.map fun r=>lK r b)).map fun y=>[y])) (fun i r st=>ar N st.w=[]/\ab h N st.h st.n/\∃t x,t+i=m.length/\r.get 6=some (.int .i64 t)/\r.get 5=some x/\Own 1 41 N st.h st.n x ((tx ((m.take t).map fun r=>lK r b)).map fun y=>[y])) m.length ?_ ?_ ?_
 ·exact⟨by simp,ab.refl,0,.aa,by omega,by simp,by simp,by simpa[tx,strs]using Own.nil⟩
 ·rintro i r ⟨H,n1,W⟩ hr hf ⟨hW,hK,t,x,ht,h6,h5,ho⟩
  simp only at hW hK ho
  rw[bb]
  cases i with
  |zero=>
   obtain rfl:t=m.length:=by omega
   rw[xE]at ho
   simp[A.sZ,hr,hf,h6,h5,l1,hW,hK]
   exact ho
  |succ i=>
   have au:t<m.length:=by omega
   have aS:(t:Int)<(m.length:Int):=by omega
   obtain⟨row,al⟩:=a_ au
   obtain⟨a1,a2⟩:=hm row (bM al)
   obtain⟨i',o,cc,e,rw,ru,q1,q2,q3,q4,q5⟩:=(hu.ad hK).at al
   simp[A.sZ,hr,hf,h6,h5,l1,au,aS,q1,q2,q3,q4]
   refine ay (Yoi q5 (hv.ad hK) (by omega) a2 hb hj hk (by rw[a1];exact hl)) ?_
   rintro _ H2 n2 k2 rfl
   have jA:=k2.le
   have fk:=hK.le
   have jf:(((tx ((m.take t).map fun r=>lK r b)).map fun y=>[y])).length<=100000:=by simp[mq];omega
   obtain⟨v',h',w',f1,f2,f3,_,f5⟩:=tJ (x:=[.str (aP (lK row b))]) (u:=.slice n2 0 1 (some 1) 1) (bytes:=16) (w:=W) ((ho.ad k2).ad (ab.refl.new (.cells [.str (aP (lK row b))] 41 true))) (by omega) (by decide) rfl (by simp[ef,St.row,aC]) (by omega)
   have e7:((tx ((m.take t).map fun r=>lK r b)).map fun y=>[y])++[[.str (aP (lK row b))]]=(tx ((m.take (t+1)).map fun r=>lK r b)).map fun y=>[y]:=by rw[uQ,al];simp[tx,strs]
   rw[e7]at f5
   simp(disch:=first|(simp;done)|omega|rfl) [hr,hf,h6,h5,ae,f1]
   exact⟨i,by omega,by rw[f2];exact hW,((hK.trans k2).trans (ab.refl.new (.cells [.str (aP (lK row b))] 41 true))).then f3,t+1,by omega,by simp,by rw[<-List.map_take];exact f5⟩
 ·rintro _ r ⟨H,n1,W⟩ hr ⟨rfl,hW,hK,x,h5,ho⟩
  simp only at hW hK ho
  simp[hr,h5,az,hW,hK]
  exact ho
variable {N n:Nat} {h h':T O} {l:List Rat} {m:List (List Rat)} {u v:V} {w:List Nat}
set_option maxHeartbeats 1000000
def A.w53:=A.q Tryz.f53
def A.xd:=A.ql A.w53 1 []
def A.xe:=(fun x0=>A.ql A.w53 0 [x0]) A.xd
def A.b53:=(fun x0=>A.qb A.w53 [x0]) A.xe
def A.k53:=@A.kk 53 41 [.tmp 2] A.b53 (by kernel_rfl) rfl
def A.Jg:=A.q Tryz.f130
def A.s_:=A.ql A.Jg 1 []
def A.ta:=(fun x0=>A.ql A.Jg 0 [x0]) A.s_
def A.b130:=(fun x0=>A.qb A.Jg [x0]) A.ta
def A.k130:=@A.kk 130 41 [.tmp 4] A.b130 (by kernel_rfl) rfl
def tP(h:T O)(N:Nat)(u:V)(l:List Rat):Prop:=Tx h N u l/\∀i∈cQ u,∃z w,h.get i=some (.cells z 41 w)
def Qt{l:List V}(s:Sl h N v l):∀i∈cQ v,i<N:=fun i hi=>by
 rcases s with⟨_,rfl|rfl⟩|⟨j,o,cp,c,e,rw,rfl,hj,_⟩
 ·simp[cQ]at hi
 ·simp[cQ]at hi
 ·simp[cQ]at hi;omega
def tP.ad{N':Nat}(s:tP h N u l)(k:ab h N h' N'):tP h' N' u l:=⟨s.1.ad k,fun i hi=>by rw[k.get i (Qt s.1 i hi)];exact s.2 i hi⟩
def tP.bO{n':Nat}{Y:V->Prop}{e:TypeId}(s:tP h n u l)(k:dS (fun i=>i∈cQ v) h n h' n')(hd:mM e Y h v)(he:e≠41):tP h' n' u l:=by
 have hn:∀i∈cQ u,i∉cQ v:=fun i hi hc=>by
  obtain⟨z,w,hz⟩:=s.2 i hi
  obtain⟨z2,eg,_⟩:=hd i hc
  rw[hz]at eg
  simp at eg
  exact he eg.2.1.symm
 exact⟨Sl.bO s.1 k hn,fun i hi=>by rw[k.get i (Qt s.1 i hi) (hn i hi)];exact s.2 i hi⟩
def Gn{N0:Nat}(s:Own 1 41 N0 h N v ((tx l).map fun y=>[y])):tP h N v l:=by
 refine⟨Sn.one.1 s.sn,fun i hi=>?_⟩
 obtain⟨_,⟨_,rfl⟩|⟨j,rfl,_,_,hg⟩⟩:=s
 ·simp[cQ]at hi
 ·simp[cQ]at hi;subst hi;exact⟨_,_,hg⟩
def gV(N0:Nat)(h:T O)(N:Nat)(v:V)(m:List (List Rat)):Prop:=∃us:List V,Own 1 23 N0 h N v (us.map fun y=>[y])/\(us=[]->v=.aa)/\us.length=m.length/\∀(j:Nat) (l:List Rat),m[j]?=some l->∃u,us[j]?=some u/\tP h N u l
def gV.nil{N0:Nat}:gV N0 h N .aa []:=⟨[],Own.nil,fun _=>rfl,rfl,fun j l hl=>by simp at hl⟩
def gV.ad{N0:Nat}{N':Nat}(s:gV N0 h N v m)(k:ab h N h' N'):gV N0 h' N' v m:=by
 obtain⟨us,h1,h2,h3,h4⟩:=s
 refine⟨us,h1.ad k,h2,h3,fun j l hl=>?_⟩
 obtain⟨u,g1,g2⟩:=h4 j l hl
 exact⟨u,g1,g2.ad k⟩
def gV.tI{N0:Nat}(s:gV N0 h N v m):fA h N v m:=by
 obtain⟨us,h1,h2,h3,h4⟩:=s
 refine⟨us,Sn.one.1 h1.sn,h3,fun j l hl=>?_⟩
 obtain⟨u,g1,g2⟩:=h4 j l hl
 exact⟨u,g1,g2.1⟩
def gV.push{N0:Nat}{x:V}(s:gV N0 h N v m)(hu:tP h N u l)(hN:N0<=N)(hx:ef ⟨h,N,w⟩ 1 x=some (1,[u]))(hm:m.length<100000):
  ∃v' h' w',gX ⟨h,N,w⟩ 1 24 23 v x=some (v',⟨h',N+1,w'⟩)/\ar N0 w'=ar N0 w/\ab h N0 h' (N+1)/\gV N0 h' (N+1) v' (m++[l]):=by
 obtain⟨us,h1,h2,h3,h4⟩:=s
 obtain⟨v',h',w',f1,f2,f3,f4,fD,f5⟩:=En (Y:=fun _=>True) (x:=[u]) (u:=x) (bytes:=24) (w:=w) h1 (fun h0=>h2 (List.map_eq_nil_iff.1 h0)) (fun _ _ _ _=>trivial) hN (by decide) rfl hx (by rw[gY];omega)
 refine⟨v',h',w',f1,f2,f3,us++[u],by simpa using f5,by simp,by simp[h3],fun j r hr=>?_⟩
 by_cases hj:j<m.length
 ·rw[iS hj]at hr
  obtain⟨u',g1,g2⟩:=h4 j r hr
  exact⟨u',by rw[iS (by omega)];exact g1,g2.bO f4 fD (by simp)⟩
 ·rw[lD (by omega)]at hr
  cases hd:j-m.length with
  |zero=>
   rw[hd]at hr
   simp at hr
   subst hr
   exact⟨u,by rw[lD (by omega),h3,hd];rfl,hu.bO f4 fD (by simp)⟩
  |succ d=>rw[hd]at hr;simp at hr
def To{N i:Nat}:∀{w:List Nat},i∈w->i<N->i∈ar N w
 |[],h,_=>by simp at h
 |j::w,h,hi=>by
  simp only[ar]
  rcases ku.1 h with rfl|h
  ·rw[ax hi]
   unfold vZ
   split
   ·rename_i hc;simpa using hc
   ·exact pR
  ·have:=To h hi
   split
   ·unfold vZ
    split
    ·exact this
    ·exact pG _ this
   ·exact this
def VW{n1:Nat}{w':List Nat}(h:ar n1 w'=ar n1 w)(hN:N<=n1)(hw:ar N w=[]):ar N w'=[]:=by
 apply List.eq_nil_iff_forall_not_mem.2
 intro i hi
 obtain⟨h1,h2⟩:=zz hi
 have h3:=To h1 (show i<n1 by omega)
 rw[h]at h3
 have h4:=To (zz h3).1 h2
 rw[hw]at h4
 simp at h4
def zi(h:ar N w=[]):∀i∈w,N<=i:=fun i hi=>by
 apply zB
 intro hc
 have:=To hi hc
 rw[h]at this
 simp at this
def Yd8{a b:List Nat}(ha:ar N a=[])(hb:ar N b=[]):ar N (ar n a++b)=[]:=uK fun i hi=>by
 rcases lI.1 hi with hi|hi
 ·exact zi ha i (zz hi).1
 ·exact zi hb i hi
def iZ(m:List (List Rat))(k:Nat):List Rat:=m.map fun r=>r[k]?.getD 0
def dq(m:List (List Rat))(n:Nat):List (List Rat):=(List.range n).map fun k=>iZ m k
def Yk7{k t:Nat}{r:List Rat}{q:Rat}(h:m[t]?=some r)(hq:r[k]?=some q):iZ (m.take (t+1)) k=iZ (m.take t) k++[q]:=by
 unfold iZ
 rw[uQ,h]
 simp[hq]
def PN(hu:fA h N u m)(hm:∀r∈m,r.length=n)(mj:m.length<1000)(hn:n<1000)(h0:0<m.length):Fn A.C 53 [u] h N (fun x h' n'=>gV N h' n' x (dq m n)):=by
 intro w
 have l1:=hu.len
 obtain⟨r0,d_⟩:=a_ h0
 have zat:=hm r0 (bM d_)
 have fZ:(0:Int)<(m.length:Int):=by omega
 rw[aM,A.k53 (by simp)]
 simp[A.b53]
 refine bA [(3,39)] (fun e r st=>e=.exit 0/\ar N st.w=[]/\ab h N st.h st.n/\∃x,r.get 3=some x/\gV N st.h st.n x (dq m n)) (fun i r st=>ar N st.w=[]/\ab h N st.h st.n/\∃k x,k+i=n/\r.get 4=some (.int .i64 k)/\r.get 3=some x/\gV N st.h st.n x (dq m k)) n ?_ ?_ ?_
 ·exact⟨by simp,ab.refl,0,.aa,by omega,by simp,by simp,gV.nil⟩
 ·rintro i r ⟨H,n1,W⟩ hr hf ⟨hW,hK,k,x,hk,h4,h3,ho⟩
  simp only at hW hK ho
  obtain⟨i0,o0,c0,e0,Ir,u0,z1,z2,z3,z4,z5⟩:=(hu.ad hK).at d_
  have z6:=z5.len
  rw[zat]at z6
  rw[iX]at z4
  rw[bb]
  cases i with
  |zero=>
   obtain rfl:k=n:=by omega
   simp[A.xe,hr,hf,h4,h3,l1,h0,fZ,z1,z3,z4,z6,hW,hK]
   exact ho
  |succ i=>
   have au:k<n:=by omega
   have aS:(k:Int)<(n:Int):=by omega
   simp[A.xe,hr,hf,h4,h3,l1,h0,fZ,z1,z3,z4,z6,au,aS]
   refine bA [(5,6),(20,35)] (fun e r1 st=>e=.exit 2/\ar N st.w=[]/\ab H n1 st.h st.n/\∃y,r1.get 5=some y/\tP st.h st.n y (iZ m k)) (fun j r1 st=>ar N st.w=[]/\ab H n1 st.h st.n/\∃t y,t+j=m.length/\r1.get 6=some (.int .i64 t)/\r1.get 5=some y/\Own 1 41 n1 st.h st.n y ((tx (iZ (m.take t) k)).map fun y=>[y])) m.length ?_ ?_ ?_
   ·exact⟨hW,ab.refl,0,.aa,by omega,by simp,by simp,by simpa[iZ,tx,strs]using Own.nil⟩
   ·rintro j r1 ⟨H2,n2,W2⟩ jn tE ⟨dZ,eQ,t,y,ht,h6,h5,hy⟩
    simp only at dZ eQ hy
    rw[bb]
    cases j with
    |zero=>
     obtain rfl:t=m.length:=by omega
     rw[xE]at hy
     simp[A.xd,hr,jn,hf,tE,h6,h5,l1,dZ,eQ]
     exact Gn hy
    |succ j=>
     have cX:t<m.length:=by omega
     have Bt:(t:Int)<(m.length:Int):=by omega
     obtain⟨row,al⟩:=a_ cX
     have hrn:=hm row (bM al)
     obtain⟨q,hq⟩:=a_ (l:=row) (k:=k) (by omega)
     obtain⟨i1,o1,c1,e1,rw1,u1,q1,q2,q3,q4,q5⟩:=((hu.ad hK).ad eQ).at al
     have q6:=q5.len
     rw[hrn]at q6
     obtain⟨i3,o3,c3,e3,rw3,p1,p2,p3,p4⟩:=Sl.at q5 (xw hq)
     have fk:=hK.le
     have Jh:=eQ.le
     obtain⟨v',h',w',f1,f2,f3,_,f5⟩:=tJ (x:=[.str (aP q)]) (u:=.slice n2 0 1 (some 1) 1) (bytes:=16) (w:=W2) (hy.ad (ab.refl.new (.cells [.str (aP q)] 41 true))) (by omega) (by decide) rfl (by simp[ef,St.row,aC]) (by simp[mq,iZ];omega)
     have e7:((tx (iZ (m.take t) k)).map fun y=>[y])++[[.str (aP q)]]=(tx (iZ (m.take (t+1)) k)).map fun y=>[y]:=by rw[Yk7 al hq];simp[tx,strs]
     rw[e7]at f5
     simp(disch:=first|(simp;done)|omega|rfl) [A.xd,hr,jn,hf,tE,h4,h6,h5,l1,cX,Bt,au,aS,q1,q2,q3,q4,q6,p1,p2,p3,p4,ae,f1]
     have ow:ar N w'=[]:=VW f2 (by omega) dZ
     exact⟨j,by omega,ow,(eQ.trans (ab.refl.new (.cells [.str (aP q)] 41 true))).then f3,t+1,by omega,by simp,f5⟩
   ·rintro _ r1 ⟨H2,n2,W2⟩ jn ⟨rfl,dZ,eQ,y,h5,hy⟩
    simp only at dZ eQ hy
    have fk:=hK.le
    have Jh:=eQ.le
    have qO:=(Sl.form hy.1).one
    have vG:=(Sl.form hy.1).cells
    unfold V.one at qO
    unfold V.cells at vG
    obtain⟨v',h',w',f1,f2,f3,f4⟩:=((ho.ad eQ).ad (ab.refl.new (.cells [y] 23 true))).push (w:=W2) (x:=.slice n2 0 1 (some 1) 1) (hy.ad (ab.refl.new (.cells [y] 23 true))) (by omega) (by simp[ef,St.row,aC]) (by simp[dq];omega)
    have e8:dq m k++[iZ m k]=dq m (k+1):=by simp[dq,List.range_succ]
    rw[e8]at f4
    have D4:=hf.inner (D':=[(5,6),(20,35)]) rfl (by simp) jn
    simp(disch:=first|(simp;done)|omega|rfl) [hr,jn,hf,D4,h4,h3,h5,qO,vG,ae,f1]
    exact⟨i,by omega,by rw[f2];exact dZ,(((hK.trans eQ).trans (ab.refl.new (.cells [y] 23 true)))).then f3,k+1,by omega,by simp,f4⟩
 ·rintro _ r ⟨H,n1,W⟩ hr ⟨rfl,hW,hK,x,h3,ho⟩
  simp only at hW hK ho
  simp[hr,h3,az,hW,hK]
  exact ho
def vH(r w:List Rat):List Rat:=(List.range w.length).map fun k=>r[k]?.getD 0*w[k]?.getD 0
def yt(r w:List Rat)(n:Nat):List Rat:=(List.range n).map fun k=>r[k]?.getD 0*w[k]?.getD 0
def Yhl{r w:List Rat}{t:Nat}{p q:Rat}(hp:r[t]?=some p)(hq:w[t]?=some q):yt r w (t+1)=yt r w t++[p*q]:=by
 simp[yt,List.range_succ,hp,hq]
def Zzx{b:List Rat}{j k:Nat}(hu:fA h N u m)(hv:Tx h N v b)(hm:∀r∈m,r.length=b.length/\∀q∈r,Qb j q)(hb:∀q∈b,Qb k q)(hj:j<=400000000)(hk:k<=400000000)(mj:m.length<1000)(FT:b.length<1000):Fn A.C 130 [u,v] h N (fun x h' n'=>gV N h' n' x (m.map fun r=>vH r b)):=by
 intro w
 have l1:=hu.len
 have l2:=hv.len
 rw[aM,A.k130 (by simp)]
 simp[A.b130]
 refine bA [(5,39)] (fun e r st=>e=.exit 0/\ar N st.w=[]/\ab h N st.h st.n/\∃x,r.get 5=some x/\gV N st.h st.n x (m.map fun r=>vH r b)) (fun i r st=>ar N st.w=[]/\ab h N st.h st.n/\∃t x,t+i=m.length/\r.get 6=some (.int .i64 t)/\r.get 5=some x/\gV N st.h st.n x ((m.take t).map fun r=>vH r b)) m.length ?_ ?_ ?_
 ·exact⟨by simp,ab.refl,0,.aa,by omega,by simp,by simp,by simpa using gV.nil⟩
 ·rintro i r ⟨H,n1,W⟩ hr hf ⟨hW,hK,t,x,ht,h6,h5,ho⟩
  simp only at hW hK ho
  rw[bb]
  cases i with
  |zero=>
   obtain rfl:t=m.length:=by omega
   rw[xE]at ho
   simp[A.ta,hr,hf,h6,h5,l1,hW,hK]
   exact ho
  |succ i=>
   have au:t<m.length:=by omega
   have aS:(t:Int)<(m.length:Int):=by omega
   obtain⟨row,al⟩:=a_ au
   obtain⟨a1,a2⟩:=hm row (bM al)
   simp[A.ta,hr,hf,h6,h5,l1,au,aS]
   refine bA [(7,8),(15,35)] (fun e r1 st=>e=.exit 2/\ar N st.w=[]/\ab H n1 st.h st.n/\∃y,r1.get 7=some y/\tP st.h st.n y (vH row b)) (fun s r1 st=>ar N st.w=[]/\ab H n1 st.h st.n/\∃c y,c+s=b.length/\r1.get 8=some (.int .i64 c)/\r1.get 7=some y/\Own 1 41 n1 st.h st.n y ((tx (yt row b c)).map fun y=>[y])) b.length ?_ ?_ ?_
   ·exact⟨hW,ab.refl,0,.aa,by omega,by simp,by simp,by simpa[yt,tx,strs]using Own.nil⟩
   ·rintro s r1 ⟨H2,n2,W2⟩ jn tE ⟨dZ,eQ,c,y,hc,h8,h7,hy⟩
    simp only at dZ eQ hy
    rw[bb]
    cases s with
    |zero=>
     obtain rfl:c=b.length:=by omega
     simp[A.s_,hr,jn,hf,tE,h8,h7,l2,dZ,eQ]
     exact Gn hy
    |succ s=>
     have cX:c<b.length:=by omega
     have Bt:(c:Int)<(b.length:Int):=by omega
     obtain⟨q,hq⟩:=a_ cX
     obtain⟨p,hp⟩:=a_ (l:=row) (k:=c) (by omega)
     obtain⟨i1,o1,c1,e1,rw1,u1,q1,q2,q3,q4,q5⟩:=((hu.ad hK).ad eQ).at al
     have q6:=q5.len
     rw[a1]at q6
     obtain⟨i3,o3,c3,e3,rw3,p1,p2,p3,p4⟩:=Sl.at q5 (xw hp)
     obtain⟨i4,o4,c4,e4,rw4,z1,z2,z3,z4⟩:=Sl.at ((hv.ad hK).ad eQ) (xw hq)
     have fk:=hK.le
     have Jh:=eQ.le
     simp[A.s_,hr,jn,hf,tE,h6,h7,h8,h5,l1,l2,cX,Bt,au,aS,q1,q2,q3,q4,q6,p1,p2,p3,p4,z1,z2,z3,z4]
     refine ay (VV (a2 p (bM hp)) (hb q (bM hq)) hj hk) ?_
     rintro _ H3 n3 k3 rfl
     have BA:=k3.le
     obtain⟨v',h',w',f1,f2,f3,_,f5⟩:=tJ (x:=[.str (aP (p*q))]) (u:=.slice n3 0 1 (some 1) 1) (bytes:=16) (w:=[]) ((hy.ad k3).ad (ab.refl.new (.cells [.str (aP (p*q))] 41 true))) (by omega) (by decide) rfl (by simp[ef,St.row,aC]) (by simp[mq,yt];omega)
     have e7:((tx (yt row b c)).map fun y=>[y])++[[.str (aP (p*q))]]=(tx (yt row b (c+1))).map fun y=>[y]:=by rw[Yhl hp hq];simp[tx,strs]
     rw[e7]at f5
     have ow:ar N w'=[]:=VW f2 (by omega) rfl
     have F9:i1<n2:=q2
     have r3':i3<n2:=p2
     have KI:i4<n2:=z2
     simp(disch:=first|(simp;done)|omega|rfl) [-ar,hr,jn,hf,tE,h8,ae,f1]
     exact⟨s,by omega,Yd8 ow dZ,((eQ.trans k3).trans (ab.refl.new (.cells [.str (aP (p*q))] 41 true))).then f3,c+1,by omega,by simp,f5⟩
   ·rintro _ r1 ⟨H2,n2,W2⟩ jn ⟨rfl,dZ,eQ,y,h7,hy⟩
    simp only at dZ eQ hy
    have fk:=hK.le
    have Jh:=eQ.le
    have qO:=(Sl.form hy.1).one
    have vG:=(Sl.form hy.1).cells
    unfold V.one at qO
    unfold V.cells at vG
    obtain⟨v',h',w',f1,f2,f3,f4⟩:=((ho.ad eQ).ad (ab.refl.new (.cells [y] 23 true))).push (w:=W2) (x:=.slice n2 0 1 (some 1) 1) (hy.ad (ab.refl.new (.cells [y] 23 true))) (by omega) (by simp[ef,St.row,aC]) (by simp;omega)
    have e8:(m.take t).map (fun r=>vH r b)++[vH row b]=(m.take (t+1)).map fun r=>vH r b:=by rw[uQ,al];simp
    rw[e8]at f4
    have D4:=hf.inner (D':=[(7,8),(15,35)]) rfl (by simp) jn
    simp(disch:=first|(simp;done)|omega|rfl) [hr,jn,hf,D4,h6,h7,h5,qO,vG,ae,f1]
    exact⟨i,by omega,by rw[f2];exact dZ,(((hK.trans eQ).trans (ab.refl.new (.cells [y] 23 true)))).then f3,t+1,by omega,by simp,by rw[<-List.map_take];exact f4⟩
 ·rintro _ r ⟨H,n1,W⟩ hr ⟨rfl,hW,hK,x,h5,ho⟩
  simp only at hW hK ho
  simp[hr,h5,az,hW,hK]
  exact ho
variable {N n:Nat} {h:T O} {m:List (List aQ)} {v:V} {w:List Nat}
def A.w5:=A.q Tryz.f5
def A.pw:=A.ql A.w5 0 []
def A.b5:=(fun x0=>A.qb A.w5 [x0]) A.pw
def A.k5:=@A.kk 5 32 [.tmp 4] A.b5 (by kernel_rfl) rfl
def A.w4:=A.q Tryz.f4
def A.px:=A.ql A.w4 0 []
def A.b4:=(fun x0=>A.qb A.w4 [x0]) A.px
def A.k4:=@A.kk 4 35 [.tmp 6] A.b4 (by kernel_rfl) rfl
def A.w25:=A.q Tryz.f25
def A.k_:=A.ql A.w25 0 []
def A.b25:=(fun x0=>A.qb A.w25 [x0]) A.k_
def A.k25:=@A.kk 25 26 [.tmp 4] A.b25 (by kernel_rfl) rfl
def Ynt{u:V}{l:List aQ}(hu:Sl h N u (strs l))(hv:Sl h N v (strs l))(hl:l.length<100000):A.C.call (.func 25 [] []) [u,v] ⟨h,N,w⟩=some (.bool true,⟨h,N,w⟩):=by
 apply Call.eq
 have l1:=hu.len
 have l2:=hv.len
 rw[tn]at l1 l2
 rw[aM,A.k25 (by simp)]
 simp[A.b25,l1,l2]
 refine bA [(4,5),(11,25)] (fun e r st=>st=⟨h,N,[]⟩/\e=.exit 0) (fun m r st=>st=⟨h,N,[]⟩/\∃k,k+m=l.length/\r.get 5=some (.int .i64 k)) l.length ?_ ?_ ?_
 ·exact⟨rfl,0,by omega,by simp⟩
 ·rintro m r _ hr hf ⟨rfl,k,hk,h5⟩
  rw[bb]
  cases m with
  |zero=>
   obtain rfl:k=l.length:=by omega
   simp[A.k_,hr,hf,h5,l1]
  |succ m=>
   have au:k<l.length:=by omega
   obtain⟨s,hs⟩:=a_ au
   obtain⟨i,o,c,e,rw,q1,q2,q3,q4⟩:=hu.at (B8 hs)
   obtain⟨i',o',c',e',mP,p1,p2,p3,p4⟩:=hv.at (B8 hs)
   have bG:(k:Int)<(l.length:Int):=by omega
   simp(disch:=first|(simp;done)|omega|rfl) [A.k_,hr,hf,h5,l1,l2,bG,q1,q2,q3,q4,p1,p2,p3,p4,gE]
   exact⟨m,by omega,k+1,by omega,by simp⟩
 ·rintro _ r _ hr ⟨rfl,rfl⟩
  simp
def pQ(s:aQ):Bool:=decide (s.length<=24)
def pr(k n:Nat):Bool:=decide (k<=n\/64<k/\k<=66)
def fe(n:Nat)(l:List aQ):Bool:=pr l.length n&&l.all pQ
def Zry{k:Nat}(h:pr k n=true)(hn:n<64):k<=66:=by
 simp[pr]at h
 omega
def Zn2{l:List aQ}(hs:Sl h N v (strs l))(hl:l.length<9223372036854775808)(hn:n<64):A.C.call (.func 5 [] []) [v,.int .i64 n] ⟨h,N,w⟩=some (.bool (fe n l),⟨h,N,w⟩):=by
 apply Call.eq
 have lg:=hs.len
 rw[tn]at lg
 rw[aM,A.k5 (by simp)]
 have fin:pr l.length n=true->fe n l=l.all pQ:=fun h=>by simp[fe,h]
 by_cases c1:l.length<=n
 ·rw[fin (by simp[pr,c1])]
  have a1:¬(n:Int)<(l.length:Int):=by omega
  have a2:¬66<(l.length:Int):=by omega
  simp[A.b5,lg,a1,a2]
  refine bA [(4,5),(20,31)] (fun e r st=>st=⟨h,N,[]⟩/\((e=.exit 0/\l.all pQ=true)\/(e=.ret/\l.all pQ=false/\r.get 4=some (.bool false)))) (fun m r st=>st=⟨h,N,[]⟩/\∃k,k+m=l.length/\r.get 5=some (.int .i64 k)/\l.all pQ=(l.drop k).all pQ) l.length ?_ ?_ ?_
  ·exact⟨rfl,0,by omega,by simp,by simp⟩
  ·rintro m r _ hr hf ⟨rfl,k,hk,hx,hz⟩
   rw[bb]
   cases m with
   |zero=>
    obtain rfl:k=l.length:=by omega
    rw[mK,List.all_nil]at hz
    simp[A.pw,hr,hf,hx,lg,hz]
   |succ m=>
    have au:k<l.length:=by omega
    have bG:(k:Int)<(l.length:Int):=by omega
    obtain⟨s,hc⟩:=a_ au
    obtain⟨i,o,cc,e,rw,q1,q2,q3,q4⟩:=hs.at (B8 hc)
    rw[f_ hc,List.all_cons]at hz
    by_cases c4:pQ s=true
    ·rw[c4,Bool.true_and]at hz
     have c6:¬24<(s.length:Int):=by simp[pQ]at c4;omega
     simp(disch:=first|(simp;done)|omega|rfl) [A.pw,hr,hf,hx,lg,bG,q1,q3,q4,c6]
     exact⟨m,by omega,k+1,by omega,by simp,hz⟩
    ·have c5:pQ s=false:=by simpa using c4
     rw[c5,CW]at hz
     have c6:24<(s.length:Int):=by simp[pQ]at c5;omega
     simp[A.pw,hr,hf,hx,lg,bG,q1,q3,q4,c6,hz]
  ·rintro e r _ hr ⟨rfl,⟨rfl,hq⟩|⟨rfl,hq,h2⟩⟩
   ·simp[hq]
   ·simp[hq,h2]
 ·have a1:(n:Int)<(l.length:Int):=by omega
  have Sv:n<l.length:=by omega
  by_cases c2:l.length<=64
  ·have a3:(l.length:Int)<=64:=by omega
   have e1:fe n l=false:=by simp[fe,pr,c1];omega
   simp[A.b5,lg,a1,a3,e1]
  ·have a3:¬(l.length:Int)<=64:=by omega
   by_cases c3:66<l.length
   ·have a4:66<(l.length:Int):=by omega
    have e1:fe n l=false:=by simp[fe,pr,c1];omega
    simp[A.b5,lg,a1,a3,a4,e1]
   ·have a4:¬66<(l.length:Int):=by omega
    rw[fin (by simp[pr];omega)]
    simp[A.b5,lg,a1,a3,a4]
    refine bA [(4,5),(20,31)] (fun e r st=>st=⟨h,N,[]⟩/\((e=.exit 0/\l.all pQ=true)\/(e=.ret/\l.all pQ=false/\r.get 4=some (.bool false)))) (fun m r st=>st=⟨h,N,[]⟩/\∃k,k+m=l.length/\r.get 5=some (.int .i64 k)/\l.all pQ=(l.drop k).all pQ) l.length ?_ ?_ ?_
    ·exact⟨rfl,0,by omega,by simp,by simp⟩
    ·rintro m r _ hr hf ⟨rfl,k,hk,hx,hz⟩
     rw[bb]
     cases m with
     |zero=>
      obtain rfl:k=l.length:=by omega
      rw[mK,List.all_nil]at hz
      simp[A.pw,hr,hf,hx,lg,hz]
     |succ m=>
      have au:k<l.length:=by omega
      have bG:(k:Int)<(l.length:Int):=by omega
      obtain⟨s,hc⟩:=a_ au
      obtain⟨i,o,cc,e,rw,q1,q2,q3,q4⟩:=hs.at (B8 hc)
      rw[f_ hc,List.all_cons]at hz
      by_cases c4:pQ s=true
      ·rw[c4,Bool.true_and]at hz
       have c6:¬24<(s.length:Int):=by simp[pQ]at c4;omega
       simp(disch:=first|(simp;done)|omega|rfl) [A.pw,hr,hf,hx,lg,bG,q1,q3,q4,c6]
       exact⟨m,by omega,k+1,by omega,by simp,hz⟩
      ·have c5:pQ s=false:=by simpa using c4
       rw[c5,CW]at hz
       have c6:24<(s.length:Int):=by simp[pQ]at c5;omega
       simp[A.pw,hr,hf,hx,lg,bG,q1,q3,q4,c6,hz]
    ·rintro e r _ hr ⟨rfl,⟨rfl,hq⟩|⟨rfl,hq,h2⟩⟩
     ·simp[hq]
     ·simp[hq,h2]
def fC(h:T O)(N:Nat)(v:V)(m:List (List aQ)):Prop:=∃us:List V,Sl h N v us/\us.length=m.length/\∀(j:Nat) (l:List aQ),m[j]?=some l->∃u,us[j]?=some u/\Sl h N u (strs l)
def fC.ad{h':T O}{N':Nat}(s:fC h N v m)(k:ab h N h' N'):fC h' N' v m:=by
 obtain⟨us,h1,h2,h3⟩:=s
 refine⟨us,h1.ad k,h2,fun j l hl=>?_⟩
 obtain⟨u,g1,g2⟩:=h3 j l hl
 exact⟨u,g1,g2.ad k⟩
def fC.len(s:fC h N v m):pA v=some m.length:=by
 obtain⟨us,h1,h2,_⟩:=s
 rw[h1.len,h2]
def fC.at(s:fC h N v m){j:Nat}{l:List aQ}(hj:m[j]?=some l):∃i o c e rw u,xA v=some (i,o)/\i<N/\h.get i=some (.cells c e rw)/\c[o+j]?=some u/\Sl h N u (strs l):=by
 obtain⟨us,h1,h2,h3⟩:=s
 obtain⟨u,g1,g2⟩:=h3 j l hj
 obtain⟨i,o,c,e,rw,q1,q2,q3,q4⟩:=h1.at g1
 exact⟨i,o,c,e,rw,u,q1,q2,q3,q4,g2⟩
def fC.tI{m:List (List Rat)}(s:fC h N v (m.map fun l=>l.map aP)):fA h N v m:=by
 obtain⟨us,h1,h2,h3⟩:=s
 refine⟨us,h1,by simpa using h2,fun j l hl=>?_⟩
 exact h3 j (l.map aP) (by simp[hl])
def mQ(r c:Nat)(m:List (List aQ)):Bool:=pr m.length r&&m.all (fe c)
def Zxp{l:List (List aQ)}{p:Nat}(hs:fC h N v l)(hl:l.length<9223372036854775808)(nz:∀x∈l,x.length<9223372036854775808)(hn:n<64)(hp:p<64):A.C.call (.func 4 [] []) [v,.int .i64 n,.int .i64 p] ⟨h,N,w⟩=some (.bool (mQ n p l),⟨h,N,w⟩):=by
 apply Call.eq
 have lg:=hs.len
 rw[aM,A.k4 (by simp)]
 have fin:pr l.length n=true->mQ n p l=l.all (fe p):=fun h=>by simp[mQ,h]
 by_cases c1:l.length<=n
 ·rw[fin (by simp[pr,c1])]
  have a1:¬(n:Int)<(l.length:Int):=by omega
  have a2:¬66<(l.length:Int):=by omega
  simp[A.b4,lg,a1,a2]
  refine bA [(6,7),(22,34)] (fun e r st=>st=⟨h,N,[]⟩/\((e=.exit 0/\l.all (fe p)=true)\/(e=.ret/\l.all (fe p)=false/\r.get 6=some (.bool false)))) (fun m r st=>st=⟨h,N,[]⟩/\∃k,k+m=l.length/\r.get 7=some (.int .i64 k)/\l.all (fe p)=(l.drop k).all (fe p)) l.length ?_ ?_ ?_
  ·exact⟨rfl,0,by omega,by simp,by simp⟩
  ·rintro m r _ hr hf ⟨rfl,k,hk,hx,hz⟩
   rw[bb]
   cases m with
   |zero=>
    obtain rfl:k=l.length:=by omega
    rw[mK,List.all_nil]at hz
    simp[A.px,hr,hf,hx,lg,hz]
   |succ m=>
    have au:k<l.length:=by omega
    have bG:(k:Int)<(l.length:Int):=by omega
    obtain⟨s,hc⟩:=a_ au
    obtain⟨i,o,cc,e,rw,u,q1,q2,q3,q4,q5⟩:=hs.at hc
    have cD:=fun w=>Zn2 (w:=w) q5 (nz s (bM hc)) hp
    rw[f_ hc,List.all_cons]at hz
    by_cases c4:(fe p) s=true
    ·rw[c4,Bool.true_and]at hz
     simp(disch:=first|(simp;done)|omega|rfl) [A.px,hr,hf,hx,lg,bG,q1,q3,q4,cD,c4]
     exact⟨m,by omega,k+1,by omega,by simp,hz⟩
    ·have c5:(fe p) s=false:=by simpa using c4
     rw[c5,CW]at hz
     simp[A.px,hr,hf,hx,lg,bG,q1,q3,q4,cD,c5,hz]
  ·rintro e r _ hr ⟨rfl,⟨rfl,hq⟩|⟨rfl,hq,h2⟩⟩
   ·simp[hq]
   ·simp[hq,h2]
 ·have a1:(n:Int)<(l.length:Int):=by omega
  have Sv:n<l.length:=by omega
  by_cases c2:l.length<=64
  ·have a3:(l.length:Int)<=64:=by omega
   have e1:mQ n p l=false:=by simp[mQ,pr,c1];omega
   simp[A.b4,lg,a1,a3,e1]
  ·have a3:¬(l.length:Int)<=64:=by omega
   by_cases c3:66<l.length
   ·have a4:66<(l.length:Int):=by omega
    have e1:mQ n p l=false:=by simp[mQ,pr,c1];omega
    simp[A.b4,lg,a1,a3,a4,e1]
   ·have a4:¬66<(l.length:Int):=by omega
    rw[fin (by simp[pr];omega)]
    simp[A.b4,lg,a1,a3,a4]
    refine bA [(6,7),(22,34)] (fun e r st=>st=⟨h,N,[]⟩/\((e=.exit 0/\l.all (fe p)=true)\/(e=.ret/\l.all (fe p)=false/\r.get 6=some (.bool false)))) (fun m r st=>st=⟨h,N,[]⟩/\∃k,k+m=l.length/\r.get 7=some (.int .i64 k)/\l.all (fe p)=(l.drop k).all (fe p)) l.length ?_ ?_ ?_
    ·exact⟨rfl,0,by omega,by simp,by simp⟩
    ·rintro m r _ hr hf ⟨rfl,k,hk,hx,hz⟩
     rw[bb]
     cases m with
     |zero=>
      obtain rfl:k=l.length:=by omega
      rw[mK,List.all_nil]at hz
      simp[A.px,hr,hf,hx,lg,hz]
     |succ m=>
      have au:k<l.length:=by omega
      have bG:(k:Int)<(l.length:Int):=by omega
      obtain⟨s,hc⟩:=a_ au
      obtain⟨i,o,cc,e,rw,u,q1,q2,q3,q4,q5⟩:=hs.at hc
      have cD:=fun w=>Zn2 (w:=w) q5 (nz s (bM hc)) hp
      rw[f_ hc,List.all_cons]at hz
      by_cases c4:(fe p) s=true
      ·rw[c4,Bool.true_and]at hz
       simp(disch:=first|(simp;done)|omega|rfl) [A.px,hr,hf,hx,lg,bG,q1,q3,q4,cD,c4]
       exact⟨m,by omega,k+1,by omega,by simp,hz⟩
      ·have c5:(fe p) s=false:=by simpa using c4
       rw[c5,CW]at hz
       simp[A.px,hr,hf,hx,lg,bG,q1,q3,q4,cD,c5,hz]
    ·rintro e r _ hr ⟨rfl,⟨rfl,hq⟩|⟨rfl,hq,h2⟩⟩
     ·simp[hq]
     ·simp[hq,h2]
variable {N:Nat} {h:T O} {v:V}
def A.P3:=A.q Tryz.f133
def A.tc:=A.ql A.P3 0 []
def A.b133:=(fun x0=>A.qb A.P3 [x0]) A.tc
def A.k133:=@A.kk 133 19 [.tmp 2] A.b133 (by kernel_rfl) rfl
def A.b54:=A.q Tryz.f54
def A.k54:=@A.kk 54 11 [.tmp 4] A.b54 (by kernel_rfl) rfl
def A.w46:=A.q Tryz.f46
def A.xf:=A.ql A.w46 0 []
def A.b46:=(fun x0=>A.qb A.w46 [x0]) A.xf
def A.k46:=@A.kk 46 49 [.tmp 6] A.b46 (by kernel_rfl) rfl
def Yqv{l:List aQ}(hs:Sl h N v (strs l))(hl:l.length<100000)(vg:∀s∈l,s.length<=100000):Fn A.C 133 [v] h N (fun u _ _=>u=.int .i64 (bn (l.map fun s=>((bj s:Nat):Int)))):=by
 intro w
 have hlen:=hs.len
 rw[tn]at hlen
 rw[aM,A.k133 (by simp)]
 simp[A.b133]
 refine bA [(2,18)] (fun e r st=>ar N st.w=[]/\ab h N st.h st.n/\((e=.exit 0/\bn (l.map fun s=>((bj s:Nat):Int))=0)\/(e=.ret/\r.get 2=some (.int .i64 (bn (l.map fun s=>((bj s:Nat):Int))))))) (fun m r st=>ar N st.w=[]/\ab h N st.h st.n/\∃k,k+m=l.length/\r.get 3=some (.int .i64 k)/\bn (l.map fun s=>((bj s:Nat):Int))=bn ((l.drop k).map fun s=>((bj s:Nat):Int))) l.length ?_ ?_ ?_
 ·exact⟨by simp,ab.refl,0,by omega,by simp,by simp⟩
 ·rintro m r ⟨H,n1,W⟩ hr hf ⟨hW,hK,k,hk,h7,hz⟩
  simp only at hW hK
  rw[bb]
  cases m with
  |zero=>
   obtain rfl:k=l.length:=by omega
   rw[mK,vR,bn]at hz
   simp[A.tc,hr,hf,h7,hlen,hz,hW,hK]
  |succ m=>
   have au:k<l.length:=by omega
   obtain⟨s,hc⟩:=a_ au
   obtain⟨i,o,cc,e,rw,q1,q2,q3,q4⟩:=(hs.ad hK).at (B8 hc)
   rw[f_ hc,mU,bn]at hz
   have bG:(k:Int)<(l.length:Int):=by omega
   simp[A.tc,hr,hf,h7,bG,au,hlen,q1,q3,q4]
   refine ay (Ztg (vg s (bM hc))) ?_
   rintro _ h3 n3 k3 rfl
   have kk:=hK.trans k3
   by_cases h0:bj s=0
   ·rw[ax (by omega)]at hz
    simp(disch:=first|(simp;done)|omega|rfl) [hr,hf,h7,h0,hW,aJ]
    exact⟨m,by omega,kk,k+1,by omega,by simp,by simpa using hz⟩
   ·rw[ak (by omega)]at hz
    have fZ:¬((bj s:Nat):Int)=0:=by omega
    simp[hr,hf,h7,h0,fZ,hW,aJ,hz]
    exact kk
 ·rintro _ r ⟨H,n1,W⟩ hr ⟨hW,hK,⟨rfl,hz⟩|⟨rfl,h2⟩⟩
  ·simp only at hW hK
   simp[hr,hz,az,hW,hK]
  ·simp only at hW hK
   simp[hr,h2,az,hW,hK]
def eR(l:List aQ)(n:Nat):Int:=if l.length=n then bn (l.map fun s=>((bj s:Nat):Int)) else 2
def fw(l:List (List aQ)):Nat:=(l[0]?.getD []).length
def kJ(l:List (List aQ))(r c:Nat):Int:=if l.length=0\/fw l=0 then 12 else if r<l.length\/c<fw l then 5 else bn (l.map fun x=>eR x (fw l))
def Zy1{l:List aQ}{n:Nat}(hs:Sl h N v (strs l))(hl:l.length<100000)(vg:∀s∈l,s.length<=100000):Fn A.C 54 [v,.int .i64 n] h N (fun u _ _=>u=.int .i64 (eR l n)):=by
 intro w
 have hlen:=hs.len
 rw[tn]at hlen
 rw[aM,A.k54 (by simp)]
 by_cases c:l.length=n
 ·subst c
  simp[A.b54,hlen,aJ]
  refine ay (Yqv hs hl vg) ?_
  rintro _ H2 n2 k2 rfl
  simp[az,eR]
  exact k2
 ·have c':¬(l.length:Int)=(n:Int):=by omega
  simp[A.b54,hlen,c',eR,c,az,aJ]
  exact ab.refl
def Yq2{l:List (List aQ)}{a b:Nat}(hs:fC h N v l)(hl:l.length<100000)(hx:∀x∈l,x.length<100000/\∀s∈x,s.length<=100000):Fn A.C 46 [v,.int .i64 a,.int .i64 b] h N (fun u _ _=>u=.int .i64 (kJ l a b)):=by
 intro w
 have hlen:=hs.len
 rw[aM,A.k46 (by simp)]
 by_cases c0:l.length=0
 ·have c0':(l.length:Int)=0:=by omega
  simp[A.b46,hlen,c0,kJ,az]
  exact ab.refl
 have c0':¬(l.length:Int)=0:=by omega
 have mH:0<l.length:=by omega
 have yx:0<(l.length:Int):=by omega
 obtain⟨l0,eG⟩:=a_ mH
 obtain⟨i0,o0,cc0,e0,Ir,u0,z1,z2,z3,z4,z5⟩:=hs.at eG
 have z6:=z5.len
 rw[tn]at z6
 rw[iX]at z4
 obtain⟨n,hn⟩:∃n,n=l0.length:=⟨_,rfl⟩
 have en:fw l=n:=by simp[fw,eG,hn]
 rw[<-hn]at z6
 have xG:n<100000:=by have:=(hx l0 (bM eG)).1;omega
 by_cases c1:n=0
 ·have c1':(n:Int)=0:=by omega
  simp[A.b46,hlen,c0,mH,z1,z3,z4,z6,c1,kJ,en,az]
  exact ab.refl
 have c1':¬(n:Int)=0:=by omega
 by_cases c2:a<l.length
 ·have c2':(a:Int)<(l.length:Int):=by omega
  simp[A.b46,hlen,c0,mH,z1,z3,z4,z6,c1,c2,c2',kJ,en,az]
  exact ab.refl
 have c2':¬(a:Int)<(l.length:Int):=by omega
 by_cases c3:b<n
 ·have c3':(b:Int)<(n:Int):=by omega
  simp[A.b46,hlen,c0,mH,z1,z3,z4,z6,c1,c2,c2',c3,c3',kJ,en,az]
  exact ab.refl
 ·have c3':¬(b:Int)<(n:Int):=by omega
  have e1:kJ l a b=bn (l.map fun x=>eR x n):=by simp[kJ,en,c0,c1,c2,c3]
  rw[e1]
  simp[A.b46,hlen,c0,mH,z1,z3,z4,z6,c1,c2',c3']
  refine bA [(6,8),(31,48)] (fun e r st=>ar N st.w=[]/\ab h N st.h st.n/\((e=.exit 0/\bn (l.map fun x=>eR x n)=0)\/(e=.ret/\r.get 6=some (.int .i64 (bn (l.map fun x=>eR x n)))))) (fun m r st=>ar N st.w=[]/\ab h N st.h st.n/\∃k,k+m=l.length/\r.get 7=some (.int .i64 k)/\bn (l.map fun x=>eR x n)=bn ((l.drop k).map fun x=>eR x n)) l.length ?_ ?_ ?_
  ·exact⟨by simp,ab.refl,0,by omega,by simp,by simp⟩
  ·rintro m r ⟨H,n1,W⟩ hr hf ⟨hW,hK,k,hk,h7,hz⟩
   simp only at hW hK
   rw[bb]
   cases m with
   |zero=>
    obtain rfl:k=l.length:=by omega
    rw[mK,vR,bn]at hz
    simp[A.xf,hr,hf,h7,hlen,hz,hW,hK]
   |succ m=>
    have au:k<l.length:=by omega
    obtain⟨s,hc⟩:=a_ au
    obtain⟨i,o,cc,e,rw,u,q1,q2,q3,q4,q5⟩:=(hs.ad hK).at hc
    rw[f_ hc,mU,bn]at hz
    have bG:(k:Int)<(l.length:Int):=by omega
    obtain⟨i1,o1,Qy,e1,rw1,u1,y1,y2,y3,y4,y5⟩:=(hs.ad hK).at eG
    have y6:=y5.len
    rw[tn,<-hn]at y6
    rw[iX]at y4
    obtain⟨rfl,rfl⟩:i=i1/\o=o1:=by rw[q1]at y1;simpa using y1
    obtain⟨rfl,rfl,rfl⟩:cc=Qy/\e=e1/\rw=rw1:=by rw[q3]at y3;simpa using y3
    simp[A.xf,hr,h7,bG,hlen,q1,q2,q3,q4,mH,y4,y6]
    refine ay (Zy1 q5 (hx s (bM hc)).1 (hx s (bM hc)).2) ?_
    rintro _ h3 n3 k3 rfl
    have kk:=hK.trans k3
    by_cases h0:eR s n=0
    ·rw[ax h0]at hz
     simp(disch:=first|(simp;done)|omega|rfl) [hf,h7,h0,hW]
     exact⟨m,by omega,kk,k+1,by omega,by simp,by simpa using hz⟩
    ·rw[ak h0]at hz
     simp[hf,h0,hW,hz]
     exact kk
  ·rintro _ r ⟨H,n1,W⟩ hr ⟨hW,hK,⟨rfl,hz⟩|⟨rfl,h2⟩⟩
   ·simp only at hW hK
    simp[hz,az,hW,hK]
   ·simp only at hW hK
    simp[h2,az,hW,hK]
end
end Go.Mx
