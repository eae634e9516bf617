/-lensletref05-/
import Derived.Test.YteojhfjdbpdolaaGreatDoorVbH
set_option linter.all false
namespace Go.Mx
noncomputable section
open Go Go.Proofs
variable {a:List Rat}
set_option maxRecDepth 1000000
def A.w61:=A.q Tryz.f61
def A.uH:=A.ql A.w61 0 []
def A.b61:=(fun x0=>A.qb A.w61 [x0]) A.uH
def A.k61:=@A.kk 61 26 [.tmp 4] A.b61 (by kernel_rfl) rfl
def A.w62:=A.q Tryz.f62
def A.uI:=A.ql A.w62 0 []
def A.b62:=(fun x0=>A.qb A.w62 [x0]) A.uI
def A.k62:=@A.kk 62 23 [.tmp 4] A.b62 (by kernel_rfl) rfl
def UH{h:T O}{N:Nat}{u:V}{c:Rat}{j k:Nat}(hu:Tx h N u a)(ha:∀q∈a,Qb j q)(hc:Qb k c)(hj:j<=400000000)(hk:k<=400000000)(hl:a.length<100000):Fn A.C 62 [u,.str (aS c)] h N (fun x h' n'=>Own 1 39 N h' n' x ((tx (a.map fun q=>q*c)).map fun y=>[y])):=by
 intro w
 have l1:=hu.len
 rw[aR,A.k62 (by simp)]
 simp[A.b62]
 refine bL [(5,21)] (fun e r st=>e=.exit 0/\ax N st.w=[]/\ab h N st.h st.n/\∃x,r.get 5=some x/\Own 1 39 N st.h st.n x ((tx (a.map fun q=>q*c)).map fun y=>[y])) (fun i r st=>ax N st.w=[]/\ab h N st.h st.n/\∃t x,t+i=a.length/\r.get 6=some (.int .i64 t)/\r.get 5=some x/\Own 1 39 N st.h st.n x ((tx ((a.take t).map fun q=>q*c)).map fun y=>[y])) (a.length) ?_ ?_ ?_
 ·exact⟨by simp,ab.refl,0,.aa,by omega,by simp,by simp,by simpa[tx,strs]using Own.nil⟩
 ·rintro i r ⟨H,n1,W⟩ hr hf ⟨hW,hK,t,x,ht,h6,h5,ho⟩
  simp only at hW hK ho
  rw[bl]
  cases i with
  |zero=>
   obtain rfl:t=a.length:=by omega
   rw[xU]at ho
   simp[A.uI,hr,hf,h6,h5,l1,hW,hK]
   exact ho
  |succ i=>
   have ay:t<a.length:=by omega
   have bb:(t:Int)<((a.length:Nat):Int):=by omega
   obtain⟨q,hq⟩:=bk ay
   have iU:=ha q (cG hq)
   obtain⟨i',o,cc,e,rw,q1,q2,q3,q4⟩:=(hu.ae hK).at (xV hq)
   simp[A.uI,hr,hf,h6,h5,l1,ay,bb,q1,q2,q3,q4]
   refine aA (Yem iU hc hj hk) ?_
   rintro _ H2 n2 k2 rfl
   have kX:=k2.le
   have fx:=hK.le
   obtain⟨v',h',w',f1,f2,f3,_,f5⟩:=tU (x:=[.str (aS (q*c))]) (u:=.slice n2 0 1 (some 1) 1) (bytes:=16) (w:=W) ((ho.ae k2).ae (ab.refl.new (.cells [.str (aS (q*c))] 39 true))) (by omega) (by decide) rfl (by simp[eL,St.row,aF]) (by simp[kp];omega)
   have e7:((tx ((a.take t).map fun q=>q*c)).map fun y=>[y])++[[.str (aS (q*c))]]=(tx ((a.take (t+1)).map fun q=>q*c)).map fun y=>[y]:=by rw[uJ,hq];simp[tx,strs]
   rw[e7]at f5
   simp(disch:=first|(simp;done)|omega|rfl) [hr,hf,h6,h5,q1,q2,q3,q4,ad,f1]
   exact⟨i,by omega,by rw[f2];exact hW,((hK.trans k2).trans (ab.refl.new (.cells [.str (aS (q*c))] 39 true))).then f3,t+1,by omega,by simp,by rw[<-List.map_take];exact f5⟩
 ·rintro _ r ⟨H,n1,W⟩ hr ⟨rfl,hW,hK,x,h5,ho⟩
  simp only at hW hK ho
  simp[hr,h5,aE,hW,hK]
  exact ho
def Ycc{F:Rat->Rat->Rat}{b:List Rat}{t:Nat}{p q:Rat}(hp:a[t]?=some p)(hq:b[t]?=some q):ks F a b (t+1)=ks F a b t++[F p q]:=by
 simp[ks,List.range_succ,hp,hq]
def Zzp{h:T O}{N:Nat}{u v:V}{b:List Rat}{j k:Nat}(hu:Tx h N u a)(hv:Tx h N v b)(gp:a.length<=b.length)(ha:∀q∈a,Qb j q)(hb:∀q∈b,Qb k q)(hj:j<=400000000)(hk:k<=400000000)(hl:a.length<100000):Fn A.C 61 [u,v] h N (fun x h' n'=>Own 1 39 N h' n' x ((tx (ks (fun x y=>x+y) a b a.length)).map fun y=>[y])):=by
 intro w
 have l1:=hu.len
 have l2:=hv.len
 rw[aR,A.k61 (by simp)]
 simp[A.b61]
 refine bL [(5,24)] (fun e r st=>e=.exit 0/\ax N st.w=[]/\ab h N st.h st.n/\∃x,r.get 5=some x/\Own 1 39 N st.h st.n x ((tx (ks (fun x y=>x+y) a b a.length)).map fun y=>[y])) (fun i r st=>ax N st.w=[]/\ab h N st.h st.n/\∃t x,t+i=a.length/\r.get 6=some (.int .i64 t)/\r.get 5=some x/\Own 1 39 N st.h st.n x ((tx (ks (fun x y=>x+y) a b t)).map fun y=>[y])) (a.length) ?_ ?_ ?_
 ·exact⟨by simp,ab.refl,0,.aa,by omega,by simp,by simp,by simpa[tx,strs,ks]using Own.nil⟩
 ·rintro i r ⟨H,n1,W⟩ hr hf ⟨hW,hK,t,x,ht,h6,h5,ho⟩
  simp only at hW hK ho
  rw[bl]
  cases i with
  |zero=>
   obtain rfl:t=a.length:=by omega
   simp[A.uH,hr,hf,h6,h5,l1,hW,hK]
   exact ho
  |succ i=>
   have ay:t<a.length:=by omega
   have bb:(t:Int)<((a.length:Nat):Int):=by omega
   obtain⟨p,hp⟩:=bk ay
   have xW:=ha p (cG hp)
   have Fz:t<b.length:=by omega
   have DG:(t:Int)<(b.length:Int):=by omega
   obtain⟨q,hq⟩:=bk Fz
   have iU:=hb q (cG hq)
   obtain⟨i',o,cc,e,rw,q1,q2,q3,q4⟩:=(hu.ae hK).at (xV hp)
   obtain⟨i2,o2,cc2,e2,UI,p1,p2,p3,p4⟩:=(hv.ae hK).at (xV hq)
   simp[A.uH,hr,hf,h6,h5,l1,ay,bb,l2,Fz,DG,q1,q2,q3,q4,p1,p2,p3,p4]
   refine aA (Yhi xW iU hj hk) ?_
   rintro _ H2 n2 k2 rfl
   have kX:=k2.le
   have fx:=hK.le
   obtain⟨v',h',w',f1,f2,f3,_,f5⟩:=tU (x:=[.str (aS (p+q))]) (u:=.slice n2 0 1 (some 1) 1) (bytes:=16) (w:=[]) ((ho.ae k2).ae (ab.refl.new (.cells [.str (aS (p+q))] 39 true))) (by omega) (by decide) rfl (by simp[eL,St.row,aF]) (by simp[kp,zy];omega)
   have e7:((tx (ks (fun x y=>x+y) a b t)).map fun y=>[y])++[[.str (aS (p+q))]]=(tx (ks (fun x y=>x+y) a b (t+1))).map fun y=>[y]:=by rw[Ycc hp hq];simp[tx,strs]
   rw[e7]at f5
   have ow:ax N w'=[]:=Zyb f2 (by omega) rfl
   simp(disch:=first|(simp;done)|omega|rfl) [-ax,q2,p2,hr,hf,h6,h5,l2,Fz,DG,q1,q2,q3,q4,p1,p2,p3,p4,ad,f1]
   exact⟨i,by omega,Yo0 ow hW,((hK.trans k2).trans (ab.refl.new (.cells [.str (aS (p+q))] 39 true))).then f3,t+1,by omega,by simp,f5⟩
 ·rintro _ r ⟨H,n1,W⟩ hr ⟨rfl,hW,hK,x,h5,ho⟩
  simp only at hW hK ho
  simp[hr,h5,aE,hW,hK]
  exact ho
def Yr4:aS (-1)=[45,49]:=by decide+kernel
variable {N R:Nat} {h:T O} {l:List Rat} {m:List (List Rat)} {u:V}
def zz(N0:Nat)(h:T O)(N:Nat)(u:V)(l:List Rat):Prop:=Tx h N u l/\∀i∈dh u,i<N0\/∃z w,h.get i=some (.cells z 39 w)
def zz.ae{N0:Nat}{h':T O}{N':Nat}(s:zz N0 h N u l)(k:ab h N h' N'):zz N0 h' N' u l:=⟨s.1.ae k,fun i hi=>by
 rcases s.2 i hi with h1|⟨z,w,h1⟩
 ·exact .inl h1
 ·exact .inr ⟨z,w,(k.get i (PB s.1 i hi)).trans h1⟩⟩
def tV.old{N0:Nat}(s:tV h N u l):zz N0 h N u l:=⟨s.1,fun i hi=>.inr (s.2 i hi)⟩
def Tx.old{N0:Nat}(s:Tx h N0 u l):zz N0 h N0 u l:=⟨s,fun i hi=>.inl (PB s i hi)⟩
def zz.bh{N0:Nat}{us vs:List V}{b c:Bool}(s:zz N0 h N u l)(g:h.get R=some (.cells us 23 b))(hR:N0<=R):zz N0 (h.set R (.cells vs 23 c)) N u l:=by
 have aW:∀i∈dh u,i≠R:=fun i hi hc=>by
  rcases s.2 i hi with h1|⟨z,w,hz⟩
  ·omega
  ·rw[hc,g]at hz
   simp at hz
 have k:eE (fun i=>i=R) h N (h.set R (.cells vs 23 c)) N:=⟨aM _,fun i _ hi=>by rw[T.ag,ak hi]⟩
 refine⟨Sl.cE s.1 k aW,fun i hi=>?_⟩
 rcases s.2 i hi with h1|⟨z,w,hz⟩
 ·exact .inl h1
 ·exact .inr ⟨z,w,by rw[T.ag,ak (aW i hi)];exact hz⟩
structure pK (N0:Nat) (h:T O) (N R:Nat) (m:List (List Rat)):Prop where
 ge:N0<=R
 lt:R<N
 ex:∃us:List V,h.get R=some (.cells us 23 true)/\us.length=m.length/\∀(j:Nat) (l:List Rat),m[j]?=some l->∃u,us[j]?=some u/\zz N0 h N u l
def pK.ae{N0:Nat}{h':T O}{N':Nat}(s:pK N0 h N R m)(k:ab h N h' N'):pK N0 h' N' R m:=by
 obtain⟨us,g1,g2,g5⟩:=s.ex
 refine⟨s.ge,eX s.lt k.le,us,(k.get R s.lt).trans g1,g2,fun j l hl=>?_⟩
 obtain⟨u,a1,a2⟩:=g5 j l hl
 exact⟨u,a1,a2.ae k⟩
def pK.at{N0:Nat}(s:pK N0 h N R m){j:Nat}{l:List Rat}(hj:m[j]?=some l):∃us u,h.get R=some (.cells us 23 true)/\us.length=m.length/\us[j]?=some u/\zz N0 h N u l:=by
 obtain⟨us,g1,g2,g5⟩:=s.ex
 obtain⟨u,a1,a2⟩:=g5 j l hj
 exact⟨us,u,g1,g2,a1,a2⟩
def pK.put{N0:Nat}{i:Nat}{us:List V}(s:pK N0 h N R m)(g:h.get R=some (.cells us 23 true))(hu:zz N0 h N u l)(hi:i<m.length):pK N0 (h.set R (.cells (us.set i u) 23 true)) N R (m.set i l):=by
 obtain⟨vs,g1,g2,g5⟩:=s.ex
 rw[g]at g1
 simp only[al,O.cells.injEq]at g1
 obtain⟨rfl,_⟩:=g1
 refine⟨s.ge,s.lt,us.set i u,by rw[T.ag,av rfl],by simp[g2],fun j r hr=>?_⟩
 by_cases e:j=i
 ·subst e
  rw[gG hi]at hr
  simp only[al]at hr
  subst hr
  exact⟨u,by rw[gG (by omega)],hu.bh g s.ge⟩
 ·rw[d_ (Ne.symm e)]at hr ⊢
  obtain⟨u',a1,a2⟩:=g5 j r hr
  exact⟨u',a1,a2.bh g s.ge⟩
def BZ{l:List V}{i:Nat}(h:i<l.length):ad l i [u]=l.set i u:=by
 unfold ad
 rw[List.set_eq_take_append_cons_drop,av h]
 simp
def A.B0:=A.q Tryz.f130
def A.jv:=A.ql A.B0 2 []
def A.jw:=A.ql A.B0 1 []
def A.jx:=(fun x0 x1=>A.ql A.B0 0 [x0,x1]) A.jw A.jv
def A.b130:=(fun x0=>A.qb A.B0 [x0]) A.jx
def A.k130:=@A.kk 130 110 [.tmp 2] A.b130 (by kernel_rfl) rfl
def Yom{m:List (List Rat)}{k p n:Nat}(hn:0<n):nN m k p n=if (m[p]?.getD [])[k]?.getD 0≠0 then p else nN m k (p+1) (n-1):=by
 obtain⟨n,rfl⟩:∃n',n=n'+1:=⟨n-1,by omega⟩
 rfl
def Yiu{W0:List Nat}{N0:Nat}{H:T O}{n R:Nat}{r0:T V}{m:List (List Rat)}{d k c:Nat}(s:pK N0 H n R m)(hc:bg m c)(hk:k<c)(hd:d<=m.length)(mw:m.length<1000)(a3:r0.get 3=some (.slice R 0 m.length none 1))(a5:r0.get 5=some (.int .i64 k))(a6:r0.get 6=some (.int .i64 d)):
  Code A.C none (.loop A.jw) ⟨r0,110,[]⟩ ⟨H,n,W0⟩ (fun e fr st=>e=.exit 2/\st=⟨H,n,W0⟩/\∃r,Fx [(6,6),(25,40)] r0 110 ⟨r,110,[]⟩/\fr=⟨r,110,[]⟩/\r.get 6=some (.int .i64 (dJ m d k))):=by
 rw[bl]
 refine bL [(6,6),(25,40)] (fun e r st=>e=.exit 2/\st=⟨H,n,W0⟩/\r.get 6=some (.int .i64 (dJ m d k))) (fun i r st=>st=⟨H,n,W0⟩/\∃p,p<=m.length/\i=m.length-p/\r.get 6=some (.int .i64 p)/\dJ m d k=nN m k p (m.length-p)) (m.length-d) ?_ ?_ ?_
 ·exact⟨rfl,d,hd,rfl,a6,rfl⟩
 ·rintro i r _ hr hf ⟨rfl,p,hp,rfl,h6,hz⟩
  rw[bl]
  by_cases ay:p<m.length
  ·have bb:(p:Int)<(m.length:Int):=by omega
   obtain⟨row,aq⟩:=bk ay
   obtain⟨us,u,g1,g2,g3,g4⟩:=s.at aq
   have qp:=hc row (cG aq)
   obtain⟨q,hq⟩:=bk (l:=row) (k:=k) (by omega)
   obtain⟨i1,o1,c1,e1,w1,q1,q2,q3,q4⟩:=g4.1.at (xV hq)
   have sZ:=g4.1.len
   have bM:(k:Int)<(row.length:Int):=by omega
   have er:k<row.length:=by omega
   have FA:=fun st=>Zt2 (q:=q) (st:=st)
   have hR:=s.lt
   rw[Yom (by omega),aq]at hz
   simp only[fX,hq]at hz
   by_cases c0:q=0
   ·rw[ak (by simpa using c0)]at hz
    have Kl:=FA
    simp only[decide_eq_true c0]at Kl
    simp(disch:=first|(simp;done)|omega|rfl) [-getElem?_pos,A.jw,hr,hf,a3,a5,h6,ay,bb,g1,g3,hR,q1,q2,q3,q4,kp,bM,er,Kl,sZ]
    refine⟨m.length-(p+1),by omega,p+1,by omega,rfl,by simp,?_⟩
    rw[hz,show m.length-p-1=m.length-(p+1) by omega]
   ·rw[av c0]at hz
    have Kl:=FA
    simp only[decide_eq_false c0]at Kl
    simp[A.jw,hr,hf,a3,a5,h6,ay,bb,g1,g3,hR,q1,q2,q3,q4,kp,bM,er,Kl,sZ,hz]
  ·obtain rfl:p=m.length:=by omega
   rw[Nat.sub_self,nN]at hz
   simp[A.jw,hr,hf,a3,a5,h6,hz]
 ·rintro _ r _ hr ⟨rfl,rfl,h6⟩
  simp[]
  exact⟨r,⟨hr,rfl,rfl⟩,rfl,h6⟩
def A.b9:=A.q Tryz.f9
def A.k9:=@A.kk 9 5 [.tmp 2] A.b9 (by kernel_rfl) rfl
def Yiy{h:T O}{N:Nat}{v:V}{l:List (List aQ)}(hs:iV h N v l)(hl:l.length<100000)(hx:∀x∈l,x.length<100000/\∀s∈x,s.length<=100000):Fn A.C 9 [v] h N (fun u _ _=>u=.int .i64 (lS l 64 16)):=by
 intro w
 rw[aR,A.k9 (by simp)]
 simp[A.b9]
 refine aA (Yq1 (a:=64) (b:=16) hs hl hx) ?_
 rintro _ H2 n2 k2 rfl
 simp[aE]
 exact k2
variable {N:Nat} {h:T O} {m:List (List Rat)} {v:V}
def wJ(N0:Nat)(h:T O)(N:Nat)(v:V)(m:List (List Rat)):Prop:=∃us:List V,Own 1 23 N0 h N v (us.map fun y=>[y])/\us.length=m.length/\∀(j:Nat) (l:List Rat),m[j]?=some l->∃u,us[j]?=some u/\Tx h N0 u l
def wJ.nil{N0:Nat}:wJ N0 h N .aa []:=⟨[],Own.nil,rfl,fun j l hl=>by simp at hl⟩
def wJ.ae{N0:Nat}{h':T O}{N':Nat}(s:wJ N0 h N v m)(k:ab h N h' N')(hN:N0<=N):wJ N0 h' N' v m:=by
 obtain⟨us,h1,h3,h4⟩:=s
 refine⟨us,h1.ae k,h3,fun j l hl=>?_⟩
 obtain⟨u,g1,g2⟩:=h4 j l hl
 exact⟨u,g1,g2.ae ⟨aM _,fun i hi=>k.get i (by omega)⟩⟩
def wJ.yB{N0:Nat}(s:wJ N0 h N v m)(hN:N0<=N):iw h N v m:=by
 obtain⟨us,h1,h3,h4⟩:=s
 refine⟨us,Sn.one.1 h1.sn,h3,fun j l hl=>?_⟩
 obtain⟨u,g1,g2⟩:=h4 j l hl
 exact⟨u,g1,g2.ae ⟨hN,fun _ _=>rfl⟩⟩
def wJ.push{N0:Nat}{u x:V}{l:List Rat}{w:List Nat}(s:wJ N0 h N v m)(hu:Tx h N0 u l)(hN:N0<=N)(hx:eL ⟨h,N,w⟩ 1 x=some (1,[u]))(hm:m.length<100000):
  ∃v' h' w',fY ⟨h,N,w⟩ 1 24 23 v x=some (v',⟨h',N+1,w'⟩)/\ax N0 w'=ax N0 w/\ab h N0 h' (N+1)/\wJ N0 h' (N+1) v' (m++[l]):=by
 obtain⟨us,h1,h3,h4⟩:=s
 obtain⟨v',h',w',f1,f2,f3,_,f5⟩:=tU (x:=[u]) (u:=x) (bytes:=24) (w:=w) h1 hN (by decide) rfl hx (by rw[dL];omega)
 have kk:ab h N0 h' N0:=⟨aM _,f3.get⟩
 refine⟨v',h',w',f1,f2,f3,us++[u],by simpa using f5,by simp[h3],fun j r hr=>?_⟩
 by_cases hj:j<m.length
 ·rw[iM hj]at hr
  obtain⟨u',g1,g2⟩:=h4 j r hr
  exact⟨u',by rw[iM (by omega)];exact g1,g2.ae kk⟩
 ·rw[kY (by omega)]at hr
  cases hd:j-m.length with
  |zero=>
   rw[hd]at hr
   simp at hr
   subst hr
   exact⟨u,by rw[kY (by omega),h3,hd];rfl,hu.ae kk⟩
  |succ d=>rw[hd]at hr;simp at hr
def Ywr(m:List (List Rat)):Bool:=m.any fv
def TPM(e:Int)(m:List (List Rat))(v:V)(c:Int)(h:T O)(n:Nat):Prop:=(e≠0/\v=.aa/\c=e)\/(e=0/\((Ywr m=true/\v=.aa/\c=4)\/(Ywr m=false/\c=0/\iw h n v m)))
def TPN(e:Int)(q:Rat)(s:List UInt8)(c:Int):Prop:=(e≠0/\s=[]/\c=e)\/(e=0/\((A6 q=true/\s=[]/\c=4)\/(A6 q=false/\c=0/\s=aS q)))
def A.w12:=A.q Tryz.f12
def A.qq:=A.ql A.w12 0 []
def A.b12:=(fun x0=>A.qb A.w12 [x0]) A.qq
def A.c12:A.F 12=some ⟨15,[.tmp 2],A.b12⟩:=by kernel_rfl
def A.k12:=@A.kk 12 _ _ _ A.c12 rfl
def Yfd{h:T O}{N:Nat}{v:V}{l:List Int}{w:List Nat}(hs:Sl h N v (dI l))(hl:l.length<1000):A.C.call (.func 12 [] []) [v] ⟨h,N,w⟩=some (.int .i64 (cF l),⟨h,N,w⟩):=by
 apply Call.eq
 have hlen:=hs.len
 rw[fZ]at hlen
 rw[aR,A.k12 (by simp)]
 simp[A.b12,hlen]
 refine bL [(2,2),(4,4),(7,14)] (fun e r st=>st=⟨h,N,[]⟩/\((e=.exit 0/\cF l=0)\/(e=.ret/\r.get 2=some (.int .i64 (cF l))))) (fun m r st=>st=⟨h,N,[]⟩/\∃k,m=l.length-k/\k<=l.length/\r.get 7=some (.int .i64 k)/\cF l=cF (l.drop k)) l.length ?_ ?_ ?_
 ·exact⟨rfl,0,by omega,by omega,by simp,by simp⟩
 ·rintro m r _ hr hf ⟨rfl,k,rfl,hk,h7,hz⟩
  rw[bl]
  by_cases ay:k<l.length
  ·obtain⟨c,hc⟩:=bk ay
   obtain⟨i,o,cc,e,rw,q1,q2,q3,q4⟩:=hs.at (fS hc)
   rw[my hc,cF]at hz
   have bM:(k:Int)<(l.length:Int):=by omega
   by_cases h0:c=0
   ·rw[av h0]at hz
    simp(disch:=first|(simp;done)|omega|rfl) [A.qq,hr,hf,h7,bM,ay,hlen,q1,q3,q4,aG,h0]
    exact⟨_,by omega,k+1,rfl,by omega,by simp,hz⟩
   ·rw[ak h0]at hz
    simp[A.qq,hr,hf,h7,bM,ay,hlen,q1,q3,q4,aG,h0,hz]
  ·have:l.drop k=[]:=yC (by omega)
   rw[this,cF]at hz
   have:k=l.length:=by omega
   subst this
   simp[A.qq,hr,hf,h7,hlen,hz]
 ·rintro _ r _ hr ⟨rfl,⟨rfl,hz⟩|⟨rfl,h2⟩⟩
  ·simp[hr,hz]
  ·simp[hr,h2]
def Ypr{h:T O}{N i:Nat}{w:List Nat}{a0 a1:Int}(hi:i<N):A.C.call (.func 12 [] []) [.slice i 0 2 (some 2) 1] ⟨h.set i (.cells [.int .i64 a0,.int .i64 a1] 3 true),N,w⟩=some (.int .i64 (cF [a0,a1]),⟨h.set i (.cells [.int .i64 a0,.int .i64 a1] 3 true),N,w⟩):=
 Yfd (l:=[a0,a1]) (Sl.row (e:=3) (rw:=true) (cp:=some 2) hi (by simp[dI]) rfl (by simp)) (by simp)
def Km{h:T O}{N:Nat}{w:List Nat}(hP:kZ h N):A.C.call (.func 7 [] []) [] ⟨h,N,w⟩=some (.bool true,⟨h,N,w⟩):=by
 exact A.known hP.2
structure Wt (e:Int) (l:List Rat) (v:V) (c:Int) (u:V) (h:T O) (n:Nat):Prop where
 p:kZ h n
 tp:TP e l v c h n
 tx:e=0->Tx h n u l
 len:l.length<100000
 B1:e=0->∀q∈l,(aS q).length<1000000000
structure WtN (e:Int) (q:Rat) (s:aQ) (c:Int) (t:aQ):Prop where
 tp:TPN e q s c
 tx:e=0->t=aS q
 B1:e=0->(aS q).length<1000000000
structure WtM (e:Int) (m:List (List Rat)) (v:V) (c:Int) (u:V) (h:T O) (n:Nat):Prop where
 tp:TPM e m v c h n
 tx:e=0->iw h n u m
 len:m.length<100000
 B1:e=0->∀r∈m,r.length<100000/\∀q∈r,(aS q).length<1000000000
def UJ{N n:Nat}{w:List Nat}(h:ax n w=[])(hN:N<=n):ax N w=[]:=yD fun i hi=>by
 have:=DH h i hi
 omega
def PC{q:Rat}{k:Nat}(h:Qb k q)(hk:k<=400000000):(aS q).length<1000000000:=by
 have h1:=FB h.1
 have h2:=DI h.2
 unfold aS
 split<;>simp<;>omega
variable {h:T O}
def Sl.iW{N:Nat}{v:V}{l:List V}(s:Sl h N v l):v.cells=[v]:=by
 rcases s with⟨_,rfl|rfl⟩|⟨j,o,cp,c,e,rw,rfl,hj,_⟩<;>rfl
def Sl.uK{N:Nat}{v:V}{l:List V}(s:Sl h N v l):v.one=true:=by
 rcases s with⟨_,rfl|rfl⟩|⟨j,o,cp,c,e,rw,rfl,hj,_⟩<;>rfl
def Ynq{r p:List Rat}{k:Nat}:ks (fun x y=>x+y) r (p.map fun q=>q* -(r[k]?.getD 0)) r.length=pj r p k:=by
 unfold pj ks
 apply zA
 intro i _
 rw[eY]
 cases hb:p[i]? with
 |none=>simp only[Option.map_none,Option.getD_none];rw[Rat.sub_eq_add_neg,Rat.mul_zero,Rat.neg_zero]
 |some q=>simp only[pL,fX];rw[Rat.sub_eq_add_neg,Rat.mul_neg,Rat.mul_comm]
def Yiw{W0:List Nat}{N0:Nat}{H:T O}{n R:Nat}{r0:T V}{m:List (List Rat)}{d k c K:Nat}(s:pK N0 H n R m)(hc:bg m c)(hk:k<c)(hd:d<m.length)(mw:m.length<1000)(cN:c<1000)(hK:∀i,i≠d->∀q∈m[i]?.getD [],Qb K q)(hP:∀q∈m[d]?.getD [],Qb (2*K) q)(hKl:3*K<=400000000)(kH:ab h N0 H n)(tW:ax N0 W0=[])(a3:r0.get 3=some (.slice R 0 m.length none 1))(a4:r0.get 4=some (.int .i64 d))(a5:r0.get 5=some (.int .i64 k))(a7:r0.get 7=some (.int .i64 0)):
  Code A.C none (.loop A.jv) ⟨r0,110,[]⟩ ⟨H,n,W0⟩ (fun e fr st=>e=.exit 4/\ax N0 st.w=[]/\ab h N0 st.h st.n/\pK N0 st.h st.n R (b_ m d k m.length)/\∃r,Fx [(7,7),(75,104)] r0 110 ⟨r,110,[]⟩/\fr=⟨r,110,[]⟩):=by
 rw[bl]
 refine bL [(7,7),(75,104)] (fun e r st=>e=.exit 4/\ax N0 st.w=[]/\ab h N0 st.h st.n/\pK N0 st.h st.n R (b_ m d k m.length)) (fun i r st=>ax N0 st.w=[]/\ab h N0 st.h st.n/\∃t,t<=m.length/\i=m.length-t/\r.get 7=some (.int .i64 t)/\pK N0 st.h st.n R (b_ m d k t)) (m.length) ?_ ?_ ?_
 ·exact⟨tW,kH,0,by omega,by omega,a7,by rw[Ytx];exact s⟩
 ·rintro i r ⟨H1,n1,W⟩ hr hf ⟨hW,k1,t,ht,rfl,h7,s1⟩
  simp only at hW k1 s1
  rw[bl]
  by_cases ay:t<m.length
  ·have bb:(t:Int)<(m.length:Int):=by omega
   by_cases e:t=d
   ·subst e
    rw[<-Zyx]at s1
    simp(disch:=first|(simp;done)|omega|rfl) [A.jv,hr,hf,a3,a4,a5,h7,ay,bb,k1,hW]
    exact⟨m.length-(t+1),by omega,t+1,by omega,rfl,by simp,s1⟩
   ·have e':¬(t:Int)=(d:Int):=by omega
    have yE:(d:Int)<(m.length:Int):=by omega
    obtain⟨row,aq⟩:=bk ay
    obtain⟨lV,iN⟩:=bk hd
    have qp:=hc row (cG aq)
    have gw:=hc lV (cG iN)
    have w1:(b_ m d k t)[t]?=some row:=by rw[DJ ay,ak (by omega),aq];rfl
    have w2:(b_ m d k t)[d]?=some lV:=by rw[Ytw hd];exact iN
    obtain⟨us,u,g1,g2,g3,g4⟩:=s1.at w1
    obtain⟨us',v,B2,_,DK,Iy⟩:=s1.at w2
    rw[g1]at B2
    simp only[al,O.cells.injEq,and_true]at B2
    subst B2
    obtain⟨q,hq⟩:=bk (l:=row) (k:=k) (by omega)
    have xX:∀q∈row,Qb K q:=by have:=hK t e;rw[aq]at this;exact this
    have xW:∀q∈lV,Qb (2*K) q:=by have:=hP;rw[iN]at this;exact this
    have iU:=xX q (cG hq)
    have hnb:Qb K (-q):=⟨by rw[Rat.neg_num,xY];exact iU.1,by rw[Rat.neg_den];exact iU.2⟩
    obtain⟨i1,o1,c1,e1,x1,q1,q2,q3,q4⟩:=g4.1.at (xV hq)
    have sZ:=g4.1.len
    have bM:(k:Int)<(row.length:Int):=by omega
    have er:k<row.length:=by omega
    have hR:=s1.lt
    have aW:=fun st=>Yel (q:=q) (st:=st) (PC iU (by omega))
    simp[A.jv,hr,hf,a3,a4,a5,h7,ay,bb,e,e',hd,yE,g1,g3,DK,hR,q1,q2,q3,q4,kp,bM,er,sZ,aW]
    refine aA (UH Iy.1 xW hnb (by omega) (by omega) (by omega)) ?_
    rintro v2 H2 n2 k2 o2
    have t2:=xZ o2
    have kX:=k2.le
    have s2:=s1.ae k2
    have pM:=(k2.get R hR).trans g1
    simp[pM,hr,hf]
    refine aA (Zzp (g4.1.ae k2) t2.1 (by simp;omega) xX (k:=2*K+K) (fun q' uL=>by
     obtain⟨y,hy,rfl⟩:=dt.1 uL
     exact(xW y hy).mul hnb) (by omega) (by omega) (by omega)) ?_
    rintro v3 H3 n3 k3 o3
    have t3:=(xZ o3).old (N0:=N0)
    have B3:=k3.le
    have s3:=s2.ae k3
    have Kn:=(k3.get R (by omega)).trans pM
    have wK:t<us.length:=by rw[g2,yF];exact ay
    have uM:t+1<=us.length:=wK
    have lR1:R<n2:=by omega
    have wL:R<n3:=by omega
    have iX:(t:Int)<(us.length:Int):=by omega
    have f_:∀u,ad us t [u]=us.set t u:=fun u=>BZ wK
    have mA:v3.cells=[v3]:=Sl.iW t3.1
    have UK:v3.one=true:=Sl.uK t3.1
    simp(disch:=first|(simp;done)|omega|rfl) [-V.cells, -V.one,bC,mA,UK,f_,wK,uM,Kn,lR1,wL,hr,hf,h7]
    have hz:ks (fun x y=>x+y) row (lV.map fun y=>y* -q) row.length=pj row lV k:=by
     have:=Ynq (r:=row) (p:=lV) (k:=k)
     rw[hq]at this
     exact this
    have sp:=s3.put Kn t3 (i:=t) (by rw[yF];exact ay)
    rw[hz]at sp
    refine⟨m.length-(t+1),by omega,by rw[ak (s_.2 s1.ge)];exact hW,((k1.trans k2).trans k3).set s1.ge,t+1,by omega,rfl,by simp,?_⟩
    rw[UL ay e,aq,iN]
    exact sp
  ·obtain rfl:t=m.length:=by omega
   simp[A.jv,hr,hf,a3,a5,h7,k1,hW]
   exact s1
 ·rintro _ r st hr ⟨rfl,hw,k1,s1⟩
  simp[]
  exact⟨hw,k1,s1,hr,rfl,rfl⟩
variable {m:List (List Rat)}
def yG{m:List (List Rat)}:∀{n:Nat},(aD m n).1.length=m.length
 |0=>rfl
 |n+1=>by rw[ta,Ynu];exact yG
def mB{m:List (List Rat)}{c:Nat}(h:bg m c):∀{n:Nat},bg (aD m n).1 c/\(aD m n).2.1<=m.length
 |0=>⟨h,tX _⟩
 |n+1=>by
  obtain⟨a,b⟩:=@mB m c h n
  rw[ta]
  have:=Yr7 (k:=n) a (by rw[yG];exact b)
  rw[yG]at this
  exact⟨this.1,this.2.1⟩
def kB(K:Nat):Nat->Nat
 |0=>K
 |n+1=>4*kB K n+1
def Iz{K:Nat}(h:1<=K):∀{n:Nat},1<=kB K n
 |0=>h
 |n+1=>by rw[kB];omega
def Yfn{K:Nat}:∀{n m:Nat},n<=m->kB K n<=kB K m
 |n,0,h=>by
  obtain rfl:n=0:=by omega
  exact aM _
 |n,m+1,h=>by
  by_cases e:n=m+1
  ·rw[e];exact aM _
  ·have:=@Yfn K n m (by omega)
   rw[kB];omega
def Ymp{K a:Nat}:∀{b:Nat},kB (kB K a) b=kB K (a+b)
 |0=>rfl
 |b+1=>by
  show 4*kB (kB K a) b+1=4*kB K (a+b)+1
  rw[Ymp]
def Ytg:∀{n:Nat},n<6->3*kB 96 n<=400000000:=by decide
def Ytf{n:Nat}(h:n<=6):kB 96 n<=400000000:=k_ (Yfn h) (by decide)
def Ko{m:List (List Rat)}:∀{n:Nat},(aD m n).2.1<=n
 |0=>aM _
 |n+1=>by
  have:=@Ko m n
  rw[ta]
  unfold fT
  split
  ·show (aD m n).2.1+1<=n+1
   omega
  ·omega
def PD{m:List (List Rat)}{K:Nat}(h:cB m K)(hK:1<=K):∀{n:Nat},cB (aD m n).1 (kB K (aD m n).2.1)
 |0=>h
 |n+1=>by
  have ih:=@PD m K h hK n
  rw[ta]
  by_cases hp:dJ (aD m n).1 (aD m n).2.1 n<(aD m n).1.length
  ·have hs:=Yr8 (k:=n) ih (Iz hK)
   have e:(fT (aD m n) n).2.1=(aD m n).2.1+1:=by unfold fT;rw[av hp]
   rw[e,kB]
   exact hs
  ·have e:fT (aD m n) n=aD m n:=by unfold fT;rw[ak hp]
   rw[e]
   exact ih
def Zz7{W0:List Nat}{N0:Nat}{h H:T O}{n R:Nat}{r0:T V}{c:Nat}{B:Nat->Nat}(s:pK N0 H n R m)(hc:bg m c)(mw:m.length<1000)(ix:0<m.length)(cN:c<1000)(x_:∀n,1<=B n)(hK:∀k,cB (aD m k).1 (B (aD m k).2.1))(hB:∀n,n<m.length->n<c->3*B n<=400000000)(kH:ab h N0 H n)(tW:ax N0 W0=[])(a3:r0.get 3=some (.slice R 0 m.length none 1))(a4:r0.get 4=some (.int .i64 0))(a5:r0.get 5=some (.int .i64 0)):
  Code A.C none (.loop A.jx) ⟨r0,110,[]⟩ ⟨H,n,W0⟩ (fun e fr st=>e=.exit 0/\ax N0 st.w=[]/\ab h N0 st.h st.n/\pK N0 st.h st.n R (aD m c).1/\∃r,Fx [(4,7),(11,106)] r0 110 ⟨r,110,[]⟩/\fr=⟨r,110,[]⟩/\r.get 4=some (.int .i64 (aD m c).2.1)):=by
 rw[bl]
 refine bL [(4,7),(11,106)] (fun e r st=>e=.exit 0/\ax N0 st.w=[]/\ab h N0 st.h st.n/\pK N0 st.h st.n R (aD m c).1/\r.get 4=some (.int .i64 (aD m c).2.1)) (fun i r st=>ax N0 st.w=[]/\ab h N0 st.h st.n/\∃k,k<=c/\i=c-k/\r.get 5=some (.int .i64 k)/\r.get 4=some (.int .i64 (aD m k).2.1)/\pK N0 st.h st.n R (aD m k).1) c ?_ ?_ ?_
 ·exact⟨tW,kH,0,by omega,by omega,a5,a4,s⟩
 ·rintro i r ⟨H1,n1,W⟩ hr hf ⟨hW,k1,k,hk,rfl,h5,h4,s1⟩
  simp only at hW k1 s1
  rw[bl]
  have hlen:(aD m k).1.length=m.length:=yG
  obtain⟨IA,gZ⟩:=@mB m c hc k
  obtain⟨UM,DL⟩:=bk (l:=(aD m k).1) (k:=0) (by omega)
  have UN:=IA UM (cG DL)
  obtain⟨us,u,g1,g2,g3,g4⟩:=s1.at DL
  have sZ:=g4.1.len
  rw[UN]at sZ
  have hR:=s1.lt
  have ya:(0:Int)<(m.length:Int):=by omega
  by_cases ay:k<c
  ·have bb:(k:Int)<(c:Int):=by omega
   simp[A.jx,hr,hf,a3,h5,h4,ix,ya,g1,g3,hR,sZ,ay,bb]
   refine jy (Yiu (d:=(aD m k).2.1) s1 IA ay (by omega) (by omega) (by simp[hr,hlen,a3]) (by simp[h5]) (by simp)) ?_
   rintro _ _ _ ⟨rfl,rfl,r2,f2,rfl,h6⟩
   have cZ:=f2.dN
   have c9:=hf.inner (D':=[(6,6),(25,40)]) (by decide) (fun hx=>by simpa[Fx.set]using hx) cZ
   have zay:=@B4 (aD m k).1 k ((aD m k).1.length-(aD m k).2.1) (aD m k).2.1
   by_cases hp:dJ (aD m k).1 (aD m k).2.1 k<(aD m k).1.length
   ·generalize hd:(aD m k).2.1=d at*
    generalize mC:(aD m k).1=m1 at*
    have dp:d<m1.length:=by unfold dJ at hp;omega
    generalize pN:dJ m1 d k=p at*
    obtain⟨rd,yH⟩:=bk dp
    obtain⟨rp,yb⟩:=bk hp
    obtain⟨us1,ud,x1,x2,x3,x4⟩:=s1.at yH
    obtain⟨us2,up,y1,_,y3,y4⟩:=s1.at yb
    rw[g1]at x1 y1
    simp only[al,O.cells.injEq,and_true]at x1 y1
    subst x1;subst y1
    have sA:=s1.put g1 y4 dp
    have gA:(H1.set R (.cells (us.set d up) 23 true)).get R=some (.cells (us.set d up) 23 true):=by rw[T.ag,av rfl]
    have sB:=sA.put gA (x4.bh g1 s1.ge) (i:=p) (by rw[wM];exact hp)
    have Kp:d<us.length:=by omega
    have Kq:p<us.length:=by omega
    have UO:¬(p:Int)=(m.length:Int):=by omega
    have yE:(d:Int)<(m.length:Int):=by omega
    have B5:(p:Int)<(m.length:Int):=by omega
    have yc:d<m.length:=by omega
    have FC:p<m.length:=by omega
    have hdk:d<c:=by
     have:=@Ko m k
     omega
    have e1:∀u,ad us d [u]=us.set d u:=fun u=>BZ Kp
    have e2:∀u,ad (us.set d up) p [u]=(us.set d up).set p u:=fun u=>BZ (by simp;exact Kq)
    have c1:ud.cells=[ud]:=Sl.iW x4.1
    have o1:ud.one=true:=Sl.uK x4.1
    have c2:up.cells=[up]:=Sl.iW y4.1
    have o2:up.one=true:=Sl.uK y4.1
    have l1:d+1<=us.length:=Kp
    have l2:p+1<=us.length:=Kq
    simp[-V.cells, -V.one,cZ,c9,hr,h6,a3,h4,h5,UO,yE,B5,yc,FC,g1,x3,y3,hR,bC,c1,o1,c2,o2,e1,e2,l1,l2]
    have kG:=(k1.set (i:=R) (o:=.cells (us.set d up) 23 true) s1.ge).set (i:=R) (o:=.cells ((us.set d up).set p ud) 23 true) s1.ge
    have gB:((H1.set R (.cells (us.set d up) 23 true)).set R (.cells ((us.set d up).set p ud) 23 true)).get R=some (.cells ((us.set d up).set p ud) 23 true):=by rw[T.ag,av rfl]
    generalize (H1.set R (.cells (us.set d up) 23 true)).set R (.cells ((us.set d up).set p ud) 23 true)=G at*
    have yI:(m1.set d rp).set p rd=bP m1 d p:=by unfold bP;rw[yH,yb];rfl
    rw[yI]at sB
    have wK:((us.set d up).set p ud).length=m1.length:=by simp only[wM];omega
    generalize (us.set d up).set p ud=vs at*
    have UP:cB m1 (B d):=by rw[<-mC,<-hd];exact hK _
    have zB:=UP.zC (d:=d) (p:=p)
    have Kr:=IA.zC dp hp
    have UQ:(bP m1 d p).length=m1.length:=mD
    have aW:=@DM m1 k (m1.length-d) d (by unfold dJ at pN;omega)
    have aq:(bP m1 d p)[d]?=some rp:=by
     rw[<-yI]
     by_cases e:p=d
     ·subst e;rw[yH]at yb;simp only[al]at yb;subst yb;rw[gG (by simp;omega)]
     ·rw[d_ e,gG dp]
    have uN:rp[k]?.getD 0≠0:=by
     have h9:=pN
     unfold dJ at h9
     rw[h9,yb]at aW
     exact aW
    obtain⟨ku,vd,z1,z2,z3,z4⟩:=sB.at aq
    rw[gB]at z1
    simp only[al,O.cells.injEq,and_true]at z1
    subst z1
    have UR:=Kr rp (cG aq)
    obtain⟨q,hq⟩:=bk (l:=rp) (k:=k) (by omega)
    have xX:=zB rp (cG aq)
    have iU:=xX q (cG hq)
    have sI:q≠0:=by rw[hq]at uN;exact uN
    have hkq:=hB d yc hdk
    obtain⟨i1,t1,w1,e3,v1,q1,q2,q3,q4⟩:=z4.1.at (xV hq)
    have nO:=z4.1.len
    have bM:(k:Int)<(rp.length:Int):=by omega
    have er:k<rp.length:=by omega
    simp[cZ,c9,hr,a3,h4,h5,yE,yc,z3,q1,q2,q3,q4,bM,er,nO,kp,gB,hR]
    refine aA (Yoi iU (by omega) sI) ?_
    rintro _ H2 n2 k2 rfl
    have kX:=k2.le
    have wL:R<n2:=by omega
    have pM:=(k2.get R hR).trans gB
    simp[z3,pM,wL,cZ,c9,hr,a3,h4,h5]
    refine aA (UH (z4.1.ae k2) xX (US iU sI) (by omega) (by omega) (by omega)) ?_
    rintro v3 H3 n3 k3 o3
    have t3:=(xZ o3).old (N0:=N0)
    have B3:=k3.le
    have s3:=(sB.ae k2).ae k3
    have DK:=(k3.get R wL).trans pM
    have Ks:R<n3:=by omega
    have tY:d<vs.length:=by omega
    have FD:d+1<=vs.length:=tY
    have e4:∀u,ad vs d [u]=vs.set d u:=fun u=>BZ tY
    have c3:v3.cells=[v3]:=Sl.iW t3.1
    have o4:v3.one=true:=Sl.uK t3.1
    simp(disch:=first|(simp;done)|omega|rfl) [-V.cells, -V.one,cZ,c9,hr,a3,h4,h5,DK,wL,Ks,bC,c3,o4,e4,tY,FD]
    have sC:=s3.put DK t3 (i:=d) (by rw[UQ];exact dp)
    have A7:(bP m1 d p).set d (rp.map fun x=>x*q⁻¹)=eZ (bP m1 d p) d k:=by
     unfold eZ
     rw[aq]
     simp only[fX,hq,Rat.div_def]
    rw[A7]at sC
    have IB:(eZ (bP m1 d p) d k).length=m.length:=by rw[zD,mD];exact hlen
    refine jy (Yiw (h:=h) (d:=d) (K:=B d) sC (Kr.FF (by omega)) ay (by omega) (by omega) (by omega) (fun i hi=>by
     unfold eZ
     rw[d_ (Ne.symm hi)]
     exact zB.at) (by
     unfold eZ
     rw[gG (by omega)]
     exact UT zB (x_ _) (by rw[aq];exact uN)) (by omega) (((kG.trans k2).trans k3).set sC.ge) (by simp[s_.2 s1.ge,hW]) (by simp[cZ,hr,a3,IB]) (by simp[cZ,h4]) (by simp[cZ,h5]) (by simp)) ?_
    rintro _ _ ⟨H4,n4,W4⟩ ⟨rfl,Kt,k4,s4,r4,f4,rfl⟩
    simp only at Kt k4 s4
    have pk:=f4.dN
    have B6:=c9.inner (D':=[(7,7),(75,104)]) (by decide) (fun hx=>by simpa[Fx.set]using hx) pk
    have dM:aD m (k+1)=(b_ (eZ (bP m1 d p) d k) d k m1.length,d+1,(aD m k).2.2++[k]):=by
     rw[ta];unfold fT;rw[mC,hd,pN,av hp]
    simp(disch:=first|(simp;done)|omega|rfl) [pk,B6,cZ,hr,a3,h4,h5,Kt,k4]
    refine⟨c-(k+1),by omega,k+1,by omega,rfl,by simp,?_,?_⟩
    ·rw[dM];simp
    ·rw[dM];rw[IB,<-hlen]at s4;exact s4
   ·have dM:aD m (k+1)=aD m k:=by rw[ta];unfold fT;rw[ak hp]
    have A8:dJ (aD m k).1 (aD m k).2.1 k=m.length:=by unfold dJ at hp ⊢;omega
    rw[A8]at h6
    simp(disch:=first|(simp;done)|omega|rfl) [cZ,c9,hr,h6,a3,h5,hW,k1]
    refine⟨c-(k+1),by omega,k+1,by omega,rfl,by simp,?_,?_⟩
    ·rw[dM];simpa using h4
    ·rw[dM];exact s1
  ·obtain rfl:k=c:=by omega
   simp[A.jx,hr,hf,a3,h5,h4,ix,ya,g1,g3,hR,sZ,k1,hW]
   exact s1
 ·rintro _ r st hr ⟨rfl,hw,k1,s1,h4⟩
  simp[]
  exact⟨hw,k1,s1,r,⟨hr,rfl,rfl⟩,rfl,h4⟩
variable {N n:Nat} {h:T O} {l:List Int} {m:List (List Rat)} {v:V}
def Ku{m:List (List Rat)}{k:Nat}(h:(aD m k).2.1=m.length):∀{n:Nat},aD m (k+n)=aD m k
 |0=>rfl
 |n+1=>by
  rw[Nat.add_succ,ta,Ku h]
  unfold fT
  rw[ak]
  unfold dJ
  rw[yG,h,Nat.sub_self]
  simp[nN]
def Yf9{m:List (List Rat)}:∀{n:Nat},(aD m n).2.2.length=(aD m n).2.1
 |0=>rfl
 |n+1=>by
  have:=@Yf9 m n
  rw[ta]
  unfold fT
  split
  ·simp[this]
  ·exact this
def aU(m:List (List Rat))(n:Nat):List (List Rat):=(aD m n).1.take (aD m n).2.1
def wN(h:bg m n):(aU m n).length=(aD m n).2.1:=by
 unfold aU
 rw[gD,yG]
 have:=(@mB m n h n).2
 omega
def UU{s:aQ}(h:cf s=0)(hn:s.length<=n)(h1:0<n):Qb (4*n) (wO s):=by
 obtain⟨e,_,_⟩:=UW h
 have hb:=Zup (wO s)
 have l1:(bn (aS (wO s))).length<=n:=by
  rw[e];unfold bn;split
  ·simp;omega
  ·exact hn
 rw[hb]at l1
 have g:∀m:Nat,(ar m).length<=n->m<2^(4*n):=fun m hm=>eX ((PE h1).1 hm) (Ymf n)
 split at l1
 ·rename_i h2
  have h3:(ar 1).length=1:=by rw[Kv];rfl
  exact⟨g _ l1,by rw[h2];exact g 1 (by omega)⟩
 ·simp at l1
  exact⟨g _ (by omega),g _ (by omega)⟩
def IC.qb{m:List (List aQ)}(h:IC m n):bg (lh m) n/\cB (lh m) 96:=⟨fun r hr=>(h.rat r hr).1,fun r hr q hq=>by
 obtain⟨s,hs,rfl⟩:=dt.1 hr
 obtain⟨t,ht,rfl⟩:=dt.1 hq
 have:=(h.row s hs).2 t ht
 exact UU this.1 this.2 (by decide)⟩
def UX{m:List (List aQ)}:(lh m).length=m.length:=by simp[lh]
def B7(l:List Int):List (List V):=l.map fun z=>[V.int .i64 z]
def qt(N0:Nat)(h:T O)(N:Nat)(v:V)(l:List Int):Prop:=Own 1 3 N0 h N v (B7 l)/\(l=[]->v=.aa)
def qt.nil{N0:Nat}:qt N0 h N .aa []:=⟨Own.nil,fun _=>rfl⟩
def qt.ae{N0:Nat}{h':T O}{N':Nat}(s:qt N0 h N v l)(k:ab h N h' N'):qt N0 h' N' v l:=⟨s.1.ae k,s.2⟩
def qt.uO{N0:Nat}{h':T O}{N' R:Nat}{o:O}(s:qt N0 h N v l)(g:h.get R=some o)(he:∀z,o≠.cells z 3 true)(k:eE (fun i=>i=R) h N h' N'):qt N0 h' N' v l:=by
 obtain⟨⟨hl,s|⟨i,h1,h2,h3,h4⟩⟩,hn⟩:=s
 ·exact⟨⟨hl,.inl s⟩,hn⟩
 ·refine⟨⟨hl,.inr ⟨i,h1,h2,eX h3 k.le,(k.get i h3 fun hc=>?_).trans h4⟩⟩,hn⟩
  rw[hc,g]at h4
  simp only[al]at h4
  exact he _ h4
def qt.push{B N0:Nat}{x:V}{k:Int}{w:List Nat}(s:qt N0 h N v l)(hB:B<=N0)(hN:N0<=N)(hw:ax B w=[])(hx:eL ⟨h,N,w⟩ 1 x=some (1,[.int .i64 k]))(hl:l.length<1000):∃v' h' w',fY ⟨h,N,w⟩ 1 8 3 v x=some (v',⟨h',N+1,w'⟩)/\ax B w'=[]/\eE (fun i=>i∈dh v) h N h' (N+1)/\nP 3 NW h v/\(∀i∈dh v,N0<=i)/\qt N0 h' (N+1) v' (l++[k]):=by
 obtain⟨s,hn⟩:=s
 have sB:Own 1 3 B h N v (B7 l):=⟨s.1,s.2.imp id fun ⟨i,a,b,c⟩=>⟨i,a,by omega,c⟩⟩
 have hY:∀c∈B7 l,∀y∈c,NW y:=fun c hc y hy=>by
  obtain⟨p,_,rfl⟩:=dt.1 hc
  simp at hy
  subst hy
  exact fun m=>by simp
 have h0:B7 l=[]->v=.aa:=fun h0=>hn (List.map_eq_nil_iff.1 h0)
 have hb:2*((B7 l).length+1)*8<=281474976710656:=by simp only[B7,dL];omega
 obtain⟨v1,h1,w1,a1,a2,_,_,_,_⟩:=DN (Y:=NW) (bytes:=8) (w:=w) sB h0 hY (by omega) (by decide) rfl hx hb
 obtain⟨v2,h2,w2,b1,_,_,b4,b5,b6⟩:=DN (Y:=NW) (bytes:=8) (w:=w) s h0 hY hN (by decide) rfl hx hb
 rw[a1]at b1
 simp only[al,bu,St.mk.injEq,true_and]at b1
 obtain⟨rfl,rfl,rfl⟩:=b1
 refine⟨v1,h1,w1,a1,a2.trans hw,b4,b5,fun i hi=>?_,by simpa[B7]using b6,fun hc=>by simp at hc⟩
 obtain⟨_,⟨_,rfl⟩|⟨j,rfl,c1,_⟩⟩:=s
 ·simp[dh]at hi
 ·simp[dh]at hi
  omega
def qt.sl{N0:Nat}(s:qt N0 h N v l):Sl h N v (dI l):=by
 have:=s.1.sn
 have e:B7 l=(dI l).map fun y=>[y]:=by unfold B7 dI;rw[List.map_map];rfl
 rw[e]at this
 exact Sn.one.1 this
open Go
end
end Go.Mx
