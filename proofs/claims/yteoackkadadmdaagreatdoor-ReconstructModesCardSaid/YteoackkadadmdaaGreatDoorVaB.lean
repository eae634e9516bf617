/-lensletref05-/
import Derived.Test.YteoackkadadmdaaGreatDoorNdB
set_option linter.all false
namespace Go.Mx
open Go Go.Proofs
variable {N n:Nat} {h h':T O} {l:List Rat} {m:List (List Rat)} {u v:V} {w:List Nat}
set_option maxHeartbeats 1000000
set_option maxRecDepth 1000000
def A.vU:av:=.seq (sr [mv 20 6,mv 21 0,ln 22 21,bi 23 .lss 20 22]
 (cd 23
 (.skip)
 (.exit 2)))
 (.seq (.block 3 (.aR [mv 26 5,mv 27 0,mv 28 6,ia 29 1 27 28,ld 30 29,mv 31 4,ia 32 1 30 31,ld 33 32,ge 34 (.aV 40 1 1 [(.str [])] [(0,1,(tq 33))]),ge 35 (.append 1 16 40 [(.str [])] (tq 26) (tq 34)),mv 5 35]))
 (.aR [mv 24 6,bc 25 .add 24 1,mv 6 25]))
def A.vV:av:=.seq (sr [mv 7 0,ln 8 7,bc 9 .gtr 8 0,mv 10 9,mg 11 4 10,mg 12 0 10,gy 13 10 (.aU 1 (tq 12) (kq 0)),gy 14 10 (.load none (tq 13)),gy 15 10 (.len 1 (tq 14)),gy 16 10 (.bin .lss (.node []) false (tq 11) (tq 15)),pf 17 10 16]
 (cd 17
 (.skip)
 (.exit 0)))
 (.seq (.block 1 (sr [mN 5]
 (.seq (sr [mc 6 0]
 (.block 2 (.loop A.vU)))
 (.aR [mv 36 3,mv 37 5,ge 38 (.aV 23 1 1 [.aa] [(0,1,(tq 37))]),ge 39 (.append 1 24 23 [.aa] (tq 36) (tq 38)),mv 3 39]))))
 (.aR [mv 18 4,bc 19 .add 18 1,mv 4 19]))
def A.b50:av:=sr [mN 2]
 (sr [mN 3]
 (.seq (sr [mc 4 0]
 (.block 0 (.loop A.vV)))
 (sr [mv 40 3,mv 2 40]
 (.ret))))
def A.c50:A.F 50=some ⟨41,[.tmp 2],A.b50⟩:=by kernel_rfl
def A.k50:=@A.kk 50 _ _ _ A.c50 rfl
def A.vW:av:=.seq (sr [mv 15 8,mv 16 1,ln 17 16,bi 18 .lss 15 17]
 (cd 18
 (.skip)
 (.exit 2)))
 (.seq (.block 3 (.aX [mv 21 7,mv 22 0,mv 23 6,ia 24 1 22 23,ld 25 24,mv 26 8,ia 27 1 25 26,ld 28 27,mv 29 1,mv 30 8,ia 31 1 29 30,ld 32 31,c2 33 122 28 32,ge 34 (.aV 40 1 1 [(.str [])] [(0,1,(tq 33))]),ge 35 (.append 1 16 40 [(.str [])] (tq 21) (tq 34)),mv 7 35] [0,0,0,6,14,0,62,126,0,0,768,1792,4094,8190,16383,32767]))
 (.aR [mv 19 8,bc 20 .add 19 1,mv 8 20]))
def A.vX:av:=.seq (sr [mv 9 6,mv 10 0,ln 11 10,bi 12 .lss 9 11]
 (cd 12
 (.skip)
 (.exit 0)))
 (.seq (.block 1 (sr [mN 7]
 (.seq (sr [mc 8 0]
 (.block 2 (.loop A.vW)))
 (.aR [mv 36 5,mv 37 7,ge 38 (.aV 23 1 1 [.aa] [(0,1,(tq 37))]),ge 39 (.append 1 24 23 [.aa] (tq 36) (tq 38)),mv 5 39]))))
 (.aR [mv 13 6,bc 14 .add 13 1,mv 6 14]))
def A.b52:av:=sr [mN 4]
 (sr [mN 5]
 (.seq (sr [mc 6 0]
 (.block 0 (.loop A.vX)))
 (sr [mv 40 5,mv 4 40]
 (.ret))))
def A.c52:A.F 52=some ⟨41,[.tmp 4],A.b52⟩:=by kernel_rfl
def A.k52:=@A.kk 52 _ _ _ A.c52 rfl
def sF(h:T O)(N:Nat)(u:V)(l:List Rat):Prop:=Tx h N u l/\∀i∈cR u,∃z w,h.get i=some (.cells z 40 w)
def NU{l:List V}(s:Sl h N v l):∀i∈cR v,i<N:=fun i hi=>by
 rcases s with⟨_,rfl|rfl⟩|⟨j,o,cp,c,e,rw,rfl,hj,_⟩
 ·simp[cR]at hi
 ·simp[cR]at hi
 ·simp[cR]at hi;omega
def sF.ae{N':Nat}(s:sF h N u l)(k:ab h N h' N'):sF h' N' u l:=⟨s.1.ae k,fun i hi=>by rw[k.get i (NU s.1 i hi)];exact s.2 i hi⟩
def sF.bV{n':Nat}{Y:V->Prop}{e:TypeId}(s:sF h n u l)(k:dP (fun i=>i∈cR v) h n h' n')(hd:mr e Y h v)(he:e≠40):sF h' n' u l:=by
 have hn:∀i∈cR u,i∉cR v:=fun i hi hc=>by
  obtain⟨z,w,hz⟩:=s.2 i hi
  obtain⟨z2,ed,_⟩:=hd i hc
  rw[hz]at ed
  simp at ed
  exact he ed.2.1.symm
 exact⟨Sl.bV s.1 k hn,fun i hi=>by rw[k.get i (NU s.1 i hi) (hn i hi)];exact s.2 i hi⟩
def Fk{N0:Nat}(s:Own 1 40 N0 h N v ((tx l).map fun y=>[y])):sF h N v l:=by
 refine⟨Sn.one.1 s.sn,fun i hi=>?_⟩
 obtain⟨_,⟨_,rfl⟩|⟨j,rfl,_,_,hg⟩⟩:=s
 ·simp[cR]at hi
 ·simp[cR]at hi;subst hi;exact⟨_,_,hg⟩
def jf(N0:Nat)(h:T O)(N:Nat)(v:V)(m:List (List Rat)):Prop:=∃us:List V,Own 1 23 N0 h N v (us.map fun y=>[y])/\(us=[]->v=.aa)/\us.length=m.length/\∀(j:Nat) (l:List Rat),m[j]?=some l->∃u,us[j]?=some u/\sF h N u l
def jf.nil{N0:Nat}:jf N0 h N .aa []:=⟨[],Own.nil,fun _=>rfl,rfl,fun j l hl=>by simp at hl⟩
def jf.ae{N0:Nat}{N':Nat}(s:jf N0 h N v m)(k:ab h N h' N'):jf N0 h' N' v m:=by
 obtain⟨us,h1,h2,h3,h4⟩:=s
 refine⟨us,h1.ae k,h2,h3,fun j l hl=>?_⟩
 obtain⟨u,g1,g2⟩:=h4 j l hl
 exact⟨u,g1,g2.ae k⟩
def jf.uf{N0:Nat}(s:jf N0 h N v m):gh h N v m:=by
 obtain⟨us,h1,h2,h3,h4⟩:=s
 refine⟨us,Sn.one.1 h1.sn,h3,fun j l hl=>?_⟩
 obtain⟨u,g1,g2⟩:=h4 j l hl
 exact⟨u,g1,g2.1⟩
def jf.push{N0:Nat}{x:V}(s:jf N0 h N v m)(hu:sF h N u l)(hN:N0<=N)(hx:eD ⟨h,N,w⟩ 1 x=some (1,[u]))(hm:m.length<100000):
  ∃v' h' w',gj ⟨h,N,w⟩ 1 24 23 v x=some (v',⟨h',N+1,w'⟩)/\ax N0 w'=ax N0 w/\ab h N0 h' (N+1)/\jf N0 h' (N+1) v' (m++[l]):=by
 obtain⟨us,h1,h2,h3,h4⟩:=s
 obtain⟨v',h',w',f1,f2,f3,f4,fD,f5⟩:=De (Y:=fun _=>True) (x:=[u]) (u:=x) (bytes:=24) (w:=w) h1 (fun h0=>h2 (List.map_eq_nil_iff.1 h0)) (fun _ _ _ _=>trivial) hN (by decide) rfl hx (by rw[jP];omega)
 refine⟨v',h',w',f1,f2,f3,us++[u],by simpa using f5,by simp,by simp[h3],fun j r hr=>?_⟩
 by_cases hj:j<m.length
 ·rw[lE hj]at hr
  obtain⟨u',g1,g2⟩:=h4 j r hr
  exact⟨u',by rw[lE (by omega)];exact g1,g2.bV f4 fD (by simp)⟩
 ·rw[oV (by omega)]at hr
  cases hd:j-m.length with
  |zero=>
   rw[hd]at hr
   simp at hr
   subst hr
   exact⟨u,by rw[oV (by omega),h3,hd];rfl,hu.bV f4 fD (by simp)⟩
  |succ d=>rw[hd]at hr;simp at hr
def QZ{N i:Nat}:∀{w:List Nat},i∈w->i<N->i∈ax N w
 |[],h,_=>by simp at h
 |j::w,h,hi=>by
  simp only[ax]
  rcases kv.1 h with rfl|h
  ·rw[aF hi]
   unfold uN
   split
   ·rename_i hc;simpa using hc
   ·exact pn
  ·have:=QZ h hi
   split
   ·unfold uN
    split
    ·exact this
    ·exact o9 _ this
   ·exact this
def Ti{n1:Nat}{w':List Nat}(h:ax n1 w'=ax n1 w)(hN:N<=n1)(hw:ax N w=[]):ax N w'=[]:=by
 apply List.eq_nil_iff_forall_not_mem.2
 intro i hi
 obtain⟨h1,h2⟩:=yC hi
 have h3:=QZ h1 (show i<n1 by omega)
 rw[h]at h3
 have h4:=QZ (yC h3).1 h2
 rw[hw]at h4
 simp at h4
def ye(h:ax N w=[]):∀i∈w,N<=i:=fun i hi=>by
 apply yp
 intro hc
 have:=QZ hi hc
 rw[h]at this
 simp at this
def Zk{a b:List Nat}(ha:ax N a=[])(hb:ax N b=[]):ax N (ax n a++b)=[]:=xy fun i hi=>by
 rcases kb.1 hi with hi|hi
 ·exact ye ha i (yC hi).1
 ·exact ye hb i hi
def iQ(m:List (List Rat))(k:Nat):List Rat:=m.map fun r=>r[k]?.getD 0
def fg(m:List (List Rat))(n:Nat):List (List Rat):=(List.range n).map fun k=>iQ m k
def Yjf{k t:Nat}{r:List Rat}{q:Rat}(h:m[t]?=some r)(hq:r[k]?=some q):iQ (m.take (t+1)) k=iQ (m.take t) k++[q]:=by
 unfold iQ
 rw[tE,h]
 simp[hq]
def QP(hu:gh h N u m)(hm:∀r∈m,r.length=n)(jQ:m.length<1000)(hn:n<1000)(h0:0<m.length):Fn A.C 50 [u] h N (fun x h' n'=>jf N h' n' x (fg m n)):=by
 intro w
 have l1:=hu.len
 obtain⟨r0,eC⟩:=bp h0
 have YV:=hm r0 (cm eC)
 have jc:(0:Int)<(m.length:Int):=by omega
 rw[aO,A.k50 (by simp)]
 simp[A.b50]
 refine bP [(3,39)] (fun e r st=>e=.exit 0/\ax N st.w=[]/\ab h N st.h st.n/\∃x,r.get 3=some x/\jf N st.h st.n x (fg m n)) (fun i r st=>ax N st.w=[]/\ab h N st.h st.n/\∃k x,k+i=n/\r.get 4=some (.int .i64 k)/\r.get 3=some x/\jf N st.h st.n x (fg m k)) n ?_ ?_ ?_
 ·exact⟨by simp,ab.refl,0,.aa,by omega,by simp,by simp,jf.nil⟩
 ·rintro i r ⟨H,n1,W⟩ hr hf ⟨hW,hK,k,x,hk,h4,h3,ho⟩
  simp only at hW hK ho
  obtain⟨i0,o0,c0,e0,Ev,u0,z1,z2,z3,z4,z5⟩:=(hu.ae hK).at eC
  have z6:=z5.len
  rw[YV]at z6
  rw[ka]at z4
  rw[bq]
  cases i with
  |zero=>
   obtain rfl:k=n:=by omega
   simp[A.vV,hr,hf,h4,h3,l1,h0,z1,z3,z4,z6,hW,hK]
   exact ho
  |succ i=>
   have ay:k<n:=by omega
   have bn:(k:Int)<(n:Int):=by omega
   simp[A.vV,hr,h4,l1,h0,z1,z3,z4,z6,bn]
   refine bP [(5,6),(20,35)] (fun e r1 st=>e=.exit 2/\ax N st.w=[]/\ab H n1 st.h st.n/\∃y,r1.get 5=some y/\sF st.h st.n y (iQ m k)) (fun j r1 st=>ax N st.w=[]/\ab H n1 st.h st.n/\∃t y,t+j=m.length/\r1.get 6=some (.int .i64 t)/\r1.get 5=some y/\Own 1 40 n1 st.h st.n y ((tx (iQ (m.take t) k)).map fun y=>[y])) m.length ?_ ?_ ?_
   ·exact⟨hW,ab.refl,0,.aa,by omega,by simp,by simp,by simpa[iQ,tx,strs]using Own.nil⟩
   ·rintro j r1 ⟨H2,n2,W2⟩ jm r_ ⟨dX,eN,t,y,ht,h6,h5,hy⟩
    simp only at dX eN hy
    rw[bq]
    cases j with
    |zero=>
     obtain rfl:t=m.length:=by omega
     rw[wo]at hy
     simp[A.vU,hr,jm,r_,h6,h5,l1,dX,eN]
     exact Fk hy
    |succ j=>
     have cW:t<m.length:=by omega
     have As:(t:Int)<(m.length:Int):=by omega
     obtain⟨row,ak⟩:=bp cW
     have hrn:=hm row (cm ak)
     obtain⟨q,hq⟩:=bp (l:=row) (k:=k) (by omega)
     obtain⟨i1,o1,c1,e1,YW,u1,q1,q2,q3,q4,q5⟩:=((hu.ae hK).ae eN).at ak
     have q6:=q5.len
     rw[hrn]at q6
     obtain⟨i3,o3,c3,e3,rw3,p1,p2,p3,p4⟩:=Sl.at q5 (wu hq)
     have fi:=hK.le
     have HG:=eN.le
     obtain⟨v',h',w',f1,f2,f3,_,f5⟩:=sE (x:=[.str (a_ q)]) (u:=.slice n2 0 1 (some 1) 1) (bytes:=16) (w:=W2) (hy.ae (ab.refl.new (.cells [.str (a_ q)] 40 true))) (by omega) (by decide) rfl (by simp[eD,St.row,aE]) (by simp[oT,iQ];omega)
     have e7:((tx (iQ (m.take t) k)).map fun y=>[y])++[[.str (a_ q)]]=(tx (iQ (m.take (t+1)) k)).map fun y=>[y]:=by rw[Yjf ak hq];simp[tx,strs]
     rw[e7]at f5
     simp(disch:=first|(simp;done)|omega|rfl) [A.vU,hr,jm,r_,h4,h6,h5,l1,As,q1,q3,q4,q6,p1,p3,p4,ad,f1]
     have ow:ax N w'=[]:=Ti f2 (by omega) dX
     exact⟨j,by omega,ow,(eN.trans (ab.refl.new (.cells [.str (a_ q)] 40 true))).then f3,t+1,by omega,by simp,f5⟩
   ·rintro _ r1 ⟨H2,n2,W2⟩ jm ⟨rfl,dX,eN,y,h5,hy⟩
    simp only at dX eN hy
    have fi:=hK.le
    have HG:=eN.le
    have pT:=(Sl.form hy.1).one
    have uA:=(Sl.form hy.1).cells
    unfold V.one at pT
    unfold V.cells at uA
    obtain⟨v',h',w',f1,f2,f3,f4⟩:=((ho.ae eN).ae (ab.refl.new (.cells [y] 23 true))).push (w:=W2) (x:=.slice n2 0 1 (some 1) 1) (hy.ae (ab.refl.new (.cells [y] 23 true))) (by omega) (by simp[eD,St.row,aE]) (by simp[fg];omega)
    have e8:fg m k++[iQ m k]=fg m (k+1):=by simp[fg,List.range_succ]
    rw[e8]at f4
    have CV:=hf.inner (D':=[(5,6),(20,35)]) rfl (by simp) jm
    simp(disch:=first|(simp;done)|omega|rfl) [jm,CV,h4,h3,h5,pT,uA,ad,f1]
    exact⟨i,by omega,by rw[f2];exact dX,(((hK.trans eN).trans (ab.refl.new (.cells [y] 23 true)))).then f3,k+1,by omega,by simp,f4⟩
 ·rintro _ r ⟨H,n1,W⟩ hr ⟨rfl,hW,hK,x,h3,ho⟩
  simp only at hW hK ho
  simp[h3,az,hW,hK]
  exact ho
def yO(r w:List Rat):List Rat:=(List.range w.length).map fun k=>r[k]?.getD 0*w[k]?.getD 0
def xr(r w:List Rat)(n:Nat):List Rat:=(List.range n).map fun k=>r[k]?.getD 0*w[k]?.getD 0
def Yf2{r w:List Rat}{t:Nat}{p q:Rat}(hp:r[t]?=some p)(hq:w[t]?=some q):xr r w (t+1)=xr r w t++[p*q]:=by
 simp[xr,List.range_succ,hp,hq]
def Zyk{b:List Rat}{j k:Nat}(hu:gh h N u m)(hv:Tx h N v b)(hm:∀r∈m,r.length=b.length/\∀q∈r,Qb j q)(hb:∀q∈b,Qb k q)(hj:j<=400000000)(hk:k<=400000000)(jQ:m.length<1000)(CI:b.length<1000):Fn A.C 52 [u,v] h N (fun x h' n'=>jf N h' n' x (m.map fun r=>yO r b)):=by
 intro w
 have l1:=hu.len
 have l2:=hv.len
 rw[aO,A.k52 (by simp)]
 simp[A.b52]
 refine bP [(5,39)] (fun e r st=>e=.exit 0/\ax N st.w=[]/\ab h N st.h st.n/\∃x,r.get 5=some x/\jf N st.h st.n x (m.map fun r=>yO r b)) (fun i r st=>ax N st.w=[]/\ab h N st.h st.n/\∃t x,t+i=m.length/\r.get 6=some (.int .i64 t)/\r.get 5=some x/\jf N st.h st.n x ((m.take t).map fun r=>yO r b)) m.length ?_ ?_ ?_
 ·exact⟨by simp,ab.refl,0,.aa,by omega,by simp,by simp,by simpa using jf.nil⟩
 ·rintro i r ⟨H,n1,W⟩ hr hf ⟨hW,hK,t,x,ht,h6,h5,ho⟩
  simp only at hW hK ho
  rw[bq]
  cases i with
  |zero=>
   obtain rfl:t=m.length:=by omega
   rw[wo]at ho
   simp[A.vX,hr,hf,h6,h5,l1,hW,hK]
   exact ho
  |succ i=>
   have ay:t<m.length:=by omega
   have bn:(t:Int)<(m.length:Int):=by omega
   obtain⟨row,ak⟩:=bp ay
   obtain⟨a1,a2⟩:=hm row (cm ak)
   simp[A.vX,hr,h6,l1,bn]
   refine bP [(7,8),(15,35)] (fun e r1 st=>e=.exit 2/\ax N st.w=[]/\ab H n1 st.h st.n/\∃y,r1.get 7=some y/\sF st.h st.n y (yO row b)) (fun s r1 st=>ax N st.w=[]/\ab H n1 st.h st.n/\∃c y,c+s=b.length/\r1.get 8=some (.int .i64 c)/\r1.get 7=some y/\Own 1 40 n1 st.h st.n y ((tx (xr row b c)).map fun y=>[y])) b.length ?_ ?_ ?_
   ·exact⟨hW,ab.refl,0,.aa,by omega,by simp,by simp,by simpa[xr,tx,strs]using Own.nil⟩
   ·rintro s r1 ⟨H2,n2,W2⟩ jm r_ ⟨dX,eN,c,y,hc,h8,h7,hy⟩
    simp only at dX eN hy
    rw[bq]
    cases s with
    |zero=>
     obtain rfl:c=b.length:=by omega
     simp[A.vW,hr,jm,r_,h8,h7,l2,dX,eN]
     exact Fk hy
    |succ s=>
     have cW:c<b.length:=by omega
     have As:(c:Int)<(b.length:Int):=by omega
     obtain⟨q,hq⟩:=bp cW
     obtain⟨p,hp⟩:=bp (l:=row) (k:=c) (by omega)
     obtain⟨i1,o1,c1,e1,YW,u1,q1,q2,q3,q4,q5⟩:=((hu.ae hK).ae eN).at ak
     have q6:=q5.len
     rw[a1]at q6
     obtain⟨i3,o3,c3,e3,rw3,p1,p2,p3,p4⟩:=Sl.at q5 (wu hp)
     obtain⟨i4,o4,c4,e4,rw4,z1,z2,z3,z4⟩:=Sl.at ((hv.ae hK).ae eN) (wu hq)
     have fi:=hK.le
     have HG:=eN.le
     simp[A.vW,hr,jm,h6,h7,h8,l1,l2,As,bn,q1,q2,q3,q4,q6,p1,p2,p3,p4,z1,z2,z3,z4]
     refine aA (Tg (a2 p (cm hp)) (hb q (cm hq)) hj hk) ?_
     rintro _ H3 n3 k3 rfl
     have yV:=k3.le
     obtain⟨v',h',w',f1,f2,f3,_,f5⟩:=sE (x:=[.str (a_ (p*q))]) (u:=.slice n3 0 1 (some 1) 1) (bytes:=16) (w:=[]) ((hy.ae k3).ae (ab.refl.new (.cells [.str (a_ (p*q))] 40 true))) (by omega) (by decide) rfl (by simp[eD,St.row,aE]) (by simp[oT,xr];omega)
     have e7:((tx (xr row b c)).map fun y=>[y])++[[.str (a_ (p*q))]]=(tx (xr row b (c+1))).map fun y=>[y]:=by rw[Yf2 hp hq];simp[tx,strs]
     rw[e7]at f5
     have ow:ax N w'=[]:=Ti f2 (by omega) rfl
     have EH:i1<n2:=q2
     have r3':i3<n2:=p2
     have Ji:i4<n2:=z2
     simp(disch:=first|(simp;done)|omega|rfl) [-ax,r_,h8,ad,f1]
     exact⟨s,by omega,Zk ow dX,((eN.trans k3).trans (ab.refl.new (.cells [.str (a_ (p*q))] 40 true))).then f3,c+1,by omega,by simp,f5⟩
   ·rintro _ r1 ⟨H2,n2,W2⟩ jm ⟨rfl,dX,eN,y,h7,hy⟩
    simp only at dX eN hy
    have fi:=hK.le
    have HG:=eN.le
    have pT:=(Sl.form hy.1).one
    have uA:=(Sl.form hy.1).cells
    unfold V.one at pT
    unfold V.cells at uA
    obtain⟨v',h',w',f1,f2,f3,f4⟩:=((ho.ae eN).ae (ab.refl.new (.cells [y] 23 true))).push (w:=W2) (x:=.slice n2 0 1 (some 1) 1) (hy.ae (ab.refl.new (.cells [y] 23 true))) (by omega) (by simp[eD,St.row,aE]) (by simp;omega)
    have e8:(m.take t).map (fun r=>yO r b)++[yO row b]=(m.take (t+1)).map fun r=>yO r b:=by rw[tE,ak];simp
    rw[e8]at f4
    have CV:=hf.inner (D':=[(7,8),(15,35)]) rfl (by simp) jm
    simp(disch:=first|(simp;done)|omega|rfl) [jm,CV,h6,h7,h5,pT,uA,ad,f1]
    exact⟨i,by omega,by rw[f2];exact dX,(((hK.trans eN).trans (ab.refl.new (.cells [y] 23 true)))).then f3,t+1,by omega,by simp,by rw[<-List.map_take];exact f4⟩
 ·rintro _ r ⟨H,n1,W⟩ hr ⟨rfl,hW,hK,x,h5,ho⟩
  simp only at hW hK ho
  simp[h5,az,hW,hK]
  exact ho
variable {N n:Nat} {h:T O} {m:List (List aQ)} {v:V} {w:List Nat}
def A.oh:av:=.seq (sr [mv 20 5,mv 21 0,ln 22 21,bi 23 .lss 20 22]
 (cd 23
 (.skip)
 (.exit 0)))
 (.seq (.block 1 (sr [mv 26 0,mv 27 5,ia 28 1 26 27,ld 29 28,ge 30 (.len 0 (tq 29)),bc 31 .gtr 30 24]
 (cd 31
 (sr [ge 4 (.ba (.const (.bool false)))]
 (.ret))
 (.skip))))
 (.aR [mv 24 5,bc 25 .add 24 1,mv 5 25]))
def A.b5:av:=sr [ge 4 (.ba (.const (.bool false)))]
 (.seq (sr [mv 6 0,ln 7 6,mv 8 1,bi 9 .gtr 7 8,mv 10 9,mg 11 0 10,gy 12 10 (.len 1 (tq 11)),gy 13 10 (.bin .leq (.node []) false (tq 12) (kq 64)),pf 14 10 13,mv 15 14,mh 16 0 15,gz 17 15 (.len 1 (tq 16)),gz 18 15 (.bin .gtr (.node []) false (tq 17) (kq 66)),pt 19 15 18]
 (cd 19
 (sr [ge 4 (.ba (.const (.bool false)))]
 (.ret))
 (.skip)))
 (.seq (sr [mc 5 0]
 (.block 0 (.loop A.oh)))
 (sr [ge 4 (.ba (.const (.bool true)))]
 (.ret))))
def A.c5:A.F 5=some ⟨32,[.tmp 4],A.b5⟩:=by kernel_rfl
def A.k5:=@A.kk 5 _ _ _ A.c5 rfl
def A.oo:av:=.seq (sr [mv 22 7,mv 23 0,ln 24 23,bi 25 .lss 22 24]
 (cd 25
 (.skip)
 (.exit 0)))
 (.seq (.block 1 (sr [mv 28 0,mv 29 7,ia 30 1 28 29,ld 31 30,mv 32 2,c2 33 5 31 32,ge 34 (.un .not (tq 33))]
 (cd 34
 (sr [ge 6 (.ba (.const (.bool false)))]
 (.ret))
 (.skip))))
 (.aR [mv 26 7,bc 27 .add 26 1,mv 7 27]))
def A.b4:av:=sr [ge 6 (.ba (.const (.bool false)))]
 (.seq (sr [mv 8 0,ln 9 8,mv 10 1,bi 11 .gtr 9 10,mv 12 11,mg 13 0 12,gy 14 12 (.len 1 (tq 13)),gy 15 12 (.bin .leq (.node []) false (tq 14) (kq 64)),pf 16 12 15,mv 17 16,mh 18 0 17,gz 19 17 (.len 1 (tq 18)),gz 20 17 (.bin .gtr (.node []) false (tq 19) (kq 66)),pt 21 17 20]
 (cd 21
 (sr [ge 6 (.ba (.const (.bool false)))]
 (.ret))
 (.skip)))
 (.seq (sr [mc 7 0]
 (.block 0 (.loop A.oo)))
 (sr [ge 6 (.ba (.const (.bool true)))]
 (.ret))))
def A.c4:A.F 4=some ⟨35,[.tmp 6],A.b4⟩:=by kernel_rfl
def A.k4:=@A.kk 4 _ _ _ A.c4 rfl
def A.vY:av:=.seq (sr [mv 11 5,mv 12 0,ln 13 12,bi 14 .lss 11 13]
 (cd 14
 (.skip)
 (.exit 0)))
 (.seq (.block 1 (.seq (.aX [mv 17 0,mv 18 5,ia 19 1 17 18,ld 20 19,mv 21 1,mv 22 5,ia 23 1 21 22,ld 24 23,ge 25 (.bin .neq (.aM .str) false (tq 20) (tq 24))] [0,0,3,7,0,0,48,112,255])
 (cd 25
 (sr [ge 4 (.ba (.const (.bool false)))]
 (.ret))
 (.skip))))
 (.aR [mv 15 5,bc 16 .add 15 1,mv 5 16]))
def A.b25:av:=sr [ge 4 (.ba (.const (.bool false)))]
 (.seq (sr [mv 6 0,ln 7 6,mv 8 1,ln 9 8,ge 10 (.bin .neq (.aM .int) false (tq 7) (tq 9))]
 (cd 10
 (sr [ge 4 (.ba (.const (.bool false)))]
 (.ret))
 (.skip)))
 (.seq (sr [mc 5 0]
 (.block 0 (.loop A.vY)))
 (sr [ge 4 (.ba (.const (.bool true)))]
 (.ret))))
def A.c25:A.F 25=some ⟨26,[.tmp 4],A.b25⟩:=by kernel_rfl
def A.k25:=@A.kk 25 _ _ _ A.c25 rfl
def Ylx{u:V}{l:List aQ}(hu:Sl h N u (strs l))(hv:Sl h N v (strs l))(hl:l.length<100000):A.C.call (.func 25 [] []) [u,v] ⟨h,N,w⟩=some (.bool true,⟨h,N,w⟩):=by
 apply Call.eq
 have l1:=hu.len
 have l2:=hv.len
 rw[tD]at l1 l2
 rw[aO,A.k25 (by simp)]
 simp[A.b25,l1,l2]
 refine bP [(4,5),(11,25)] (fun e r st=>st=⟨h,N,[]⟩/\e=.exit 0) (fun m r st=>st=⟨h,N,[]⟩/\∃k,k+m=l.length/\r.get 5=some (.int .i64 k)) l.length ?_ ?_ ?_
 ·exact⟨rfl,0,by omega,by simp⟩
 ·rintro m r _ hr hf ⟨rfl,k,hk,h5⟩
  rw[bq]
  cases m with
  |zero=>
   obtain rfl:k=l.length:=by omega
   simp[A.vY,hr,hf,h5,l1]
  |succ m=>
   have ay:k<l.length:=by omega
   obtain⟨s,hs⟩:=bp ay
   obtain⟨i,o,c,e,rw,q1,q2,q3,q4⟩:=hu.at (DM hs)
   obtain⟨i',o',c',e',oC,p1,p2,p3,p4⟩:=hv.at (DM hs)
   have bR:(k:Int)<(l.length:Int):=by omega
   simp(disch:=first|(simp;done)|omega|rfl) [A.vY,hr,hf,h5,l1,l2,bR,q1,q2,q3,q4,p1,p2,p3,p4,gO]
   exact⟨m,by omega,k+1,by omega,by simp⟩
 ·rintro _ r _ hr ⟨rfl,rfl⟩
  simp
def oR(s:aQ):Bool:=decide (s.length<=24)
def og(k n:Nat):Bool:=decide (k<=n\/64<k/\k<=66)
def eY(n:Nat)(l:List aQ):Bool:=og l.length n&&l.all oR
def Yy{k:Nat}(h:og k n=true)(hn:n<64):k<=66:=by
 simp[og]at h
 omega
def YP{l:List aQ}(hs:Sl h N v (strs l))(hl:l.length<9223372036854775808)(hn:n<64):A.C.call (.func 5 [] []) [v,.int .i64 n] ⟨h,N,w⟩=some (.bool (eY n l),⟨h,N,w⟩):=by
 apply Call.eq
 have lg:=hs.len
 rw[tD]at lg
 rw[aO,A.k5 (by simp)]
 have fin:og l.length n=true->eY n l=l.all oR:=fun h=>by simp[eY,h]
 by_cases c1:l.length<=n
 ·rw[fin (by simp[og,c1])]
  have a1:¬(n:Int)<(l.length:Int):=by omega
  have a2:¬66<(l.length:Int):=by omega
  simp[A.b5,lg,a1,a2]
  refine bP [(4,5),(20,31)] (fun e r st=>st=⟨h,N,[]⟩/\((e=.exit 0/\l.all oR=true)\/(e=.ret/\l.all oR=false/\r.get 4=some (.bool false)))) (fun m r st=>st=⟨h,N,[]⟩/\∃k,k+m=l.length/\r.get 5=some (.int .i64 k)/\l.all oR=(l.drop k).all oR) l.length ?_ ?_ ?_
  ·exact⟨rfl,0,by omega,by simp,by simp⟩
  ·rintro m r _ hr hf ⟨rfl,k,hk,hx,hz⟩
   rw[bq]
   cases m with
   |zero=>
    obtain rfl:k=l.length:=by omega
    rw[mm,List.all_nil]at hz
    simp[A.oh,hr,hf,hx,lg,hz]
   |succ m=>
    have ay:k<l.length:=by omega
    have bR:(k:Int)<(l.length:Int):=by omega
    obtain⟨s,hc⟩:=bp ay
    obtain⟨i,o,cc,e,rw,q1,q2,q3,q4⟩:=hs.at (DM hc)
    rw[jq hc,List.all_cons]at hz
    by_cases c4:oR s=true
    ·rw[c4,Bool.true_and]at hz
     have c6:¬24<(s.length:Int):=by simp[oR]at c4;omega
     simp(disch:=first|(simp;done)|omega|rfl) [A.oh,hr,hf,hx,lg,bR,q1,q3,q4,c6]
     exact⟨m,by omega,k+1,by omega,by simp,hz⟩
    ·have c5:oR s=false:=by simpa using c4
     rw[c5,BM]at hz
     have c6:24<(s.length:Int):=by simp[oR]at c5;omega
     simp[A.oh,hr,hf,hx,lg,bR,q1,q3,q4,c6,hz]
  ·rintro e r _ hr ⟨rfl,⟨rfl,hq⟩|⟨rfl,hq,h2⟩⟩
   ·simp[hq]
   ·simp[hq,h2]
 ·have a1:(n:Int)<(l.length:Int):=by omega
  have tU:n<l.length:=by omega
  by_cases c2:l.length<=64
  ·have a3:(l.length:Int)<=64:=by omega
   have e1:eY n l=false:=by simp[eY,og,c1];omega
   simp[A.b5,lg,a1,a3,e1]
  ·have a3:¬(l.length:Int)<=64:=by omega
   by_cases c3:66<l.length
   ·have a4:66<(l.length:Int):=by omega
    have e1:eY n l=false:=by simp[eY,og,c1];omega
    simp[A.b5,lg,a1,a3,a4,e1]
   ·have a4:¬66<(l.length:Int):=by omega
    rw[fin (by simp[og];omega)]
    simp[A.b5,lg,a1,a3,a4]
    refine bP [(4,5),(20,31)] (fun e r st=>st=⟨h,N,[]⟩/\((e=.exit 0/\l.all oR=true)\/(e=.ret/\l.all oR=false/\r.get 4=some (.bool false)))) (fun m r st=>st=⟨h,N,[]⟩/\∃k,k+m=l.length/\r.get 5=some (.int .i64 k)/\l.all oR=(l.drop k).all oR) l.length ?_ ?_ ?_
    ·exact⟨rfl,0,by omega,by simp,by simp⟩
    ·rintro m r _ hr hf ⟨rfl,k,hk,hx,hz⟩
     rw[bq]
     cases m with
     |zero=>
      obtain rfl:k=l.length:=by omega
      rw[mm,List.all_nil]at hz
      simp[A.oh,hr,hf,hx,lg,hz]
     |succ m=>
      have ay:k<l.length:=by omega
      have bR:(k:Int)<(l.length:Int):=by omega
      obtain⟨s,hc⟩:=bp ay
      obtain⟨i,o,cc,e,rw,q1,q2,q3,q4⟩:=hs.at (DM hc)
      rw[jq hc,List.all_cons]at hz
      by_cases c4:oR s=true
      ·rw[c4,Bool.true_and]at hz
       have c6:¬24<(s.length:Int):=by simp[oR]at c4;omega
       simp(disch:=first|(simp;done)|omega|rfl) [A.oh,hr,hf,hx,lg,bR,q1,q3,q4,c6]
       exact⟨m,by omega,k+1,by omega,by simp,hz⟩
      ·have c5:oR s=false:=by simpa using c4
       rw[c5,BM]at hz
       have c6:24<(s.length:Int):=by simp[oR]at c5;omega
       simp[A.oh,hr,hf,hx,lg,bR,q1,q3,q4,c6,hz]
    ·rintro e r _ hr ⟨rfl,⟨rfl,hq⟩|⟨rfl,hq,h2⟩⟩
     ·simp[hq]
     ·simp[hq,h2]
def eP(h:T O)(N:Nat)(v:V)(m:List (List aQ)):Prop:=∃us:List V,Sl h N v us/\us.length=m.length/\∀(j:Nat) (l:List aQ),m[j]?=some l->∃u,us[j]?=some u/\Sl h N u (strs l)
def eP.ae{h':T O}{N':Nat}(s:eP h N v m)(k:ab h N h' N'):eP h' N' v m:=by
 obtain⟨us,h1,h2,h3⟩:=s
 refine⟨us,h1.ae k,h2,fun j l hl=>?_⟩
 obtain⟨u,g1,g2⟩:=h3 j l hl
 exact⟨u,g1,g2.ae k⟩
def eP.len(s:eP h N v m):oD v=some m.length:=by
 obtain⟨us,h1,h2,_⟩:=s
 rw[h1.len,h2]
def eP.at(s:eP h N v m){j:Nat}{l:List aQ}(hj:m[j]?=some l):∃i o c e rw u,wB v=some (i,o)/\i<N/\h.get i=some (.cells c e rw)/\c[o+j]?=some u/\Sl h N u (strs l):=by
 obtain⟨us,h1,h2,h3⟩:=s
 obtain⟨u,g1,g2⟩:=h3 j l hj
 obtain⟨i,o,c,e,rw,q1,q2,q3,q4⟩:=h1.at g1
 exact⟨i,o,c,e,rw,u,q1,q2,q3,q4,g2⟩
def eP.uf{m:List (List Rat)}(s:eP h N v (m.map fun l=>l.map a_)):gh h N v m:=by
 obtain⟨us,h1,h2,h3⟩:=s
 refine⟨us,h1,by simpa using h2,fun j l hl=>?_⟩
 exact h3 j (l.map a_) (by simp[hl])
def mi(r c:Nat)(m:List (List aQ)):Bool:=og m.length r&&m.all (eY c)
def Zwc{l:List (List aQ)}{p:Nat}(hs:eP h N v l)(hl:l.length<9223372036854775808)(oM:∀x∈l,x.length<9223372036854775808)(hn:n<64)(hp:p<64):A.C.call (.func 4 [] []) [v,.int .i64 n,.int .i64 p] ⟨h,N,w⟩=some (.bool (mi n p l),⟨h,N,w⟩):=by
 apply Call.eq
 have lg:=hs.len
 rw[aO,A.k4 (by simp)]
 have fin:og l.length n=true->mi n p l=l.all (eY p):=fun h=>by simp[mi,h]
 by_cases c1:l.length<=n
 ·rw[fin (by simp[og,c1])]
  have a1:¬(n:Int)<(l.length:Int):=by omega
  have a2:¬66<(l.length:Int):=by omega
  simp[A.b4,lg,a1,a2]
  refine bP [(6,7),(22,34)] (fun e r st=>st=⟨h,N,[]⟩/\((e=.exit 0/\l.all (eY p)=true)\/(e=.ret/\l.all (eY p)=false/\r.get 6=some (.bool false)))) (fun m r st=>st=⟨h,N,[]⟩/\∃k,k+m=l.length/\r.get 7=some (.int .i64 k)/\l.all (eY p)=(l.drop k).all (eY p)) l.length ?_ ?_ ?_
  ·exact⟨rfl,0,by omega,by simp,by simp⟩
  ·rintro m r _ hr hf ⟨rfl,k,hk,hx,hz⟩
   rw[bq]
   cases m with
   |zero=>
    obtain rfl:k=l.length:=by omega
    rw[mm,List.all_nil]at hz
    simp[A.oo,hr,hf,hx,lg,hz]
   |succ m=>
    have ay:k<l.length:=by omega
    have bR:(k:Int)<(l.length:Int):=by omega
    obtain⟨s,hc⟩:=bp ay
    obtain⟨i,o,cc,e,rw,u,q1,q2,q3,q4,q5⟩:=hs.at hc
    have cE:=fun w=>YP (w:=w) q5 (oM s (cm hc)) hp
    rw[jq hc,List.all_cons]at hz
    by_cases c4:(eY p) s=true
    ·rw[c4,Bool.true_and]at hz
     simp(disch:=first|(simp;done)|omega|rfl) [A.oo,hr,hf,hx,lg,bR,q1,q3,q4,cE,c4]
     exact⟨m,by omega,k+1,by omega,by simp,hz⟩
    ·have c5:(eY p) s=false:=by simpa using c4
     rw[c5,BM]at hz
     simp[A.oo,hr,hf,hx,lg,bR,q1,q3,q4,cE,c5,hz]
  ·rintro e r _ hr ⟨rfl,⟨rfl,hq⟩|⟨rfl,hq,h2⟩⟩
   ·simp[hq]
   ·simp[hq,h2]
 ·have a1:(n:Int)<(l.length:Int):=by omega
  have tU:n<l.length:=by omega
  by_cases c2:l.length<=64
  ·have a3:(l.length:Int)<=64:=by omega
   have e1:mi n p l=false:=by simp[mi,og,c1];omega
   simp[A.b4,lg,a1,a3,e1]
  ·have a3:¬(l.length:Int)<=64:=by omega
   by_cases c3:66<l.length
   ·have a4:66<(l.length:Int):=by omega
    have e1:mi n p l=false:=by simp[mi,og,c1];omega
    simp[A.b4,lg,a1,a3,a4,e1]
   ·have a4:¬66<(l.length:Int):=by omega
    rw[fin (by simp[og];omega)]
    simp[A.b4,lg,a1,a3,a4]
    refine bP [(6,7),(22,34)] (fun e r st=>st=⟨h,N,[]⟩/\((e=.exit 0/\l.all (eY p)=true)\/(e=.ret/\l.all (eY p)=false/\r.get 6=some (.bool false)))) (fun m r st=>st=⟨h,N,[]⟩/\∃k,k+m=l.length/\r.get 7=some (.int .i64 k)/\l.all (eY p)=(l.drop k).all (eY p)) l.length ?_ ?_ ?_
    ·exact⟨rfl,0,by omega,by simp,by simp⟩
    ·rintro m r _ hr hf ⟨rfl,k,hk,hx,hz⟩
     rw[bq]
     cases m with
     |zero=>
      obtain rfl:k=l.length:=by omega
      rw[mm,List.all_nil]at hz
      simp[A.oo,hr,hf,hx,lg,hz]
     |succ m=>
      have ay:k<l.length:=by omega
      have bR:(k:Int)<(l.length:Int):=by omega
      obtain⟨s,hc⟩:=bp ay
      obtain⟨i,o,cc,e,rw,u,q1,q2,q3,q4,q5⟩:=hs.at hc
      have cE:=fun w=>YP (w:=w) q5 (oM s (cm hc)) hp
      rw[jq hc,List.all_cons]at hz
      by_cases c4:(eY p) s=true
      ·rw[c4,Bool.true_and]at hz
       simp(disch:=first|(simp;done)|omega|rfl) [A.oo,hr,hf,hx,lg,bR,q1,q3,q4,cE,c4]
       exact⟨m,by omega,k+1,by omega,by simp,hz⟩
      ·have c5:(eY p) s=false:=by simpa using c4
       rw[c5,BM]at hz
       simp[A.oo,hr,hf,hx,lg,bR,q1,q3,q4,cE,c5,hz]
    ·rintro e r _ hr ⟨rfl,⟨rfl,hq⟩|⟨rfl,hq,h2⟩⟩
     ·simp[hq]
     ·simp[hq,h2]
variable {N:Nat} {h:T O} {v:V}
def A.rE:av:=.seq (sr [mv 5 3,mv 6 0,ln 7 6,bi 8 .lss 5 7]
 (cd 8
 (.skip)
 (.exit 0)))
 (.seq (.block 1 (sr [mv 11 0,mv 12 3,ia 13 1 11 12,ld 14 13,c1 15 47 14,mv 4 15]
 (sr [mv 16 4,ni 17 16 0]
 (cd 17
 (sr [mv 18 4,mv 2 18]
 (.ret))
 (.skip)))))
 (.aR [mv 9 3,bc 10 .add 9 1,mv 3 10]))
def A.b120:av:=sr [mc 2 0]
 (.seq (sr [mc 3 0]
 (.block 0 (.loop A.rE)))
 (sr [mc 2 0]
 (.ret)))
def A.c120:A.F 120=some ⟨19,[.tmp 2],A.b120⟩:=by kernel_rfl
def A.k120:=@A.kk 120 _ _ _ A.c120 rfl
def A.b49:av:=sr [mc 4 0]
 (.seq (sr [mv 5 0,ln 6 5,mv 7 1,ge 8 (.bin .neq (.aM .int) false (tq 6) (tq 7))]
 (cd 8
 (sr [mc 4 2]
 (.ret))
 (.skip)))
 (sr [mv 9 0,c1 10 120 9,mv 4 10]
 (.ret)))
def A.c49:A.F 49=some ⟨11,[.tmp 4],A.b49⟩:=by kernel_rfl
def A.k49:=@A.kk 49 _ _ _ A.c49 rfl
def A.vZ:av:=.seq (sr [mv 31 7,mv 32 0,ln 33 32,bi 34 .lss 31 33]
 (cd 34
 (.skip)
 (.exit 0)))
 (.seq (.block 1 (.seq (.aX [mv 37 0,mv 38 7,ia 39 1 37 38,ld 40 39,mv 41 0,ge 42 (.aU 1 (tq 41) (kq 0)),ld 43 42,ln 44 43,c2 45 49 40 44,mv 8 45] [0,0,3,7,0,16,48,112,255,511])
 (sr [mv 46 8,ni 47 46 0]
 (cd 47
 (sr [mv 48 8,mv 6 48]
 (.ret))
 (.skip)))))
 (.aR [mv 35 7,bc 36 .add 35 1,mv 7 36]))
def A.b46:av:=sr [mc 6 0]
 (.seq (sr [mv 9 0,ln 10 9,ei 11 10 0,mv 12 11,mh 13 0 12,gz 14 12 (.aU 1 (tq 13) (kq 0)),gz 15 12 (.load none (tq 14)),gz 16 12 (.len 1 (tq 15)),gz 17 12 (.bin .eql (.aM .int) true (tq 16) (kq 0)),pt 18 12 17]
 (cd 18
 (sr [mc 6 12]
 (.ret))
 (.skip)))
 (.seq (sr [mv 19 0,ln 20 19,mv 21 1,bi 22 .gtr 20 21,mv 23 22,mh 24 0 23,gz 25 23 (.aU 1 (tq 24) (kq 0)),gz 26 23 (.load none (tq 25)),gz 27 23 (.len 1 (tq 26)),mh 28 2 23,gz 29 23 (.bin .gtr (.node []) false (tq 27) (tq 28)),pt 30 23 29]
 (cd 30
 (sr [mc 6 5]
 (.ret))
 (.skip)))
 (.seq (sr [mc 7 0]
 (.block 0 (.loop A.vZ)))
 (sr [mc 6 0]
 (.ret)))))
def A.c46:A.F 46=some ⟨49,[.tmp 6],A.b46⟩:=by kernel_rfl
def A.k46:=@A.kk 46 _ _ _ A.c46 rfl
def A.v_:av:=.seq (sr [mv 13 5,mv 14 0,ln 15 14,bi 16 .lss 13 15]
 (cd 16
 (.skip)
 (.exit 0)))
 (.seq (.block 1 (sr [mv 19 0,mv 20 5,ia 21 1 19 20,ld 22 21,mv 23 1,c2 24 49 22 23,mv 6 24]
 (sr [mv 25 6,ni 26 25 0]
 (cd 26
 (sr [mv 27 6,mv 4 27]
 (.ret))
 (.skip)))))
 (.aR [mv 17 5,bc 18 .add 17 1,mv 5 18]))
def A.b12:av:=sr [mc 4 0]
 (.seq (sr [mv 7 0,ln 8 7,ei 9 8 0]
 (cd 9
 (sr [mc 4 12]
 (.ret))
 (.skip)))
 (.seq (sr [mv 10 0,ln 11 10,bc 12 .gtr 11 16]
 (cd 12
 (sr [mc 4 5]
 (.ret))
 (.skip)))
 (.seq (sr [mc 5 0]
 (.block 0 (.loop A.v_)))
 (sr [mc 4 0]
 (.ret)))))
def A.c12:A.F 12=some ⟨28,[.tmp 4],A.b12⟩:=by kernel_rfl
def A.k12:=@A.kk 12 _ _ _ A.c12 rfl
def Yop{l:List aQ}(hs:Sl h N v (strs l))(hl:l.length<100000)(tY:∀s∈l,s.length<=100000):Fn A.C 120 [v] h N (fun u _ _=>u=.int .i64 (bK (l.map fun s=>((bz s:Nat):Int)))):=by
 intro w
 have hlen:=hs.len
 rw[tD]at hlen
 rw[aO,A.k120 (by simp)]
 simp[A.b120]
 refine bP [(2,18)] (fun e r st=>ax N st.w=[]/\ab h N st.h st.n/\((e=.exit 0/\bK (l.map fun s=>((bz s:Nat):Int))=0)\/(e=.ret/\r.get 2=some (.int .i64 (bK (l.map fun s=>((bz s:Nat):Int))))))) (fun m r st=>ax N st.w=[]/\ab h N st.h st.n/\∃k,k+m=l.length/\r.get 3=some (.int .i64 k)/\bK (l.map fun s=>((bz s:Nat):Int))=bK ((l.drop k).map fun s=>((bz s:Nat):Int))) l.length ?_ ?_ ?_
 ·exact⟨by simp,ab.refl,0,by omega,by simp,by simp⟩
 ·rintro m r ⟨H,n1,W⟩ hr hf ⟨hW,hK,k,hk,h7,hz⟩
  simp only at hW hK
  rw[bq]
  cases m with
  |zero=>
   obtain rfl:k=l.length:=by omega
   rw[mm,uJ,bK]at hz
   simp[A.rE,hr,hf,h7,hlen,hz,hW,hK]
  |succ m=>
   have ay:k<l.length:=by omega
   obtain⟨s,hc⟩:=bp ay
   obtain⟨i,o,cc,e,rw,q1,q2,q3,q4⟩:=(hs.ae hK).at (DM hc)
   rw[jq hc,my,bK]at hz
   have bR:(k:Int)<(l.length:Int):=by omega
   simp[A.rE,hr,h7,bR,hlen,q1,q3,q4]
   refine aA (Zsa (tY s (cm hc))) ?_
   rintro _ h3 n3 k3 rfl
   have kk:=hK.trans k3
   by_cases h0:bz s=0
   ·rw[aF (by omega)]at hz
    simp(disch:=first|(simp;done)|omega|rfl) [hf,h7,h0,hW]
    exact⟨m,by omega,kk,k+1,by omega,by simp,by simpa using hz⟩
   ·rw[ar (by omega)]at hz
    have jc:¬((bz s:Nat):Int)=0:=by omega
    simp[hf,h0,hW,hz]
    exact kk
 ·rintro _ r ⟨H,n1,W⟩ hr ⟨hW,hK,⟨rfl,hz⟩|⟨rfl,h2⟩⟩
  ·simp only at hW hK
   simp[hz,az,hW,hK]
  ·simp only at hW hK
   simp[h2,az,hW,hK]
def iw(l:List aQ)(n:Nat):Int:=if l.length=n then bK (l.map fun s=>((bz s:Nat):Int)) else 2
def iS(l:List (List aQ)):Nat:=(l[0]?.getD []).length
def ky(l:List (List aQ))(r c:Nat):Int:=if l.length=0\/iS l=0 then 12 else if r<l.length\/c<iS l then 5 else bK (l.map fun x=>iw x (iS l))
def tv(l:List (List aQ))(n:Nat):Int:=if l.length=0 then 12 else if 16<l.length then 5 else bK (l.map fun x=>iw x n)
def Zxo{l:List aQ}{n:Nat}(hs:Sl h N v (strs l))(hl:l.length<100000)(tY:∀s∈l,s.length<=100000):Fn A.C 49 [v,.int .i64 n] h N (fun u _ _=>u=.int .i64 (iw l n)):=by
 intro w
 have hlen:=hs.len
 rw[tD]at hlen
 rw[aO,A.k49 (by simp)]
 by_cases c:l.length=n
 ·subst c
  simp[A.b49,hlen]
  refine aA (Yop hs hl tY) ?_
  rintro _ H2 n2 k2 rfl
  simp[az,iw]
  exact k2
 ·have c':¬(l.length:Int)=(n:Int):=by omega
  simp[A.b49,hlen,c',iw,c,az]
  exact ab.refl
def Yow{l:List (List aQ)}{a b:Nat}(hs:eP h N v l)(hl:l.length<100000)(hx:∀x∈l,x.length<100000/\∀s∈x,s.length<=100000):Fn A.C 46 [v,.int .i64 a,.int .i64 b] h N (fun u _ _=>u=.int .i64 (ky l a b)):=by
 intro w
 have hlen:=hs.len
 rw[aO,A.k46 (by simp)]
 by_cases c0:l.length=0
 ·have c0':(l.length:Int)=0:=by omega
  simp[A.b46,hlen,c0,ky,az]
  exact ab.refl
 have c0':¬(l.length:Int)=0:=by omega
 have fm:0<l.length:=by omega
 have fU:0<(l.length:Int):=by omega
 obtain⟨l0,fj⟩:=bp fm
 obtain⟨i0,o0,YL,e0,Ev,u0,z1,z2,z3,z4,z5⟩:=hs.at fj
 have z6:=z5.len
 rw[tD]at z6
 rw[ka]at z4
 obtain⟨n,hn⟩:∃n,n=l0.length:=⟨_,rfl⟩
 have en:iS l=n:=by simp[iS,fj,hn]
 rw[<-hn]at z6
 have wZ:n<100000:=by have:=(hx l0 (cm fj)).1;omega
 by_cases c1:n=0
 ·have c1':(n:Int)=0:=by omega
  simp[A.b46,hlen,c0,fm,z1,z3,z4,z6,c1,ky,en,az]
  exact ab.refl
 have c1':¬(n:Int)=0:=by omega
 by_cases c2:a<l.length
 ·have c2':(a:Int)<(l.length:Int):=by omega
  simp[A.b46,hlen,c0,fm,z1,z3,z4,z6,c1,c2,c2',ky,en,az]
  exact ab.refl
 have c2':¬(a:Int)<(l.length:Int):=by omega
 by_cases c3:b<n
 ·have c3':(b:Int)<(n:Int):=by omega
  simp[A.b46,hlen,c0,fm,z1,z3,z4,z6,c1,c2,c2',c3,c3',ky,en,az]
  exact ab.refl
 ·have c3':¬(b:Int)<(n:Int):=by omega
  have e1:ky l a b=bK (l.map fun x=>iw x n):=by simp[ky,en,c0,c1,c2,c3]
  rw[e1]
  simp[A.b46,hlen,c0,fm,z1,z3,z4,z6,c1,c2',c3']
  refine bP [(6,8),(31,48)] (fun e r st=>ax N st.w=[]/\ab h N st.h st.n/\((e=.exit 0/\bK (l.map fun x=>iw x n)=0)\/(e=.ret/\r.get 6=some (.int .i64 (bK (l.map fun x=>iw x n)))))) (fun m r st=>ax N st.w=[]/\ab h N st.h st.n/\∃k,k+m=l.length/\r.get 7=some (.int .i64 k)/\bK (l.map fun x=>iw x n)=bK ((l.drop k).map fun x=>iw x n)) l.length ?_ ?_ ?_
  ·exact⟨by simp,ab.refl,0,by omega,by simp,by simp⟩
  ·rintro m r ⟨H,n1,W⟩ hr hf ⟨hW,hK,k,hk,h7,hz⟩
   simp only at hW hK
   rw[bq]
   cases m with
   |zero=>
    obtain rfl:k=l.length:=by omega
    rw[mm,uJ,bK]at hz
    simp[A.vZ,hr,hf,h7,hlen,hz,hW,hK]
   |succ m=>
    have ay:k<l.length:=by omega
    obtain⟨s,hc⟩:=bp ay
    obtain⟨i,o,cc,e,rw,u,q1,q2,q3,q4,q5⟩:=(hs.ae hK).at hc
    rw[jq hc,my,bK]at hz
    have bR:(k:Int)<(l.length:Int):=by omega
    obtain⟨i1,o1,Oh,e1,YW,u1,y1,y2,y3,y4,y5⟩:=(hs.ae hK).at fj
    have y6:=y5.len
    rw[tD,<-hn]at y6
    rw[ka]at y4
    obtain⟨rfl,rfl⟩:i=i1/\o=o1:=by rw[q1]at y1;simpa using y1
    obtain⟨rfl,rfl,rfl⟩:cc=Oh/\e=e1/\rw=YW:=by rw[q3]at y3;simpa using y3
    simp[A.vZ,hr,h7,bR,hlen,q1,q2,q3,q4,fm,y4,y6]
    refine aA (Zxo q5 (hx s (cm hc)).1 (hx s (cm hc)).2) ?_
    rintro _ h3 n3 k3 rfl
    have kk:=hK.trans k3
    by_cases h0:iw s n=0
    ·rw[aF h0]at hz
     simp(disch:=first|(simp;done)|omega|rfl) [hf,h7,h0,hW]
     exact⟨m,by omega,kk,k+1,by omega,by simp,by simpa using hz⟩
    ·rw[ar h0]at hz
     simp[hf,h0,hW,hz]
     exact kk
  ·rintro _ r ⟨H,n1,W⟩ hr ⟨hW,hK,⟨rfl,hz⟩|⟨rfl,h2⟩⟩
   ·simp only at hW hK
    simp[hz,az,hW,hK]
   ·simp only at hW hK
    simp[h2,az,hW,hK]
def Yov{l:List (List aQ)}{n:Nat}(hs:eP h N v l)(hl:l.length<100000)(hx:∀x∈l,x.length<100000/\∀s∈x,s.length<=100000):Fn A.C 12 [v,.int .i64 n] h N (fun u _ _=>u=.int .i64 (tv l n)):=by
 intro w
 have hlen:=hs.len
 rw[aO,A.k12 (by simp)]
 by_cases c0:l.length=0
 ·have c0':(l.length:Int)=0:=by omega
  simp[A.b12,hlen,c0,tv,az]
  exact ab.refl
 have c0':¬(l.length:Int)=0:=by omega
 by_cases c2:16<l.length
 ·have c2':16<(l.length:Int):=by omega
  simp[A.b12,hlen,c0,c2,c2',tv,az]
  exact ab.refl
 ·have c2':¬16<(l.length:Int):=by omega
  have e1:tv l n=bK (l.map fun x=>iw x n):=by simp[tv,c0,c2]
  rw[e1]
  simp[A.b12,hlen,c0,c2']
  refine bP [(4,6),(13,27)] (fun e r st=>ax N st.w=[]/\ab h N st.h st.n/\((e=.exit 0/\bK (l.map fun x=>iw x n)=0)\/(e=.ret/\r.get 4=some (.int .i64 (bK (l.map fun x=>iw x n)))))) (fun m r st=>ax N st.w=[]/\ab h N st.h st.n/\∃k,k+m=l.length/\r.get 5=some (.int .i64 k)/\bK (l.map fun x=>iw x n)=bK ((l.drop k).map fun x=>iw x n)) l.length ?_ ?_ ?_
  ·exact⟨by simp,ab.refl,0,by omega,by simp,by simp⟩
  ·rintro m r ⟨H,n1,W⟩ hr hf ⟨hW,hK,k,hk,h7,hz⟩
   simp only at hW hK
   rw[bq]
   cases m with
   |zero=>
    obtain rfl:k=l.length:=by omega
    rw[mm,uJ,bK]at hz
    simp[A.v_,hr,hf,h7,hlen,hz,hW,hK]
   |succ m=>
    have ay:k<l.length:=by omega
    obtain⟨s,hc⟩:=bp ay
    obtain⟨i,o,cc,e,rw,u,q1,q2,q3,q4,q5⟩:=(hs.ae hK).at hc
    rw[jq hc,my,bK]at hz
    have bR:(k:Int)<(l.length:Int):=by omega
    skip
    simp[A.v_,hr,h7,bR,hlen,q1,q3,q4]
    refine aA (Zxo q5 (hx s (cm hc)).1 (hx s (cm hc)).2) ?_
    rintro _ h3 n3 k3 rfl
    have kk:=hK.trans k3
    by_cases h0:iw s n=0
    ·rw[aF h0]at hz
     simp(disch:=first|(simp;done)|omega|rfl) [hf,h7,h0,hW]
     exact⟨m,by omega,kk,k+1,by omega,by simp,by simpa using hz⟩
    ·rw[ar h0]at hz
     simp[hf,h0,hW,hz]
     exact kk
  ·rintro _ r ⟨H,n1,W⟩ hr ⟨hW,hK,⟨rfl,hz⟩|⟨rfl,h2⟩⟩
   ·simp only at hW hK
    simp[hz,az,hW,hK]
   ·simp only at hW hK
    simp[h2,az,hW,hK]
def A.wc:av:=.seq (sr [mv 13 7,mv 14 0,ln 15 14,bi 16 .lss 13 15]
 (cd 16
 (.skip)
 (.exit 0)))
 (.seq (.block 1 (.seq (sr [mv 19 0,mv 20 7,ia 21 1 19 20,ld 22 21,c1 23 47 22,mv 8 23]
 (sr [mv 24 8,ni 25 24 0]
 (cd 25
 (sr [mv 26 8,mv 6 26]
 (.ret))
 (.skip))))
 (sr [mv 27 0,mv 28 7,ia 29 1 27 28,ld 30 29,c1 31 48 30,mv 32 2,bi 33 .lss 31 32]
 (cd 33
 (sr [mc 6 3]
 (.ret))
 (.skip)))))
 (.aR [mv 17 7,bc 18 .add 17 1,mv 7 18]))
def A.b11:av:=sr [mc 6 0]
 (.seq (sr [mv 9 0,ln 10 9,mv 11 1,ge 12 (.bin .neq (.aM .int) false (tq 10) (tq 11))]
 (cd 12
 (sr [mc 6 2]
 (.ret))
 (.skip)))
 (.seq (sr [mc 7 0]
 (.block 0 (.loop A.wc)))
 (sr [mc 6 0]
 (.ret))))
def A.c11:A.F 11=some ⟨34,[.tmp 6],A.b11⟩:=by kernel_rfl
def A.k11:=@A.kk 11 _ _ _ A.c11 rfl
def A.nC:av:=.seq (sr [mv 4 3,mv 5 0,ln 6 5,bi 7 .lss 4 6]
 (cd 7
 (.skip)
 (.exit 0)))
 (.seq (.block 1 (sr [mv 10 0,mv 11 3,ia 12 1 10 11,ld 13 12,c1 14 186 13,ni 15 14 0]
 (cd 15
 (sr [mc 2 4]
 (.ret))
 (.skip))))
 (.aR [mv 8 3,bc 9 .add 8 1,mv 3 9]))
def A.b126:av:=sr [mc 2 0]
 (.seq (sr [mc 3 0]
 (.block 0 (.loop A.nC)))
 (sr [mc 2 0]
 (.ret)))
def A.c126:A.F 126=some ⟨16,[.tmp 2],A.b126⟩:=by kernel_rfl
def A.k126:=@A.kk 126 _ _ _ A.c126 rfl
def pX(least:Int)(s:aQ):Int:=if bz s=0 then (if dW (oY s).num<least then 3 else 0) else ((bz s:Nat):Int)
def sD(l:List aQ)(n:Nat)(least:Int):Int:=if l.length=n then bK (l.map (pX least)) else 2
def Yrp{h:T O}{N:Nat}{v:V}{l:List aQ}{n:Nat}{z:Int}(hs:Sl h N v (strs l))(hl:l.length<100000)(tY:∀s∈l,s.length<=100000):Fn A.C 11 [v,.int .i64 n,.int .i64 z] h N (fun u _ _=>u=.int .i64 (sD l n z)):=by
 intro w
 have hlen:=hs.len
 rw[tD]at hlen
 rw[aO,A.k11 (by simp)]
 by_cases c:l.length=n
 ·have e1:sD l n z=bK (l.map (pX z)):=by simp[sD,c]
  rw[e1]
  subst c
  simp[A.b11,hlen]
  refine bP [(6,8),(13,33)] (fun e r st=>ax N st.w=[]/\ab h N st.h st.n/\((e=.exit 0/\bK (l.map (pX z))=0)\/(e=.ret/\r.get 6=some (.int .i64 (bK (l.map (pX z))))))) (fun m r st=>ax N st.w=[]/\ab h N st.h st.n/\∃k,k+m=l.length/\r.get 7=some (.int .i64 k)/\bK (l.map (pX z))=bK ((l.drop k).map (pX z))) l.length ?_ ?_ ?_
  ·exact⟨by simp,ab.refl,0,by omega,by simp,by simp⟩
  ·rintro m r ⟨H,n1,W⟩ hr hf ⟨hW,hK,k,hk,h7,hz⟩
   simp only at hW hK
   rw[bq]
   cases m with
   |zero=>
    obtain rfl:k=l.length:=by omega
    rw[mm,uJ,bK]at hz
    simp[A.wc,hr,hf,h7,hlen,hz,hW,hK]
   |succ m=>
    have ay:k<l.length:=by omega
    obtain⟨s,hc⟩:=bp ay
    have Cn:=DM hc
    obtain⟨i,o,cc,e,rw,q1,q2,q3,q4⟩:=(hs.ae hK).at Cn
    rw[jq hc,my,bK]at hz
    have bR:(k:Int)<(l.length:Int):=by omega
    simp[A.wc,hr,h7,bR,hlen,q1,q3,q4]
    refine aA (Zsa (tY s (cm hc))) ?_
    rintro _ h3 n3 k3 rfl
    have kk:=hK.trans k3
    by_cases h0:bz s=0
    ·obtain⟨t1,_⟩:=JV h0
     obtain⟨i',o',YU,e',oC,p1,p2,p3,p4⟩:=(hs.ae kk).at Cn
     rw[<-t1]at p4
     have jc:((bz s:Nat):Int)=0:=by omega
     by_cases h2:dW (oY s).num<z
     ·have e2:pX z s=3:=by simp[pX,h0,h2]
      rw[e2,ar (by decide)]at hz
      simp[hr,hf,h7,h0,hW,bR,hlen,p1,p3,p4,QJ,h2,hz]
      exact kk
     ·have e2:pX z s=0:=by simp[pX,h0,h2]
      rw[e2,aF rfl]at hz
      simp(disch:=first|(simp;done)|omega|rfl) [hr,hf,h7,h0,hW,hlen,p1,p3,p4,QJ,h2]
      exact⟨m,by omega,kk,k+1,by omega,by simp,by simpa using hz⟩
    ·have e2:pX z s=((bz s:Nat):Int):=by simp[pX,h0]
     have jc:¬((bz s:Nat):Int)=0:=by omega
     rw[e2,ar jc]at hz
     simp[hf,h0,hW,hz]
     exact kk
  ·rintro _ r ⟨H,n1,W⟩ hr ⟨hW,hK,⟨rfl,hz⟩|⟨rfl,h2⟩⟩
   ·simp only at hW hK
    simp[hz,az,hW,hK]
   ·simp only at hW hK
    simp[h2,az,hW,hK]
 ·have c':¬(l.length:Int)=(n:Int):=by omega
  simp[A.b11,hlen,c',sD,c,az]
  exact ab.refl
def oW(l:List Rat):Bool:=l.any Az
def Ynl{h:T O}{N:Nat}{v:V}{l:List Rat}{w:List Nat}(hs:Tx h N v l)(hl:l.length<100000)(tY:∀q∈l,(a_ q).length<1000000000):A.C.call (.func 126 [] []) [v] ⟨h,N,w⟩=some (.int .i64 (if oW l=true then 4 else 0),⟨h,N,w⟩):=by
 apply Call.eq
 have hlen:=hs.len
 rw[aO,A.k126 (by simp)]
 simp[A.b126]
 refine bP [(2,15)] (fun e r st=>st=⟨h,N,[]⟩/\((e=.exit 0/\oW l=false)\/(e=.ret/\oW l=true/\r.get 2=some (.int .i64 4)))) (fun m r st=>st=⟨h,N,[]⟩/\∃k,k+m=l.length/\r.get 3=some (.int .i64 k)/\oW l=oW (l.drop k)) l.length ?_ ?_ ?_
 ·exact⟨rfl,0,by omega,by simp,by simp⟩
 ·rintro m r _ hr hf ⟨rfl,k,hk,h7,hz⟩
  rw[bq]
  cases m with
  |zero=>
   obtain rfl:k=l.length:=by omega
   rw[mm]at hz
   simp[oW]at hz
   simp[A.nC,hr,hf,h7,hlen]
   simpa[oW]using hz
  |succ m=>
   have ay:k<l.length:=by omega
   obtain⟨q,hc⟩:=bp ay
   obtain⟨i,o,cc,e,rw,q1,q2,q3,q4⟩:=Sl.at hs (wu hc)
   rw[jq hc]at hz
   have bR:(k:Int)<(l.length:Int):=by omega
   have Q0:=fun st=>Ydr (st:=st) (tY q (cm hc))
   by_cases h0:Az q=true
   ·have e1:oW l=true:=by rw[hz];simp[oW,h0]
    rw[aF h0]at Q0
    simp[A.nC,hr,hf,h7,bR,hlen,q1,q3,q4,Q0,e1]
   ·have e1:oW l=oW (l.drop (k+1)):=by rw[hz];simp[oW,h0]
    rw[ar h0]at Q0
    simp(disch:=first|(simp;done)|omega|rfl) [A.nC,hr,hf,h7,bR,hlen,q1,q3,q4,Q0]
    exact⟨m,by omega,k+1,by omega,by simp,e1⟩
 ·rintro _ r _ hr ⟨rfl,⟨rfl,hz⟩|⟨rfl,hz,h2⟩⟩
  ·simp[hz]
  ·simp[h2,hz]
end Go.Mx
