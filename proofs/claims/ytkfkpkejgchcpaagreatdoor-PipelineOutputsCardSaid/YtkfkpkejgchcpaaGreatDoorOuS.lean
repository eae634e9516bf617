/-lensletref01-/
import Derived.Test.YtkfkpkejgchcpaaGreatDoorRaS
set_option linter.all false
namespace Go.Mx
open Go Go.Proofs
set_option maxRecDepth 1000000
def A.lb41_0:Zah:=.seq (sr [mv 5 4,mv 6 0,bi 7 .lss 5 6]
 (cd 7
 (.skip)
 (.exit 0)))
 (.seq (.block 1 (.reg [mv 10 3,ge 11 (.bslice 44 1 1 [(.str [])] [(0,1,(.const (.str [48])))]),ge 12 (.append 1 16 44 [(.str [])] (tq 10) (tq 11)),mv 3 12]))
 (.reg [mv 8 4,bc 9 .add 8 1,mv 4 9]))
def A.b41:Zah:=sr [mN 2]
 (sr [mN 3]
 (.seq (sr [mc 4 0]
 (.block 0 (.loop A.lb41_0)))
 (sr [mv 13 3,mv 2 13]
 (.ret))))
def A.k41:=@A.kk 41 14 [.tmp 2] A.b41 (by kernel_rfl) rfl
def Zz8{h:T O}{N n:Nat}(h0:0<n)(hn:n<1000):Fn A.C 41 [.int .i64 n] h N (fun x h' n'=>TxT h' n' x ((List.range n).map fun _=>0)):=by
 intro w
 rw[Zac,A.k41 (by simp)]
 simp(disch:=first|(simp;done)|omega|rfl) [-getElem?_pos,A.b41]
 refine Zai [(3,12)] (fun e r st=>e=.exit 0∧Zad N st.w=[]∧Keeps h N st.h st.n∧∃v,r.get 3=some v∧Own 1 44 N st.h st.n v ((tx ((List.range n).map fun _=>0)).map fun y=>[y])) (fun m r st=>Zad N st.w=[]∧Keeps h N st.h st.n∧∃t v,t+m=n∧r.get 4=some (.int .i64 t)∧r.get 3=some v∧Own 1 44 N st.h st.n v ((tx ((List.range t).map fun _=>0)).map fun y=>[y])) n ?_ ?_ ?_
 ·exact⟨by simp,Keeps.refl,0,_,by omega,by simp,by simp,Own.nil⟩
 ·rintro m r ⟨H,n1,W⟩ hr hf ⟨hW,hK,t,v,ht,h4,h3,hO⟩
  simp only at hW hK hO
  rw[Zaj]
  have le:=hK.le
  cases m with
  |zero=>
   obtain rfl:t=n:=by omega
   simp(disch:=first|(simp;done)|omega|rfl) [-getElem?_pos,A.lb41_0,hr,hf,h3,h4,hW,hK]
   exact hO
  |succ m=>
   have hlt:t<n:=by omega
   have hlt':(t:Int)<(n:Int):=by omega
   have sp1:splice [V.str []] 0 [.str [48]]=[.str [48]]:=rfl
   have kD:Keeps H n1 (H.set n1 (.cells [.str [48]] 44 true)) (n1+1):=Keeps.refl.new _
   obtain⟨v',h',w',j1,j2,j3,_,j5⟩:=Zbi (x:=[.str [48]]) (u:=.slice n1 0 1 (some 1) 1) (bytes:=16) (w:=W) (hO.keep kD) (by omega) (by decide) rfl (by simp[Zax,St.row,slc]) (by simp[tx,strs];omega)
   have kF:Keeps h N h' (n1+1+1):=(hK.trans kD).then j3
   simp(disch:=first|(simp;done)|omega|rfl) [-getElem?_pos,A.lb41_0,hr,hf,h3,h4,hlt,hlt',sp1,Zb1,j1,j2,hW,kF]
   refine⟨m,by omega,t+1,by omega,by simp,?_⟩
   have e:(tx ((List.range (t+1)).map fun _=>(0:Rat))).map (fun y=>[y])=(tx ((List.range t).map fun _=>(0:Rat))).map (fun y=>[y])++[[.str [48]]]:=by
    rw[List.range_succ,List.map_append]
    simp[tx,strs]
    rfl
   rw[e]
   exact j5
 ·rintro _ r ⟨H,n1,W⟩ hr ⟨rfl,hW,hK,v,h3,hO⟩
  simp only at hW hK hO
  simp(disch:=first|(simp;done)|omega|rfl) [-getElem?_pos,hr,h3,Ret,hW,hK]
  exact Yau hO
def Zm4{l:List Rat}(h:∀q∈l,Qb 2400 q)(k:Nat):Qb 2400 (l[k]?.getD 0):=by
 cases hk:l[k]? with
 |none=>exact Qb.zero.mono (by decide)
 |some q=>exact h q (Yr8 hk)
def Yje{g:List Stg}{s:Stg}{fr ow:Rat}{now before:List Rat}(hG:OkG g)(hs:s∈g)(h1:Qb 2400 fr)(h2:Qb 2400 ow)(hq:∀q∈now,Qb 2400 q)(hbq:∀q∈before,Qb 2400 q):Qb 40000 (Znz g s fr ow now before):=by
 obtain⟨o,ho1,ho2,ho3,ho4⟩:=hG.op s hs
 unfold Znz
 refine Yh4 h1 ?_ ?_ h2 ?_ ?_
 ·intro q hqm
  obtain⟨n,_,rfl⟩:=Yt1.1 hqm
  exact Zm4 hq _
 ·unfold Zun
  split
  ·exact Zm4 hbq _
  ·exact Qb.zero.mono (by decide)
 ·unfold Zua
  split
  ·rename_i hf
   rw[ho1,Yuq]at hf
   unfold Zcl at ho2
   rw[Yr6 hf]at ho2
   exact Zjf (Ydk ho2)
  ·exact Qb.zero.mono (by decide)
 ·have:o.hi≤16:=by
   rcases Yh2 ho1 with⟨_,rfl⟩|⟨_,rfl⟩|⟨_,rfl⟩|⟨_,rfl⟩|⟨_,rfl⟩|⟨_,rfl⟩<;>decide
  have e:(Zfa g s now).length=s.inputs.length:=Ysw ..
  omega
set_option maxHeartbeats 8000000
def A.lb13_0:Zah:=.seq (sr [mv 21 10,mv 22 0,ln 23 22,bi 24 .lss 21 23]
 (cd 24
 (.skip)
 (.exit 2)))
 (.seq (.block 3 (sr [mv 27 0,mv 28 10,mv 29 1,mv 30 8,ia 31 4 29 30,lN 32 4 31,mv 33 9,mv 34 7,ge 35 (.call (fq 42) [tq 27,tq 28,tq 32,tq 33,tq 34]),mv 11 35]
 (.seq (sr [mv 36 11,c1 37 43 36,ni 38 37 0]
 (cd 38
 (sr [mN 4,mc 5 4]
 (.ret))
 (.skip)))
 (.reg [mv 39 9,mv 40 11,ge 41 (.bslice 44 1 1 [(.str [])] [(0,1,(tq 40))]),ge 42 (.append 1 16 44 [(.str [])] (tq 39) (tq 41)),mv 9 42]))))
 (.reg [mv 25 10,bc 26 .add 25 1,mv 10 26]))
def A.lb13_1:Zah:=.seq (sr [mv 15 8,mv 16 1,ln 17 16,bi 18 .lss 15 17]
 (cd 18
 (.skip)
 (.exit 0)))
 (.seq (.block 1 (sr [mN 9]
 (.seq (sr [mc 10 0]
 (.block 2 (.loop A.lb13_0)))
 (sr [mv 43 6,mv 44 9,ge 45 (.bslice 64 1 1 [.nilslice] [(0,1,(tq 44))]),ge 46 (.append 1 24 64 [.nilslice] (tq 43) (tq 45)),mv 6 46]
 (.reg [mv 47 9,mv 7 47])))))
 (.reg [mv 19 8,bc 20 .add 19 1,mv 8 20]))
def A.b13:Zah:=sr [mN 4,mc 5 0]
 (sr [mN 6]
 (sr [mv 12 0,ln 13 12,c1 14 41 13,mv 7 14]
 (.seq (sr [mc 8 0]
 (.block 0 (.loop A.lb13_1)))
 (sr [mv 48 6,mv 4 48,mc 5 0]
 (.ret)))))
def A.k13:=@A.kk 13 49 [.tmp 4,.tmp 5] A.b13 (by kernel_rfl) rfl
structure RrI (nB:Nat) (B:T O) (n0:Nat) (g:List Stg) (fr:Rat) (before:List Rat) (m:Nat) (r:T V) (st:St):Prop where
 w:Zad nB st.w=[]
 keep:Keeps B n0 st.h st.n
 ex:∃(i:Nat) (now:List Rat) (u:V),i+m=g.length∧r.get 10=some (.int .i64 i)∧r.get 9=some u∧Zmg g fr before i=some now∧now.length=i∧Own 1 44 n0 st.h st.n u ((tx now).map fun y=>[y])∧∀q∈now,Qb 2400 q
def Ymm{l:List Rat}{q:Rat}:(tx (l++[q])).map (fun y=>[y])=(tx l).map (fun y=>[y])++[[.str (Za0 q)]]:=by simp[tx,strs]
def Yad{nB:Nat}{B:T O}{n0:Nat}{vg vl vb:V}{g:List Stg}{l:List FmR}{f:FmR}{before:List Rat}{r0:T V}{k:Nat}(hBn:nB≤n0)(hg:Gr B n0 vg g)(hG:OkG g)(hfl:∀s∈g,s.factor.length≤20)(hs:Sn 4 B n0 vl (l.map fmC))(hfk:l[k]?=some f)(hb:Tx B n0 vb before)(hbl:before.length=g.length)(hbq:∀q∈before,Qb 2400 q)(hfv:chkNum f.val=0)(a0:r0.get 0=some vg)(a1:r0.get 1=some vl)(a7:r0.get 7=some vb)(a8:r0.get 8=some (.int .i64 k)):
  ∀m r st,(∀t,inD [(4,5),(9,11),(21,42)] t=false→r.get t=r0.get t)→Fx [(4,5),(9,11),(21,42)] r0 49 ⟨r,49,[]⟩→RrI nB B n0 g (fmQ f) before m r st→Code A.C none A.lb13_0 ⟨r,49,[]⟩ st (Rd [(4,5),(9,11),(21,42)] r0 49 (RrI nB B n0 g (fmQ f) before) m (fun e r st=>Zad nB st.w=[]∧Keeps B n0 st.h st.n∧((e=.exit 2∧RrI nB B n0 g (fmQ f) before 0 r st)∨(e=.ret∧Zmg g (fmQ f) before g.length=none∧r.get 4=some .nilslice∧r.get 5=some (.int .i64 4))))):=by
 rintro m r ⟨H,n1,W⟩ hr hf ⟨hW,hK,i,now,u,hi,h10,h9,hrow,hnl,hO,hNq⟩
 simp only at hW hK hO
 rw[Zaj]
 have leK:=hK.le
 have lg:=hg.len
 have g16:=hG.v.le
 cases m with
 |zero=>
  obtain rfl:i=g.length:=by omega
  simp(disch:=first|(simp;done)|omega|rfl) [-getElem?_pos,A.lb13_0,hr,hf,h10,a0,lg]
  exact⟨hW,hK,hW,hK,g.length,now,u,by omega,by simp[h10],by simp[h9],hrow,hnl,hO,hNq⟩
 |succ m=>
  have hlt:i<g.length:=by omega
  have hlt':(i:Int)<(g.length:Int):=by omega
  obtain⟨s,hsi⟩:=Zag hlt
  have hsm:=Yr8 hsi
  have hkl:=Zaz hfk
  have hkl':(k:Int)<(l.length:Int):=by omega
  have hlv:=hs.len
  rw[Ysw]at hlv
  obtain⟨i0,o0,c0,e0,rw0,q1,q2,q3,q4⟩:=(hs.keepz hK).at (show (l.map fmC)[k]?=some (fmC f) by rw[Ysa,hfk];rfl)
  have hls:(fmC f).length=4:=rfl
  have hnow:Tx H n1 u now:=(Yau hO).1
  simp(disch:=first|(simp;done)|omega|rfl) [-getElem?_pos,A.lb13_0,hr,hf,h10,h9,a0,a1,a7,a8,lg,hlt,hlt',hlv,hkl,hkl',q1,q2,q3,q4,hls]
  refine Zaf (Yex (hg.keep hK) hG hsi (hfl s hsm) hnow hnl (hb.keep hK) hbl hfv hNq hbq) ?_
  rintro _ H2 n2 k2 rfl
  have le2:=k2.le
  have hQ:Qb 40000 (Znz g s (fmQ f) (before[i]?.getD 0) now before):=Yje hG hsm (Zjf (Ydk hfv)) (Zm4 hbq i) hNq hbq
  have hlg:=fun st=>Yca (q:=Znz g s (fmQ f) (before[i]?.getD 0) now before) (st:=st) (by have:=Yhp hQ;omega)
  cases hbig:Zy6 (Znz g s (fmQ f) (before[i]?.getD 0) now before)with
  |true=>
   have hnone:Zmg g (fmQ f) before (i+1)=none:=by
    rw[Zmg,hrow]
    simp only[hsi]
    exact Yr6 hbig
   rw[Yr6 hbig]at hlg
   simp(disch:=first|(simp;done)|omega|rfl) [-getElem?_pos,hlg,Zae,hf]
   exact⟨hW,hK.trans k2,Zjk hnone (by omega)⟩
  |false=>
   have hsome:Zmg g (fmQ f) before (i+1)=some (now++[Znz g s (fmQ f) (before[i]?.getD 0) now before]):=by
    rw[Zmg,hrow]
    simp only[hsi]
    rw[Yr3 (by rw[hbig];simp)]
   rw[Yr3 (by rw[hbig];simp)]at hlg
   generalize hx:Znz g s (fmQ f) (before[i]?.getD 0) now before=x at*
   have kX:Keeps H2 n2 (H2.set n2 (.cells [.str (Za0 x)] 44 true)) (n2+1):=Keeps.refl.new _
   obtain⟨v',h',w',f1,f2,f3,_,f5⟩:=Zbi (x:=[.str (Za0 x)]) (u:=.slice n2 0 1 (some 1) 1) (bytes:=16) (w:=W) ((hO.keep k2).keep kX) (by omega) (by decide) rfl (by simp[Zax,St.row,slc]) (by simp[tx,strs];omega)
   have sp1:splice [V.str []] 0 [.str (Za0 x)]=[.str (Za0 x)]:=rfl
   simp(disch:=first|(simp;done)|omega|rfl) [-getElem?_pos,hr,hf,h9,h10,hlg,Zae,sp1,Zb1,f1]
   have hWn:Zad nB w'=[]:=Zgy fun j hj=>by
    apply Yto
    intro hc
    have h1:=(Zcr w' n0 j (by omega)).2 hj
    rw[f2]at h1
    have h2:=(Zcr W nB j hc).2 (Zg5 h1).1
    rw[hW]at h2
    simp at h2
   refine⟨m,by omega,hWn,((hK.trans k2).trans kX).then f3,i+1,_,v',by omega,by simp,by simp,hsome,by simp[hnl],by rw[Ymm];exact f5,fun q hq=>?_⟩
   rcases Ysv.1 hq with hq|hq
   ·exact hNq q hq
   ·obtain rfl:q=x:=by simpa using hq
    exact Zjf hbig
set_option maxHeartbeats 8000000
def MtO.push2{N0:Nat}{h:T O}{N:Nat}{v u x:V}{m:List (List Rat)}{l:List Rat}{w:List Nat}(s:MtO N0 h N v m)(hu:TxT h N u l)(hN:N0≤N)(hx:Zax ⟨h,N,w⟩ 1 x=some (1,[u]))(hm:m.length<100000):
  ∃v' h' w',Zbp ⟨h,N,w⟩ 1 24 64 v x=some (v',⟨h',N+1,w'⟩)∧Zad N0 w'=Zad N0 w∧Keeps h N0 h' (N+1)∧MtO N0 h' (N+1) v' (m++[l])∧TxT h' (N+1) u l:=by
 obtain⟨us,h1,h2,h3,h4⟩:=s
 obtain⟨v',h',w',f1,f2,f3,f4,fD,f5⟩:=Ze3 (Y:=fun _=>True) (x:=[u]) (u:=x) (bytes:=24) (w:=w) h1 (fun h0=>h2 (List.map_eq_nil_iff.1 h0)) (fun _ _ _ _=>trivial) hN (by decide) rfl hx (by rw[Ysw];omega)
 refine⟨v',h',w',f1,f2,f3,⟨us++[u],by simpa using f5,by simp,by simp[h3],fun j r hr=>?_⟩,hu.moved f4 fD (by simp)⟩
 by_cases hj:j<m.length
 ·rw[Yss hj]at hr
  obtain⟨u',g1,g2⟩:=h4 j r hr
  exact⟨u',by rw[Yss (by omega)];exact g1,g2.moved f4 fD (by simp)⟩
 ·rw[Ys6 (by omega)]at hr
  cases hd:j-m.length with
  |zero=>
   rw[hd]at hr
   simp at hr
   subst hr
   exact⟨u,by rw[Ys6 (by omega),h3,hd];rfl,hu.moved f4 fD (by simp)⟩
  |succ d=>rw[hd]at hr;simp at hr
structure RoI (nB:Nat) (B:T O) (n0:Nat) (g:List Stg) (fs:List Rat) (m:Nat) (r:T V) (st:St):Prop where
 w:Zad nB st.w=[]
 keep:Keeps B n0 st.h st.n
 ex:∃(k:Nat) (out:List (List Rat)) (before:List Rat) (ov bv:V),k+m=fs.length∧r.get 8=some (.int .i64 k)∧r.get 6=some ov∧r.get 7=some bv∧Zpq g fs k=some (out,before)∧MtO n0 st.h st.n ov out∧TxT st.h st.n bv before∧before.length=g.length∧(∀q∈before,Qb 2400 q)∧out.length=k
def Yai{nB:Nat}{B:T O}{n0:Nat}{vg vl:V}{g:List Stg}{l:List FmR}{r0:T V}(hBn:nB≤n0)(hg:Gr B n0 vg g)(hG:OkG g)(hfl:∀s∈g,s.factor.length≤20)(hs:Sn 4 B n0 vl (l.map fmC))(hv:∀f∈l,chkNum f.val=0)(hl:l.length≤1000)(a0:r0.get 0=some vg)(a1:r0.get 1=some vl):
  ∀m r st,(∀t,inD [(4,11),(15,47)] t=false→r.get t=r0.get t)→Fx [(4,11),(15,47)] r0 49 ⟨r,49,[]⟩→RoI nB B n0 g (l.map fmQ) m r st→Code A.C none A.lb13_1 ⟨r,49,[]⟩ st (Rd [(4,11),(15,47)] r0 49 (RoI nB B n0 g (l.map fmQ)) m (fun e r st=>Zad nB st.w=[]∧Keeps B n0 st.h st.n∧((e=.exit 0∧RoI nB B n0 g (l.map fmQ) 0 r st)∨(e=.ret∧Zpq g (l.map fmQ) (l.map fmQ).length=none∧r.get 4=some .nilslice∧r.get 5=some (.int .i64 4))))):=by
 rintro m r ⟨H,n1,W⟩ hr hf ⟨hW,hK,k,out,before,ov,bv,hk,h8,h6,h7,hout,hO,hB,hbl,hbq,hol⟩
 simp only at hW hK hO hB
 rw[Zaj]
 have leK:=hK.le
 have lfs:(l.map fmQ).length=l.length:=Ysw ..
 have hlv:=hs.len
 rw[Ysw]at hlv
 cases m with
 |zero=>
  obtain rfl:k=l.length:=by omega
  simp(disch:=first|(simp;done)|omega|rfl) [-getElem?_pos,A.lb13_1,hr,hf,h8,a1,hlv]
  exact⟨hW,hK,hW,hK,_,out,before,ov,bv,by omega,by simp[h8],by simp[h6],by simp[h7],hout,hO,hB,hbl,hbq,hol⟩
 |succ m=>
  have g16:=hG.v.le
  have hlt:k<l.length:=by omega
  have hlt':(k:Int)<(l.length:Int):=by omega
  obtain⟨f,hfk⟩:=Zag hlt
  have hv1:=hv f (Yr8 hfk)
  simp(disch:=first|(simp;done)|omega|rfl) [-getElem?_pos,A.lb13_1,hr,hf,h8,a1,hlv,hlt,hlt']
  refine Zai [(4,5),(9,11),(21,42)] (fun e r st=>Zad nB st.w=[]∧Keeps H n1 st.h st.n∧((e=.exit 2∧RrI nB H n1 g (fmQ f) before 0 r st)∨(e=.ret∧Zmg g (fmQ f) before g.length=none∧r.get 4=some .nilslice∧r.get 5=some (.int .i64 4)))) (RrI nB H n1 g (fmQ f) before) g.length ?_ (Yad (vg:=vg) (vl:=vl) (vb:=bv) (l:=l) (k:=k) (by omega) (hg.keep hK) hG hfl (hs.keepz hK) hfk hB.1 hbl hbq hv1 (by simp[hr,a0]) (by simp[hr,a1]) (by simp[h7]) (by simp[h8])) ?_
  ·exact⟨by simp[hW],Keeps.refl,0,[],_,by omega,by simp,by simp,rfl,rfl,Own.nil,by simp⟩
  ·rintro e r2 ⟨H6,n6,W6⟩ hr2 ⟨hW6,hK6,⟨rfl,_,_,i,now,u,hi,h10,h9,hrow,hnl,hN,hNq⟩|⟨rfl,hnone,h4,h5⟩⟩
   ·have hfi:=hf.inner (D':=[(4,5),(9,11),(21,42)]) rfl (by simp) hr2
    simp only at hW6 hK6 hN
    obtain rfl:i=g.length:=by omega
    have le6:=hK6.le
    have hT:=Yau hN
    have hone:=hT.1.form.one
    have hcel:=hT.1.form.cells
    have hfk2:(l.map fmQ)[k]?.getD 0=fmQ f:=by rw[Ysa,hfk];rfl
    have hout2:Zpq g (l.map fmQ) (k+1)=some (out++[now],now):=by
     rw[Zpq,hout]
     simp only[hfk2,hrow]
    have kX:Keeps H6 n6 (H6.set n6 (.cells [u] 64 true)) (n6+1):=Keeps.refl.new _
    obtain⟨v',h',w',f1,f2,f3,f4,f6⟩:=MtO.push2 (w:=W6) (x:=.slice n6 0 1 (some 1) 1) ((hO.keep hK6).keep kX) (hT.keep kX) (by omega) (by simp[Zax,St.row,slc]) (by omega)
    have sp1:splice [V.nilslice] 0 [u]=[u]:=rfl
    simp(disch:=first|(simp;done)|omega|rfl) [-getElem?_pos, -V.cells, -V.one,hr,hr2,h6,h9,h8,hfi,hone,hcel,sp1,Zb1,f1]
    have hWn:Zad nB w'=[]:=Zgy fun i hi=>by
     apply Yto
     intro hc
     have h1:=(Zcr w' n0 i (by omega)).2 hi
     rw[f2]at h1
     have h2:=(Zcr W6 nB i hc).2 (Zg5 h1).1
     rw[hW6]at h2
     simp at h2
    exact⟨m,by omega,hWn,((hK.trans hK6).trans kX).then f3,k+1,_,now,_,_,by omega,by simp,by simp,by simp,hout2,f4,f6,hnl,hNq,by simp[hol]⟩
   ·have hfi:=hf.inner (D':=[(4,5),(9,11),(21,42)]) rfl (by simp) hr2
    simp only at hW6 hK6
    have hn2:Zpq g (l.map fmQ) (k+1)=none:=by
     have hfk2:(l.map fmQ)[k]?.getD 0=fmQ f:=by rw[Ysa,hfk];rfl
     rw[Zpq,hout]
     simp only[hfk2,hnone]
    simp(disch:=first|(simp;done)|omega|rfl) [-getElem?_pos,hr,hr2,h4,h5,hfi]
    exact⟨hW6,hK.trans hK6,by have:=Zmo hn2 (j:=(l.map fmQ).length) (by omega);rwa [lfs]at this⟩
def Zvb{h:T O}{N:Nat}{u v:V}{g:List Stg}{l:List FmR}(hg:Gr h N u g)(hG:OkG g)(hfl:∀s∈g,s.factor.length≤20)(hs:Sn 4 h N v (l.map fmC))(hv:∀f∈l,chkNum f.val=0)(hl:l.length≤1000):Fn A.C 13 [u,v] h N (fun x h' n'=>(Yd3 g l=none∧x=.tup [.nilslice,.int .i64 4])∨∃z out,Yd3 g l=some out∧x=.tup [z,.int .i64 0]∧TxM h' n' z out∧out.length=l.length):=by
 intro w
 have g16:=hG.v.le
 have g0:=hG.ne
 have lg:=hg.len
 have lfs:(l.map fmQ).length=l.length:=Ysw ..
 rw[Zac,A.k13 (by simp)]
 simp(disch:=first|(simp;done)|omega|rfl) [-getElem?_pos,A.b13,lg]
 refine Zaf (Zz8 (n:=g.length) g0 (by omega)) ?_
 rintro x H2 n2 k2 hx
 have le2:=k2.le
 have e0:((List.range g.length).map fun _=>(0:Rat))=g.map fun _=>0:=by rw[List.map_const',List.map_const',List.length_range]
 rw[e0]at hx
 simp(disch:=first|(simp;done)|omega|rfl) [-getElem?_pos,]
 refine Zai [(4,11),(15,47)] (fun e r st=>Zad N st.w=[]∧Keeps H2 n2 st.h st.n∧((e=.exit 0∧RoI N H2 n2 g (l.map fmQ) 0 r st)∨(e=.ret∧Zpq g (l.map fmQ) (l.map fmQ).length=none∧r.get 4=some .nilslice∧r.get 5=some (.int .i64 4)))) (RoI N H2 n2 g (l.map fmQ)) l.length ?_ (Yai (vg:=u) (vl:=v) (by omega) (hg.keep k2) hG hfl (hs.keepz k2) hv hl (by simp) (by simp)) ?_
 ·exact⟨by simp[Zgy],Keeps.refl,0,[],_,_,_,by omega,by simp,by simp,by simp,rfl,MtO.nil,hx,by simp,fun q hq=>by
   obtain⟨_,_,rfl⟩:=Yt1.1 hq
   exact Qb.zero.mono (by decide),rfl⟩
 ·rintro e r ⟨H,n,W⟩ hr ⟨hW,hK,⟨rfl,_,_,k,out,before,ov,bv2,hk,h8,h6,h7,hout,hO,hB,hbl,hbq,hol⟩|⟨rfl,hnone,h4,h5⟩⟩
  ·simp only at hW hK hO
   obtain rfl:k=l.length:=by omega
   simp(disch:=first|(simp;done)|omega|rfl) [-getElem?_pos,hr,h6,Ret]
   exact⟨hW,k2.trans hK,_,out,by unfold Yd3;rw[hout];rfl,rfl,hO.txm,hol⟩
  ·simp only at hW hK
   rw[lfs]at hnone
   simp(disch:=first|(simp;done)|omega|rfl) [-getElem?_pos,hr,h4,h5,Ret]
   exact⟨hW,k2.trans hK,by unfold Yd3;rw[hnone];rfl⟩
variable {N:Nat} {h:T O} {w:List Nat}
set_option maxHeartbeats 8000000
def A.lb10_0:Zah:=.seq (sr [mv 4 3,mv 5 0,ln 6 5,bi 7 .lss 4 6]
 (cd 7
 (.skip)
 (.exit 0)))
 (.seq (.block 1 (sr [mv 10 0,mv 11 3,ia 12 1 10 11,ld 13 12,ni 14 13 0]
 (cd 14
 (sr [mv 15 0,mv 16 3,ia 17 1 15 16,ld 18 17,mv 2 18]
 (.ret))
 (.skip))))
 (.reg [mv 8 3,bc 9 .add 8 1,mv 3 9]))
def A.b10:Zah:=sr [mc 2 0]
 (.seq (sr [mc 3 0]
 (.block 0 (.loop A.lb10_0)))
 (sr [mc 2 0]
 (.ret)))
def A.k10:=@A.kk 10 19 [.tmp 2] A.b10 (by kernel_rfl) rfl
def A.lb12_0:Zah:=.seq (sr [mv 8 3,mv 9 0,ln 10 9,bi 11 .lss 8 10]
 (cd 11
 (.skip)
 (.exit 0)))
 (.seq (.block 1 (.seq (.regD [mv 14 0,mv 15 3,ia 16 4 14 15,fa 17 0 16,ld 18 17,ge 19 (.call (fq 39) [tq 18,.const (.int .i64 1),.const (.int .i64 999999999)]),mv 20 0,mv 21 3,ia 22 4 20 21,fa 23 1 22,ld 24 23,ge 25 (.call (fq 39) [tq 24,.const (.int .i64 0),.const (.int .i64 100000000)]),mv 26 0,mv 27 3,ia 28 4 26 27,fa 29 2 28,ld 30 29,ge 31 (.call (fq 39) [tq 30,.const (.int .i64 0),.const (.int .i64 100000000)]),mv 32 0,mv 33 3,ia 34 4 32 33,fa 35 3 34,ld 36 35,c1 37 40 36,ge 38 (.bslice 3 1 4 [.int .i64 0,.int .i64 0,.int .i64 0,.int .i64 0] [(0,1,(tq 19)),(1,1,(tq 25)),(2,1,(tq 31)),(3,1,(tq 37))]),c1 39 10 38,mv 4 39] [0,0,3,7,15,31,0,0,192,448,960,2047,0,0,12288,28672,61440,131071,0,0,786432,1835008,3932160,8388607,16777215,33554431,67108863])
 (.seq (.seq (.regD [mv 40 4,ei 41 40 0,mv 42 41,mg 43 3 42,gy 44 42 (.bin .gtr (.node []) false (tq 43) (kq 0)),pf 45 42 44,mv 46 45,mg 47 0 46,mg 48 3 46,gy 49 46 (.iaddrSl 4 (tq 47) (tq 48)),gy 50 46 (.faddr 0 (tq 49)),gy 51 46 (.load none (tq 50)),mg 52 0 46,mg 53 3 46,gy 54 46 (.bin .sub (.node []) false (tq 53) (kq 1)),gy 55 46 (.iaddrSl 4 (tq 52) (tq 54)),gy 56 46 (.faddr 0 (tq 55)),gy 57 46 (.load none (tq 56)),gy 58 46 (.bin .leq (.node []) false (tq 51) (tq 57)),mg 59 58 46,mh 60 0 59,mh 61 3 59,gz 62 59 (.iaddrSl 4 (tq 60) (tq 61)),gz 63 59 (.faddr 1 (tq 62)),gz 64 59 (.load none (tq 63)),mh 65 0 59,mh 66 3 59,gz 67 59 (.bin .sub (.node []) false (tq 66) (kq 1)),gz 68 59 (.iaddrSl 4 (tq 65) (tq 67)),gz 69 59 (.faddr 1 (tq 68)),gz 70 59 (.load none (tq 69)),gz 71 59 (.bin .lss (.node []) false (tq 64) (tq 70)),gy 72 46 (.pick (tq 59) (.const (.bool true)) (tq 71)),pf 73 46 72] [0,1,3,7,15,31,63,127,127,511,1023,2047,127,127,8319,28799,61567,127103,262143,524287,1048575,1048575,4194303,8388607,16777215,1048575,1048575,68157439,235929599,504365055,1041235967,2147483647,4294967295,8589934591])
 (cd 73
 (.reg [mc 4 11])
 (.skip)))
 (sr [mv 74 4,ni 75 74 0]
 (cd 75
 (sr [mv 76 4,mv 2 76]
 (.ret))
 (.skip))))))
 (.reg [mv 12 3,bc 13 .add 12 1,mv 3 13]))
def A.b12:Zah:=sr [mc 2 0]
 (.seq (sr [mv 5 0,ln 6 5,bc 7 .gtr 6 256]
 (cd 7
 (sr [mc 2 5]
 (.ret))
 (.skip)))
 (.seq (sr [mc 3 0]
 (.block 0 (.loop A.lb12_0)))
 (sr [mc 2 0]
 (.ret))))
def A.k12:=@A.kk 12 77 [.tmp 2] A.b12 (by kernel_rfl) rfl
def Zoi{v:V}{l:List Int}(hs:Sl h N v (dI l))(hl:l.length<1000):A.C.call (.func 10 [] []) [v] ⟨h,N,w⟩=some (.int .i64 (Zan l),⟨h,N,w⟩):=by
 apply Call.eq
 have hlen:=hs.len
 rw[Zat]at hlen
 rw[Zac,A.k10 (by simp)]
 simp(disch:=first|(simp;done)|omega|rfl) [-getElem?_pos,A.b10]
 refine Zai [(2,18)] (fun e r st=>st=⟨h,N,[]⟩∧((e=.exit 0∧Zan l=0)∨(e=.ret∧r.get 2=some (.int .i64 (Zan l))))) (fun m r st=>st=⟨h,N,[]⟩∧∃k,k+m=l.length∧r.get 3=some (.int .i64 k)∧Zan l=Zan (l.drop k)) l.length ?_ ?_ ?_
 ·exact⟨rfl,0,by omega,by simp,by simp⟩
 ·rintro m r _ hr hf ⟨rfl,k,hk,h7,hz⟩
  rw[Zaj]
  cases m with
  |zero=>
   obtain rfl:k=l.length:=by omega
   rw[Yti,Zan]at hz
   simp(disch:=first|(simp;done)|omega|rfl) [-getElem?_pos,A.lb10_0,hr,hf,h7,hlen,hz]
  |succ m=>
   have hlt:k<l.length:=by omega
   obtain⟨c,hc⟩:=Zag hlt
   obtain⟨i,o,cc,e,rw,q1,q2,q3,q4⟩:=hs.at (Zbe hc)
   rw[Zaq hc,Zan]at hz
   have hk1:(k:Int)<(l.length:Int):=by omega
   by_cases h0:c=0
   ·rw[Yr6 h0]at hz
    simp(disch:=first|(simp;done)|omega|rfl) [-getElem?_pos,A.lb10_0,hr,hf,h7,hk1,hlt,hlen,q1,q3,q4,Zae,h0]
    exact⟨m,by omega,k+1,by omega,by simp,hz⟩
   ·rw[Yr3 h0]at hz
    simp(disch:=first|(simp;done)|omega|rfl) [-getElem?_pos,A.lb10_0,hr,hf,h7,hk1,hlt,hlen,q1,q3,q4,Zae,h0,hz]
 ·rintro _ r _ hr ⟨rfl,⟨rfl,hz⟩|⟨rfl,h2⟩⟩
  ·simp(disch:=first|(simp;done)|omega|rfl) [-getElem?_pos,hr,hz]
  ·simp(disch:=first|(simp;done)|omega|rfl) [-getElem?_pos,hr,h2]
def Yfa{i:Nat}{a0 a1 a2 a3:Int}(hi:i<N):A.C.call (.func 10 [] []) [.slice i 0 4 (some 4) 1] ⟨h.set i (.cells [.int .i64 a0,.int .i64 a1,.int .i64 a2,.int .i64 a3] 3 true),N,w⟩=some (.int .i64 (Zan [a0,a1,a2,a3]),⟨h.set i (.cells [.int .i64 a0,.int .i64 a1,.int .i64 a2,.int .i64 a3] 3 true),N,w⟩):=
 Zoi (l:=[a0,a1,a2,a3]) (Sl.row (e:=3) (rw:=true) (cp:=some 4) hi (by simp[dI]) rfl (by simp)) (by simp)
def Zpl{i:Nat}{a0 a1:Int}(hi:i<N):A.C.call (.func 10 [] []) [.slice i 0 2 (some 2) 1] ⟨h.set i (.cells [.int .i64 a0,.int .i64 a1] 3 true),N,w⟩=some (.int .i64 (Zan [a0,a1]),⟨h.set i (.cells [.int .i64 a0,.int .i64 a1] 3 true),N,w⟩):=
 Zoi (l:=[a0,a1]) (Sl.row (e:=3) (rw:=true) (cp:=some 2) hi (by simp[dI]) rfl (by simp)) (by simp)
def Zk3{c l:List V}{o n j:Nat}(h:slc c o n=some l)(hj:j<n):c[o+j]?=l[j]?:=by
 unfold slc at h
 split at h
 ·obtain rfl:=Ysx h
  rw[List.getElem?_take_of_lt hj,Ysc]
 ·cases h
def Yrq{a b c d e:Int}:Zan [a,b,c,d,e]=if Zan [a,b,c,d]=0 then e else Zan [a,b,c,d]:=by
 simp only[Zan]
 by_cases h1:a=0
 ·by_cases h2:b=0
  ·by_cases h3:c=0
   ·by_cases h4:d=0
    ·by_cases h5:e=0<;>simp[h1,h2,h3,h4,h5]
    ·simp[h1,h2,h3,h4]
   ·simp[h1,h2,h3]
  ·simp[h1,h2]
 ·simp[h1]
def Zkp{v:V}{l:List FmR}(hs:Sn 4 h N v (l.map fmC))(hv:∀f∈l,f.val.length≤100000)(hl:l.length<100000):Fn A.C 12 [v] h N (fun u _ _=>u=.int .i64 (Zcu l)):=by
 intro w
 have hlv:=hs.len
 rw[Ysw]at hlv
 rw[Zac,A.k12 (by simp)]
 by_cases h256:256<l.length
 ·have h256':(256:Int)<(l.length:Int):=by omega
  simp(disch:=first|(simp;done)|omega|rfl) [-getElem?_pos,A.b12,hlv,h256,h256',Ret,Zcu]
  exact Keeps.refl
 ·have h256':¬(256:Int)<(l.length:Int):=by omega
  have hc:Zcu l=Zan ((List.range l.length).map (frE l)):=Yr3 h256
  rw[hc]
  simp(disch:=first|(simp;done)|omega|rfl) [-getElem?_pos,A.b12,hlv,h256,h256']
  refine Zai [(2,4),(8,76)] (fun e r st=>Zad N st.w=[]∧Keeps h N st.h st.n∧((e=.exit 0∧∀j,j<l.length→frE l j=0)∨(e=.ret∧∃k,k<l.length∧(∀j,j<k→frE l j=0)∧frE l k≠0∧r.get 2=some (.int .i64 (frE l k))))) (fun m r st=>Zad N st.w=[]∧Keeps h N st.h st.n∧∃k,k+m=l.length∧r.get 3=some (.int .i64 k)∧∀j,j<k→frE l j=0) l.length ?_ ?_ ?_
  ·exact⟨by simp,Keeps.refl,0,by omega,by simp,by omega⟩
  ·rintro m r ⟨H,n1,W⟩ hr hf ⟨hW,hK,k,hk,h12,hz⟩
   simp only at hW hK
   rw[Zaj]
   have leK:=hK.le
   cases m with
   |zero=>
    obtain rfl:k=l.length:=by omega
    simp(disch:=first|(simp;done)|omega|rfl) [-getElem?_pos,A.lb12_0,hr,hf,h12,hlv,hW,hK]
    exact hz
   |succ m=>
    have hlt:k<l.length:=by omega
    have hlt':(k:Int)<(l.length:Int):=by omega
    obtain⟨f,hfk⟩:=Zag hlt
    have hfl:=hv f (Yr8 hfk)
    have hpl:k-1<l.length:=by omega
    have hpl':((k-1:Nat):Int)<(l.length:Int):=by omega
    obtain⟨p,hpk⟩:=Zag hpl
    obtain⟨i0,o0,c0,e0,rw0,q1,q2,q3,q4⟩:=hs.at (show (l.map fmC)[k]?=some (fmC f) by rw[Ysa,hfk];rfl)
    obtain⟨i1,o1,c1,e1,rw1,p1,p2,p3,p4⟩:=hs.at (show (l.map fmC)[k-1]?=some (fmC p) by rw[Ysa,hpk];rfl)
    rw[q1]at p1
    simp only[Yr1,Yr5]at p1
    obtain⟨rfl,rfl⟩:=p1
    rw[q3]at p3
    simp only[Yr1,O.cells.injEq]at p3
    obtain⟨rfl,rfl,rfl⟩:=p3
    have u0:c0[o0+k*4]?=some (.int .i64 f.n):=Zk3 (j:=0) q4 (by decide)
    have u1:c0[o0+k*4+1]?=some (.int .i64 f.a):=Zk3 q4 (by decide)
    have u2:c0[o0+k*4+2]?=some (.int .i64 f.d):=Zk3 q4 (by decide)
    have u3:c0[o0+k*4+3]?=some (.str f.val):=Zk3 q4 (by decide)
    have v0:c0[o0+(k-1)*4]?=some (.int .i64 p.n):=Zk3 (j:=0) p4 (by decide)
    have v1:c0[o0+(k-1)*4+1]?=some (.int .i64 p.a):=Zk3 p4 (by decide)
    have g0:=(hK.get i0 q2).trans q3
    have gl:i0<n1:=by omega
    simp(disch:=first|(simp;done)|omega|rfl) [-getElem?_pos,A.lb12_0,hr,hf,h12,hlv,hlt,hlt',q1,q2,g0,gl,u0,u1,u2,u3,Zkm]
    refine Zaf (Zqy hfl) ?_
    rintro _ H4 n4 k4 rfl
    have le4:=k4.le
    have g4:=(k4.get i0 gl).trans g0
    have gl4:i0<n4:=by omega
    have gl5:¬i0=n4:=by omega
    have gl6:i0<n4+1:=by omega
    have kX:∀c,Keeps h N (H4.set n4 (.cells c 3 true)) (n4+1):=fun c=>((hK.trans k4).new _)
    have hgd:(l[k-1]?).getD f=p:=by rw[hpk];rfl
    have efr:frE l k=Zan [wz f.n 1 999999999,wz f.a 0 100000000,wz f.d 0 100000000,((chkNum f.val:Nat):Int),Yaw l k f]:=by
     unfold frE
     rw[hfk]
    rw[Yrq]at efr
    have eor:Yaw l k f=if 0<k∧(f.n≤p.n∨f.a<p.a) then 11 else 0:=by
     unfold Yaw
     rw[hgd]
    have w3:¬n4<N:=by omega
    have hz2:frE l k=0→∀j,j<k+1→frE l j=0:=fun h0 j hj=>by
     by_cases e:j=k
     ·subst e;exact h0
     ·exact hz j (by omega)
    have pf:=fun w=>Yfa (h:=H4) (N:=n4+1) (i:=n4) (w:=w) (a0:=wz f.n 1 999999999) (a1:=wz f.a 0 100000000) (a2:=wz f.d 0 100000000) (a3:=((chkNum f.val:Nat):Int)) (by omega)
    generalize hE:Zan [wz f.n 1 999999999,wz f.a 0 100000000,wz f.d 0 100000000,((chkNum f.val:Nat):Int)]=E at*
    unfold wz at pf
    by_cases hE0:E=0
    ·rw[Yr6 hE0]at efr
     by_cases k0:0<k
     ·have k0':(0:Int)<(k:Int):=by omega
      have hk1:(k:Int)-1=((k-1:Nat):Int):=by omega
      by_cases c1:f.n≤p.n
      ·have ho:frE l k=11:=by rw[efr,eor,Yr6 ⟨k0,.inl c1⟩]
       simp(disch:=first|(simp;done)|omega|rfl) [-getElem?_pos,hr,hf,h12,hlv,splice,pf,hE0,Zae,k0,k0',hk1,hlt,hlt',hpl,hpl',q1,g4,gl4,gl5,gl6,u0,u1,v0,v1,c1,hW]
       exact⟨kX _,k,hlt,hz,by rw[ho];decide,ho.symm⟩
      ·by_cases c2:f.a<p.a
       ·have ho:frE l k=11:=by rw[efr,eor,Yr6 ⟨k0,.inr c2⟩]
        simp(disch:=first|(simp;done)|omega|rfl) [-getElem?_pos,hr,hf,h12,hlv,splice,pf,hE0,Zae,k0,k0',hk1,hlt,hlt',hpl,hpl',q1,g4,gl4,gl5,gl6,u0,u1,v0,v1,c1,c2,hW]
        exact⟨kX _,k,hlt,hz,by rw[ho];decide,ho.symm⟩
       ·have ho:frE l k=0:=by rw[efr,eor,Yr3 (by rintro⟨_,h|h⟩<;>omega)]
        simp(disch:=first|(simp;done)|omega|rfl) [-getElem?_pos,hr,hf,h12,hlv,splice,pf,hE0,Zae,k0,k0',hk1,hlt,hlt',hpl,hpl',q1,g4,gl4,gl5,gl6,u0,u1,v0,v1,c1,c2,hW]
        exact⟨m,by omega,kX _,k+1,by omega,by simp,hz2 ho⟩
     ·have k0':¬(0:Int)<(k:Int):=by omega
      have ho:frE l k=0:=by rw[efr,eor,Yr3 (by rintro⟨h,_⟩;omega)]
      simp(disch:=first|(simp;done)|omega|rfl) [-getElem?_pos,hr,hf,h12,hlv,splice,pf,hE0,Zae,k0,k0',hW]
      exact⟨m,by omega,kX _,k+1,by omega,by simp,hz2 ho⟩
    ·rw[Yr3 hE0]at efr
     simp(disch:=first|(simp;done)|omega|rfl) [-getElem?_pos,hr,hf,h12,hlv,splice,pf,hE0,Zae,hW]
     exact⟨kX _,k,hlt,hz,by rw[efr];exact hE0,efr.symm⟩
  ·rintro e r ⟨H,n,W⟩ hr ⟨hW,hK,⟨rfl,hz⟩|⟨rfl,k,hk,hz,h0,h2⟩⟩
   ·simp only at hW hK
    simp(disch:=first|(simp;done)|omega|rfl) [-getElem?_pos,hr,Ret,Zp1 hz]
    exact⟨hW,hK⟩
   ·simp only at hW hK
    simp(disch:=first|(simp;done)|omega|rfl) [-getElem?_pos,hr,h2,Ret,Yih hk hz h0]
    exact⟨hW,hK⟩
variable {N:Nat} {h:T O} {v:V}
def A.lb9_0:Zah:=sr [bi 9 .lss 8 7]
 (.seq (cd 9
 (.skip)
 (.exit 0))
 (.seq (.block 1 (sr [ia 10 4 6 8,lN 11 4 10,ge 5 (.alloc [.int .i64 0,.int .i64 0,.int .i64 0,(.str [])] 49),gn (.store 4 (tq 5) (tq 11))]
 (.reg [mv 12 3,lN 13 4 5,ge 14 (.bslice 51 4 1 [.int .i64 0,.int .i64 0,.int .i64 0,(.str [])] [(0,4,(tq 13))]),ge 15 (.append 4 40 51 [.int .i64 0,.int .i64 0,.int .i64 0,(.str [])] (tq 12) (tq 14)),mv 3 15])))
 (.reg [bc 16 .add 8 1,mv 8 16])))
def A.b9:Zah:=sr [mN 2]
 (sr [mN 3]
 (.seq (sr [mv 6 0,ln 7 6,mc 8 0]
 (.block 0 (.loop A.lb9_0)))
 (sr [mv 17 3,mv 2 17]
 (.ret))))
def A.c9:A.F 9=some ⟨18,[.tmp 2],A.b9⟩:=by kernel_rfl
def A.k9:=@A.kk 9 _ _ _ A.c9 rfl
def A.lb15_0:Zah:=sr [bi 14 .lss 13 12]
 (.seq (cd 14
 (.skip)
 (.exit 0))
 (.seq (.block 1 (sr [mv 15 13,mv 5 15]
 (.seq (.regD [mv 16 0,mv 17 5,ia 18 1 16 17,ld 19 18,mv 20 1,mv 21 5,ia 22 1 20 21,ld 23 22,c2 24 21 19 23,ge 25 (.un .not (tq 24))] [0,0,3,7,0,0,48,112,255,511])
 (cd 25
 (sr [ge 4 (.mov (.const (.bool false)))]
 (.ret))
 (.skip)))))
 (.reg [bc 26 .add 13 1,mv 13 26])))
def A.b15:Zah:=sr [ge 4 (.mov (.const (.bool false)))]
 (.seq (sr [mv 6 0,ln 7 6,mv 8 1,ln 9 8,ge 10 (.bin .neq (.prim .int) false (tq 7) (tq 9))]
 (cd 10
 (sr [ge 4 (.mov (.const (.bool false)))]
 (.ret))
 (.skip)))
 (.seq (sr [mv 11 0,ln 12 11,mc 13 0]
 (.block 0 (.loop A.lb15_0)))
 (sr [ge 4 (.mov (.const (.bool true)))]
 (.ret))))
def A.c15:A.F 15=some ⟨27,[.tmp 4],A.b15⟩:=by kernel_rfl
def A.k15:=@A.kk 15 _ _ _ A.c15 rfl
def A.lb21_0:Zah:=.seq (sr [mv 11 5,mv 12 0,ln 13 12,bi 14 .lss 11 13]
 (cd 14
 (.skip)
 (.exit 0)))
 (.seq (.block 1 (.seq (.regD [mv 17 0,mv 18 5,ia 19 1 17 18,ld 20 19,mv 21 1,mv 22 5,ia 23 1 21 22,ld 24 23,ge 25 (.bin .neq (.prim .str) false (tq 20) (tq 24))] [0,0,3,7,0,0,48,112,255])
 (cd 25
 (sr [ge 4 (.mov (.const (.bool false)))]
 (.ret))
 (.skip))))
 (.reg [mv 15 5,bc 16 .add 15 1,mv 5 16]))
def A.b21:Zah:=sr [ge 4 (.mov (.const (.bool false)))]
 (.seq (sr [mv 6 0,ln 7 6,mv 8 1,ln 9 8,ge 10 (.bin .neq (.prim .int) false (tq 7) (tq 9))]
 (cd 10
 (sr [ge 4 (.mov (.const (.bool false)))]
 (.ret))
 (.skip)))
 (.seq (sr [mc 5 0]
 (.block 0 (.loop A.lb21_0)))
 (sr [ge 4 (.mov (.const (.bool true)))]
 (.ret))))
def A.k21:=@A.kk 21 26 [.tmp 4] A.b21 (by kernel_rfl) rfl
def Yjf{u:V}{l:List Str}{w:List Nat}(hu:Sl h N u (strs l))(hv:Sl h N v (strs l))(hl:l.length<100000):A.C.call (.func 21 [] []) [u,v] ⟨h,N,w⟩=some (.bool true,⟨h,N,w⟩):=by
 apply Call.eq
 have l1:=hu.len
 have l2:=hv.len
 rw[Zby]at l1 l2
 rw[Zac,A.k21 (by simp)]
 simp[A.b21,l1,l2,Zae]
 refine Zai [(4,5),(11,25)] (fun e r st=>st=⟨h,N,[]⟩∧e=.exit 0) (fun m r st=>st=⟨h,N,[]⟩∧∃k,k+m=l.length∧r.get 5=some (.int .i64 k)) l.length ?_ ?_ ?_
 ·exact⟨rfl,0,by omega,by simp⟩
 ·rintro m r _ hr hf ⟨rfl,k,hk,h5⟩
  rw[Zaj]
  cases m with
  |zero=>
   obtain rfl:k=l.length:=by omega
   simp[A.lb21_0,hr,hf,h5,l1]
  |succ m=>
   have hlt:k<l.length:=by omega
   obtain⟨s,hs⟩:=Zag hlt
   obtain⟨i,o,c,e,rw,q1,q2,q3,q4⟩:=hu.at (Zb5 hs)
   obtain⟨i',o',c',e',rw',p1,p2,p3,p4⟩:=hv.at (Zb5 hs)
   have hk1:(k:Int)<(l.length:Int):=by omega
   simp(disch:=first|(simp;done)|omega|rfl) [A.lb21_0,hr,hf,h5,l1,l2,hk1,hlt,q1,q2,q3,q4,p1,p2,p3,p4,Zbh,Zae,Zao.chk]
   exact⟨m,by omega,k+1,by omega,by simp⟩
 ·rintro _ r _ hr ⟨rfl,rfl⟩
  simp[hr]
def Zjy{l:List FmR}(hs:Sn 4 h N v (l.map fmC))(hl:l.length<1000):Fn A.C 9 [v] h N (fun u h' n'=>Sn 4 h' n' u (l.map fmC)):=by
 intro w
 have hlv:=hs.len
 rw[Ysw]at hlv
 rw[Zac,A.k9 (by simp)]
 simp(disch:=first|(simp;done)|omega|rfl) [-getElem?_pos,A.b9,hlv]
 refine Zai [(3,3),(5,5),(8,16)] (fun e r st=>e=.exit 0∧Zad N st.w=[]∧Keeps h N st.h st.n∧∃u,r.get 3=some u∧Own 4 51 N st.h st.n u (l.map fmC)) (fun m r st=>Zad N st.w=[]∧Keeps h N st.h st.n∧∃k u,k+m=l.length∧r.get 8=some (.int .i64 k)∧r.get 3=some u∧Own 4 51 N st.h st.n u ((l.take k).map fmC)) l.length ?_ ?_ ?_
 ·exact⟨by simp,Keeps.refl,0,.nilslice,by omega,by simp,by simp,Own.nil⟩
 ·rintro m r ⟨H,n1,W⟩ hr hf ⟨hW,hK,k,u,hk,h8,h3,hO⟩
  simp only at hW hK hO
  rw[Zaj]
  have le:=hK.le
  cases m with
  |zero=>
   obtain rfl:k=l.length:=by omega
   rw[Ytr]at hO
   simp(disch:=first|(simp;done)|omega|rfl) [-getElem?_pos,A.lb9_0,hr,hf,h8,h3,hW,hK]
   exact hO
  |succ m=>
   have hlt:k<l.length:=by omega
   have hlt':(k:Int)<(l.length:Int):=by omega
   obtain⟨f,hfk⟩:=Zag hlt
   obtain⟨i0,o0,c0,e0,rw0,q1,q2,q3,q4⟩:=(hs.keepz hK).at (show (l.map fmC)[k]?=some (fmC f) by rw[Ysa,hfk];rfl)
   have hcs:(V.agg (fmC f)).cells=fmC f:=rfl
   have hls:(fmC f).length=4:=rfl
   have hos:(fmC f).all V.one=true:=rfl
   have sps:splice [V.int .i64 0,.int .i64 0,.int .i64 0,.str []] 0 (fmC f)=fmC f:=rfl
   have sl4:slc (fmC f) 0 4=some (fmC f):=rfl
   have d1:¬i0=n1:=by omega
   have kD:Keeps H n1 (((H.set n1 (.cells [.int .i64 0,.int .i64 0,.int .i64 0,.str []] 49 true)).set n1 (.cells (fmC f) 49 true)).set (n1+1) (.cells (fmC f) 51 true)) (n1+1+1):=((Keeps.refl.new _).set (Yr4 _)).new _
   obtain⟨v',h',w',j1,j2,j3,_,j5⟩:=Zbi (x:=fmC f) (u:=.slice (n1+1) 0 1 (some 1) 4) (bytes:=40) (w:=n1::W) (hO.keep kD) (by omega) (by decide) rfl (by simp[Zax,St.row,slc,fmC]) (by simp;omega)
   have e:(l.take (k+1)).map fmC=(l.take k).map fmC++[fmC f]:=by rw[Yta,hfk,List.map_append];rfl
   rw[←e]at j5
   have z1:¬n1<N:=by omega
   have hWn:Zad N w'=[]:=by rw[j2];simp[Zad,hW,z1]
   simp(disch:=first|(simp;done)|omega|rfl) [-getElem?_pos, -V.cells, -V.one,A.lb9_0,hr,hf,h8,h3,hlv,hlt,hlt',q1,q2,q3,q4,hcs,hls,hos,sps,sl4,Zal,d1,Zb1,j1]
   exact⟨m,by omega,hWn,(hK.trans kD).then j3,k+1,by omega,by simp,by rw[←List.map_take];exact j5⟩
 ·rintro _ r ⟨H,n1,W⟩ hr ⟨rfl,hW,hK,u,h3,hO⟩
  simp only at hW hK hO
  simp(disch:=first|(simp;done)|omega|rfl) [-getElem?_pos,hr,h3,Ret,hW,hK]
  exact hO.sn
def Zpj{u:V}{m:List (List Rat)}{w:List Nat}(hu:TxM h N u m)(hv:TxM h N v m)(hl:m.length<100000)(hr0:∀r∈m,r.length<100000):A.C.call (.func 15 [] []) [u,v] ⟨h,N,w⟩=some (.bool true,⟨h,N,w⟩):=by
 apply Call.eq
 have lu:=hu.len
 have lv:=hv.len
 rw[Zac,A.k15 (by simp)]
 simp(disch:=first|(simp;done)|omega|rfl) [-getElem?_pos,A.b15,lu,lv,Zae]
 refine Zai [(4,5),(13,26)] (fun e r st=>st=⟨h,N,[]⟩∧e=.exit 0) (fun j r st=>st=⟨h,N,[]⟩∧∃k,k+j=m.length∧r.get 13=some (.int .i64 k)) m.length ?_ ?_ ?_
 ·exact⟨rfl,0,by omega,by simp⟩
 ·rintro j r _ hr hf ⟨rfl,k,hk,h13⟩
  rw[Zaj]
  cases j with
  |zero=>
   obtain rfl:k=m.length:=by omega
   simp(disch:=first|(simp;done)|omega|rfl) [-getElem?_pos,A.lb15_0,hr,hf,h13]
  |succ j=>
   have hlt:k<m.length:=by omega
   have hlt':(k:Int)<(m.length:Int):=by omega
   obtain⟨x,hx⟩:=Zag hlt
   obtain⟨i0,o0,c0,e0,rw0,y0,q1,q2,q3,q4,q5⟩:=hu.at hx
   obtain⟨i1,o1,c1,e1,rw1,y1,p1,p2,p3,p4,p5⟩:=hv.at hx
   have hsr:=fun w=>Yjf (l:=x.map Za0) (w:=w) q5 p5 (by rw[Ysw];exact hr0 x (Yr8 hx))
   simp(disch:=first|(simp;done)|omega|rfl) [-getElem?_pos,A.lb15_0,hr,hf,h13,lu,lv,hlt,hlt',q1,q2,q3,q4,p1,p2,p3,p4,hsr]
   exact⟨j,by omega,k+1,by omega,by simp⟩
 ·rintro _ r _ hr ⟨rfl,rfl⟩
  simp(disch:=first|(simp;done)|omega|rfl) [-getElem?_pos,hr]
end Go.Mx
