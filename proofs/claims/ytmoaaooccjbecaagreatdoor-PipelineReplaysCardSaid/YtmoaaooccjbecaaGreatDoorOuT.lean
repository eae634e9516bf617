/-lensletref09-/
import Derived.Test.YtmoaaooccjbecaaGreatDoorRaS
set_option linter.all false
namespace Go.Mx
open Go Go.Proofs
set_option maxHeartbeats 8000000
set_option maxRecDepth 1000000
noncomputable def A.w50:=A.q Tryz.f50
noncomputable def A.lb50_0:=A.ql A.w50 1 []
noncomputable def A.lb50_1:=(fun x0=>A.ql A.w50 0 [x0]) A.lb50_0
noncomputable def A.b50:=(fun x0=>A.qb A.w50 [x0]) A.lb50_1
def A.k50:=@A.kk 50 49 [.tmp 4,.tmp 5] A.b50 (by kernel_rfl) rfl
structure RrI (nB:Nat) (B:T O) (n0:Nat) (g:List Stg) (fr:Rat) (before:List Rat) (m:Nat) (r:T V) (st:St):Prop where
 w:Zaa nB st.w=[]
 keep:Keeps B n0 st.h st.n
 ex:∃(i:Nat) (now:List Rat) (u:V),i+m=g.length∧r.get 10=some (.int .i64 i)∧r.get 9=some u∧Zmr g fr before i=some now∧now.length=i∧Own 1 46 n0 st.h st.n u ((tx now).map fun y=>[y])∧∀q∈now,Qb 2400 q
def Ynr{l:List Rat}{q:Rat}:(tx (l++[q])).map (fun y=>[y])=(tx l).map (fun y=>[y])++[[.str (Za0 q)]]:=by simp[tx,strs]
def Ya7{nB:Nat}{B:T O}{n0:Nat}{vg vl vb:V}{g:List Stg}{l:List FmR}{f:FmR}{before:List Rat}{r0:T V}{k:Nat}(hBn:nB≤n0)(hg:Gr B n0 vg g)(hG:OkG g)(hfl:∀s∈g,s.factor.length≤20)(hs:Sn 4 B n0 vl (l.map fmC))(hfk:l[k]?=some f)(hb:Tx B n0 vb before)(hbl:before.length=g.length)(hbq:∀q∈before,Qb 2400 q)(hfv:chkNum f.val=0)(a0:r0.get 0=some vg)(a1:r0.get 1=some vl)(a7:r0.get 7=some vb)(a8:r0.get 8=some (.int .i64 k)):
  ∀m r st,(∀t,inD [(4,5),(9,11),(21,42)] t=false→r.get t=r0.get t)→Fx [(4,5),(9,11),(21,42)] r0 49 ⟨r,49,[]⟩→RrI nB B n0 g (fmQ f) before m r st→Code A.C none A.lb50_0 ⟨r,49,[]⟩ st (Rd [(4,5),(9,11),(21,42)] r0 49 (RrI nB B n0 g (fmQ f) before) m (fun e r st=>Zaa nB st.w=[]∧Keeps B n0 st.h st.n∧((e=.exit 2∧RrI nB B n0 g (fmQ f) before 0 r st)∨(e=.ret∧Zmr g (fmQ f) before g.length=none∧r.get 4=some .nilslice∧r.get 5=some (.int .i64 4))))):=by
 rintro m r ⟨H,n1,W⟩ hr hf ⟨hW,hK,i,now,u,hi,h10,h9,hrow,hnl,hO,hNq⟩
 simp only at hW hK hO
 rw[Zai]
 have leK:=hK.le
 have lg:=hg.len
 have g16:=hG.v.le
 cases m with
 |zero=>
  obtain rfl:i=g.length:=by omega
  simp(disch:=first|(simp;done)|omega|rfl) [-getElem?_pos,A.lb50_0,hr,hf,h10,a0,lg]
  exact⟨hW,hK,hW,hK,g.length,now,u,by omega,by simp[h10],by simp[h9],hrow,hnl,hO,hNq⟩
 |succ m=>
  have hlt:i<g.length:=by omega
  have hlt':(i:Int)<(g.length:Int):=by omega
  obtain⟨s,hsi⟩:=Zag hlt
  have hsm:=Yti hsi
  have hkl:=Zar hfk
  have hkl':(k:Int)<(l.length:Int):=by omega
  have hlv:=hs.len
  rw[Ytx]at hlv
  obtain⟨i0,o0,c0,e0,rw0,q1,q2,q3,q4⟩:=(hs.keepz hK).at (show (l.map fmC)[k]?=some (fmC f) by rw[Ytl,hfk];rfl)
  have hls:(fmC f).length=4:=rfl
  have hnow:Tx H n1 u now:=(Ybp hO).1
  simp(disch:=first|(simp;done)|omega|rfl) [-getElem?_pos,A.lb50_0,hr,hf,h10,h9,a0,a1,a7,a8,lg,hlt,hlt',hlv,hkl,hkl',q1,q2,q3,q4,hls]
  refine Zaf (Yfq (hg.keep hK) hG hsi (hfl s hsm) hnow hnl (hb.keep hK) hbl hfv hNq hbq) ?_
  rintro _ H2 n2 k2 rfl
  have le2:=k2.le
  have hQ:Qb 40000 (Zoa g s (fmQ f) (before[i]?.getD 0) now before):=Ykc hG hsm (Zjr (Yee hfv)) (Znf hbq i) hNq hbq
  have hlg:=fun st=>Yc2 (q:=Zoa g s (fmQ f) (before[i]?.getD 0) now before) (st:=st) (by have:=Yin hQ;omega)
  cases hbig:Zz2 (Zoa g s (fmQ f) (before[i]?.getD 0) now before)with
  |true=>
   have hnone:Zmr g (fmQ f) before (i+1)=none:=by
    rw[Zmr,hrow]
    simp only[hsi]
    exact Ytg hbig
   rw[Ytg hbig]at hlg
   simp(disch:=first|(simp;done)|omega|rfl) [-getElem?_pos,hlg,Zae,hf]
   exact⟨hW,hK.trans k2,Zjx hnone (by omega)⟩
  |false=>
   have hsome:Zmr g (fmQ f) before (i+1)=some (now++[Zoa g s (fmQ f) (before[i]?.getD 0) now before]):=by
    rw[Zmr,hrow]
    simp only[hsi]
    rw[Yte (by rw[hbig];simp)]
   rw[Yte (by rw[hbig];simp)]at hlg
   generalize hx:Zoa g s (fmQ f) (before[i]?.getD 0) now before=x at*
   have kX:Keeps H2 n2 (H2.set n2 (.cells [.str (Za0 x)] 46 true)) (n2+1):=Keeps.refl.new _
   obtain⟨v',h',w',f1,f2,f3,_,f5⟩:=Za9 (x:=[.str (Za0 x)]) (u:=.slice n2 0 1 (some 1) 1) (bytes:=16) (w:=W) ((hO.keep k2).keep kX) (by omega) (by decide) rfl (by simp[Zau,St.row,slc]) (by simp[tx,strs];omega)
   have sp1:splice [V.str []] 0 [.str (Za0 x)]=[.str (Za0 x)]:=rfl
   simp(disch:=first|(simp;done)|omega|rfl) [-getElem?_pos,hr,hf,h9,h10,hlg,Zae,sp1,Za3,f1]
   have hWn:Zaa nB w'=[]:=Zgh fun j hj=>by
    apply Yu0
    intro hc
    have h1:=(Zb8 w' n0 j (by omega)).2 hj
    rw[f2]at h1
    have h2:=(Zb8 W nB j hc).2 (Zgj h1).1
    rw[hW]at h2
    simp at h2
   refine⟨m,by omega,hWn,((hK.trans k2).trans kX).then f3,i+1,_,v',by omega,by simp,by simp,hsome,by simp[hnl],by rw[Ynr];exact f5,fun q hq=>?_⟩
   rcases Yt9.1 hq with hq|hq
   ·exact hNq q hq
   ·obtain rfl:q=x:=by simpa using hq
    exact Zjr hbig
set_option maxHeartbeats 8000000
def MtO.push2{N0:Nat}{h:T O}{N:Nat}{v u x:V}{m:List (List Rat)}{l:List Rat}{w:List Nat}(s:MtO N0 h N v m)(hu:TxT h N u l)(hN:N0≤N)(hx:Zau ⟨h,N,w⟩ 1 x=some (1,[u]))(hm:m.length<100000):
  ∃v' h' w',Zbg ⟨h,N,w⟩ 1 24 52 v x=some (v',⟨h',N+1,w'⟩)∧Zaa N0 w'=Zaa N0 w∧Keeps h N0 h' (N+1)∧MtO N0 h' (N+1) v' (m++[l])∧TxT h' (N+1) u l:=by
 obtain⟨us,h1,h2,h3,h4⟩:=s
 obtain⟨v',h',w',f1,f2,f3,f4,fD,f5⟩:=Zdf (Y:=fun _=>True) (x:=[u]) (u:=x) (bytes:=24) (w:=w) h1 (fun h0=>h2 (List.map_eq_nil_iff.1 h0)) (fun _ _ _ _=>trivial) hN (by decide) rfl hx (by rw[Ytx];omega)
 refine⟨v',h',w',f1,f2,f3,⟨us++[u],by simpa using f5,by simp,by simp[h3],fun j r hr=>?_⟩,hu.moved f4 fD (by simp)⟩
 by_cases hj:j<m.length
 ·rw[Yt2 hj]at hr
  obtain⟨u',g1,g2⟩:=h4 j r hr
  exact⟨u',by rw[Yt2 (by omega)];exact g1,g2.moved f4 fD (by simp)⟩
 ·rw[Yud (by omega)]at hr
  cases hd:j-m.length with
  |zero=>
   rw[hd]at hr
   simp at hr
   subst hr
   exact⟨u,by rw[Yud (by omega),h3,hd];rfl,hu.moved f4 fD (by simp)⟩
  |succ d=>rw[hd]at hr;simp at hr
structure RoI (nB:Nat) (B:T O) (n0:Nat) (g:List Stg) (fs:List Rat) (m:Nat) (r:T V) (st:St):Prop where
 w:Zaa nB st.w=[]
 keep:Keeps B n0 st.h st.n
 ex:∃(k:Nat) (out:List (List Rat)) (before:List Rat) (ov bv:V),k+m=fs.length∧r.get 8=some (.int .i64 k)∧r.get 6=some ov∧r.get 7=some bv∧Zp0 g fs k=some (out,before)∧MtO n0 st.h st.n ov out∧TxT st.h st.n bv before∧before.length=g.length∧(∀q∈before,Qb 2400 q)∧out.length=k
def Ybd{nB:Nat}{B:T O}{n0:Nat}{vg vl:V}{g:List Stg}{l:List FmR}{r0:T V}(hBn:nB≤n0)(hg:Gr B n0 vg g)(hG:OkG g)(hfl:∀s∈g,s.factor.length≤20)(hs:Sn 4 B n0 vl (l.map fmC))(hv:∀f∈l,chkNum f.val=0)(hl:l.length≤1000)(a0:r0.get 0=some vg)(a1:r0.get 1=some vl):
  ∀m r st,(∀t,inD [(4,11),(15,47)] t=false→r.get t=r0.get t)→Fx [(4,11),(15,47)] r0 49 ⟨r,49,[]⟩→RoI nB B n0 g (l.map fmQ) m r st→Code A.C none A.lb50_1 ⟨r,49,[]⟩ st (Rd [(4,11),(15,47)] r0 49 (RoI nB B n0 g (l.map fmQ)) m (fun e r st=>Zaa nB st.w=[]∧Keeps B n0 st.h st.n∧((e=.exit 0∧RoI nB B n0 g (l.map fmQ) 0 r st)∨(e=.ret∧Zp0 g (l.map fmQ) (l.map fmQ).length=none∧r.get 4=some .nilslice∧r.get 5=some (.int .i64 4))))):=by
 rintro m r ⟨H,n1,W⟩ hr hf ⟨hW,hK,k,out,before,ov,bv,hk,h8,h6,h7,hout,hO,hB,hbl,hbq,hol⟩
 simp only at hW hK hO hB
 rw[Zai]
 have leK:=hK.le
 have lfs:(l.map fmQ).length=l.length:=Ytx ..
 have hlv:=hs.len
 rw[Ytx]at hlv
 cases m with
 |zero=>
  obtain rfl:k=l.length:=by omega
  simp(disch:=first|(simp;done)|omega|rfl) [-getElem?_pos,A.lb50_1,hr,hf,h8,a1,hlv]
  exact⟨hW,hK,hW,hK,_,out,before,ov,bv,by omega,by simp[h8],by simp[h6],by simp[h7],hout,hO,hB,hbl,hbq,hol⟩
 |succ m=>
  have g16:=hG.v.le
  have hlt:k<l.length:=by omega
  have hlt':(k:Int)<(l.length:Int):=by omega
  obtain⟨f,hfk⟩:=Zag hlt
  have hv1:=hv f (Yti hfk)
  simp(disch:=first|(simp;done)|omega|rfl) [-getElem?_pos,A.lb50_1,hr,hf,h8,a1,hlv,hlt,hlt']
  refine Zah [(4,5),(9,11),(21,42)] (fun e r st=>Zaa nB st.w=[]∧Keeps H n1 st.h st.n∧((e=.exit 2∧RrI nB H n1 g (fmQ f) before 0 r st)∨(e=.ret∧Zmr g (fmQ f) before g.length=none∧r.get 4=some .nilslice∧r.get 5=some (.int .i64 4)))) (RrI nB H n1 g (fmQ f) before) g.length ?_ (Ya7 (vg:=vg) (vl:=vl) (vb:=bv) (l:=l) (k:=k) (by omega) (hg.keep hK) hG hfl (hs.keepz hK) hfk hB.1 hbl hbq hv1 (by simp[hr,a0]) (by simp[hr,a1]) (by simp[h7]) (by simp[h8])) ?_
  ·exact⟨by simp[hW],Keeps.refl,0,[],_,by omega,by simp,by simp,rfl,rfl,Own.nil,by simp⟩
  ·rintro e r2 ⟨H6,n6,W6⟩ hr2 ⟨hW6,hK6,⟨rfl,_,_,i,now,u,hi,h10,h9,hrow,hnl,hN,hNq⟩|⟨rfl,hnone,h4,h5⟩⟩
   ·have hfi:=hf.inner (D':=[(4,5),(9,11),(21,42)]) rfl (by simp) hr2
    simp only at hW6 hK6 hN
    obtain rfl:i=g.length:=by omega
    have le6:=hK6.le
    have hT:=Ybp hN
    have hone:=hT.1.form.one
    have hcel:=hT.1.form.cells
    have hfk2:(l.map fmQ)[k]?.getD 0=fmQ f:=by rw[Ytl,hfk];rfl
    have hout2:Zp0 g (l.map fmQ) (k+1)=some (out++[now],now):=by
     rw[Zp0,hout]
     simp only[hfk2,hrow]
    have kX:Keeps H6 n6 (H6.set n6 (.cells [u] 52 true)) (n6+1):=Keeps.refl.new _
    obtain⟨v',h',w',f1,f2,f3,f4,f6⟩:=MtO.push2 (w:=W6) (x:=.slice n6 0 1 (some 1) 1) ((hO.keep hK6).keep kX) (hT.keep kX) (by omega) (by simp[Zau,St.row,slc]) (by omega)
    have sp1:splice [V.nilslice] 0 [u]=[u]:=rfl
    simp(disch:=first|(simp;done)|omega|rfl) [-getElem?_pos, -V.cells, -V.one,hr,hr2,h6,h9,h8,hfi,hone,hcel,sp1,Za3,f1]
    have hWn:Zaa nB w'=[]:=Zgh fun i hi=>by
     apply Yu0
     intro hc
     have h1:=(Zb8 w' n0 i (by omega)).2 hi
     rw[f2]at h1
     have h2:=(Zb8 W6 nB i hc).2 (Zgj h1).1
     rw[hW6]at h2
     simp at h2
    exact⟨m,by omega,hWn,((hK.trans hK6).trans kX).then f3,k+1,_,now,_,_,by omega,by simp,by simp,by simp,hout2,f4,f6,hnl,hNq,by simp[hol]⟩
   ·have hfi:=hf.inner (D':=[(4,5),(9,11),(21,42)]) rfl (by simp) hr2
    simp only at hW6 hK6
    have hn2:Zp0 g (l.map fmQ) (k+1)=none:=by
     have hfk2:(l.map fmQ)[k]?.getD 0=fmQ f:=by rw[Ytl,hfk];rfl
     rw[Zp0,hout]
     simp only[hfk2,hnone]
    simp(disch:=first|(simp;done)|omega|rfl) [-getElem?_pos,hr,hr2,h4,h5,hfi]
    exact⟨hW6,hK.trans hK6,by have:=Zmz hn2 (j:=(l.map fmQ).length) (by omega);rwa [lfs]at this⟩
def Yf0{h:T O}{N:Nat}{u v:V}{g:List Stg}{l:List FmR}(hg:Gr h N u g)(hG:OkG g)(hfl:∀s∈g,s.factor.length≤20)(hs:Sn 4 h N v (l.map fmC))(hv:∀f∈l,chkNum f.val=0)(hl:l.length≤1000):Fn A.C 50 [u,v] h N (fun x h' n'=>(outQ g l=none∧x=.tup [.nilslice,.int .i64 4])∨∃z out,outQ g l=some out∧x=.tup [z,.int .i64 0]∧TxM h' n' z out∧out.length=l.length):=by
 intro w
 have g16:=hG.v.le
 have g0:=hG.ne
 have lg:=hg.len
 have lfs:(l.map fmQ).length=l.length:=Ytx ..
 rw[Zad,A.k50 (by simp)]
 simp(disch:=first|(simp;done)|omega|rfl) [-getElem?_pos,A.b50,lg]
 refine Zaf (Ya2 (n:=g.length) g0 (by omega)) ?_
 rintro x H2 n2 k2 hx
 have le2:=k2.le
 have e0:((List.range g.length).map fun _=>(0:Rat))=g.map fun _=>0:=by rw[List.map_const',List.map_const',List.length_range]
 rw[e0]at hx
 simp(disch:=first|(simp;done)|omega|rfl) [-getElem?_pos,]
 refine Zah [(4,11),(15,47)] (fun e r st=>Zaa N st.w=[]∧Keeps H2 n2 st.h st.n∧((e=.exit 0∧RoI N H2 n2 g (l.map fmQ) 0 r st)∨(e=.ret∧Zp0 g (l.map fmQ) (l.map fmQ).length=none∧r.get 4=some .nilslice∧r.get 5=some (.int .i64 4)))) (RoI N H2 n2 g (l.map fmQ)) l.length ?_ (Ybd (vg:=u) (vl:=v) (by omega) (hg.keep k2) hG hfl (hs.keepz k2) hv hl (by simp) (by simp)) ?_
 ·exact⟨by simp[Zgh],Keeps.refl,0,[],_,_,_,by omega,by simp,by simp,by simp,rfl,MtO.nil,hx,by simp,fun q hq=>by
   obtain⟨_,_,rfl⟩:=Yur.1 hq
   exact Qb.zero.mono (by decide),rfl⟩
 ·rintro e r ⟨H,n,W⟩ hr ⟨hW,hK,⟨rfl,_,_,k,out,before,ov,bv2,hk,h8,h6,h7,hout,hO,hB,hbl,hbq,hol⟩|⟨rfl,hnone,h4,h5⟩⟩
  ·simp only at hW hK hO
   obtain rfl:k=l.length:=by omega
   simp(disch:=first|(simp;done)|omega|rfl) [-getElem?_pos,hr,h6,Ret]
   exact⟨hW,k2.trans hK,_,out,by unfold outQ;rw[hout];rfl,rfl,hO.txm,hol⟩
  ·simp only at hW hK
   rw[lfs]at hnone
   simp(disch:=first|(simp;done)|omega|rfl) [-getElem?_pos,hr,h4,h5,Ret]
   exact⟨hW,k2.trans hK,by unfold outQ;rw[hnone];rfl⟩
variable {N:Nat} {h:T O}
set_option maxHeartbeats 8000000
noncomputable def A.w12:=A.q Tryz.f12
noncomputable def A.lb12_0:=A.ql A.w12 0 []
noncomputable def A.b12:=(fun x0=>A.qb A.w12 [x0]) A.lb12_0
def A.k12:=@A.kk 12 19 [.tmp 2] A.b12 (by kernel_rfl) rfl
noncomputable def A.w14:=A.q Tryz.f14
noncomputable def A.lb14_0:=A.ql A.w14 0 []
noncomputable def A.b14:=(fun x0=>A.qb A.w14 [x0]) A.lb14_0
def A.k14:=@A.kk 14 77 [.tmp 2] A.b14 (by kernel_rfl) rfl
def Zky{v:V}{l:List Int}{w:List Nat}(hs:Sl h N v (dI l))(hl:l.length<1000):A.C.call (.func 12 [] []) [v] ⟨h,N,w⟩=some (.int .i64 (Zak l),⟨h,N,w⟩):=by
 apply Call.eq
 have hlen:=hs.len
 rw[Zat]at hlen
 rw[Zad,A.k12 (by simp)]
 simp(disch:=first|(simp;done)|omega|rfl) [-getElem?_pos,A.b12]
 refine Zah [(2,18)] (fun e r st=>st=⟨h,N,[]⟩∧((e=.exit 0∧Zak l=0)∨(e=.ret∧r.get 2=some (.int .i64 (Zak l))))) (fun m r st=>st=⟨h,N,[]⟩∧∃k,k+m=l.length∧r.get 3=some (.int .i64 k)∧Zak l=Zak (l.drop k)) l.length ?_ ?_ ?_
 ·exact⟨rfl,0,by omega,by simp,by simp⟩
 ·rintro m r _ hr hf ⟨rfl,k,hk,h7,hz⟩
  rw[Zai]
  cases m with
  |zero=>
   obtain rfl:k=l.length:=by omega
   rw[Yug,Zak]at hz
   simp(disch:=first|(simp;done)|omega|rfl) [-getElem?_pos,A.lb12_0,hr,hf,h7,hlen,hz]
  |succ m=>
   have hlt:k<l.length:=by omega
   obtain⟨c,hc⟩:=Zag hlt
   obtain⟨i,o,cc,e,rw,q1,q2,q3,q4⟩:=hs.at (Zbl hc)
   rw[Zao hc,Zak]at hz
   have hk1:(k:Int)<(l.length:Int):=by omega
   by_cases h0:c=0
   ·rw[Ytg h0]at hz
    simp(disch:=first|(simp;done)|omega|rfl) [-getElem?_pos,A.lb12_0,hr,hf,h7,hk1,hlt,hlen,q1,q3,q4,Zae,h0]
    exact⟨m,by omega,k+1,by omega,by simp,hz⟩
   ·rw[Yte h0]at hz
    simp(disch:=first|(simp;done)|omega|rfl) [-getElem?_pos,A.lb12_0,hr,hf,h7,hk1,hlt,hlen,q1,q3,q4,Zae,h0,hz]
 ·rintro _ r _ hr ⟨rfl,⟨rfl,hz⟩|⟨rfl,h2⟩⟩
  ·simp(disch:=first|(simp;done)|omega|rfl) [-getElem?_pos,hr,hz]
  ·simp(disch:=first|(simp;done)|omega|rfl) [-getElem?_pos,hr,h2]
def Yf5{i:Nat}{w:List Nat}{a0 a1 a2 a3:Int}(hi:i<N):A.C.call (.func 12 [] []) [.slice i 0 4 (some 4) 1] ⟨h.set i (.cells [.int .i64 a0,.int .i64 a1,.int .i64 a2,.int .i64 a3] 3 true),N,w⟩=some (.int .i64 (Zak [a0,a1,a2,a3]),⟨h.set i (.cells [.int .i64 a0,.int .i64 a1,.int .i64 a2,.int .i64 a3] 3 true),N,w⟩):=
 Zky (l:=[a0,a1,a2,a3]) (Sl.row (e:=3) (rw:=true) (cp:=some 4) hi (by simp[dI]) rfl (by simp)) (by simp)
def Zjt{c l:List V}{o n j:Nat}(h:slc c o n=some l)(hj:j<n):c[o+j]?=l[j]?:=by
 unfold slc at h
 split at h
 ·obtain rfl:=Yt4 h
  rw[List.getElem?_take_of_lt hj,Ytp]
 ·cases h
def Ys1{a b c d e:Int}:Zak [a,b,c,d,e]=if Zak [a,b,c,d]=0 then e else Zak [a,b,c,d]:=by
 simp only[Zak]
 by_cases h1:a=0
 ·by_cases h2:b=0
  ·by_cases h3:c=0
   ·by_cases h4:d=0
    ·by_cases h5:e=0<;>simp[h1,h2,h3,h4,h5]
    ·simp[h1,h2,h3,h4]
   ·simp[h1,h2,h3]
  ·simp[h1,h2]
 ·simp[h1]
def Yku{v:V}{l:List FmR}(hs:Sn 4 h N v (l.map fmC))(hv:∀f∈l,f.val.length≤100000)(hl:l.length<100000):Fn A.C 14 [v] h N (fun u _ _=>u=.int .i64 (Zcg l)):=by
 intro w
 have hlv:=hs.len
 rw[Ytx]at hlv
 rw[Zad,A.k14 (by simp)]
 by_cases h256:256<l.length
 ·have h256':(256:Int)<(l.length:Int):=by omega
  simp(disch:=first|(simp;done)|omega|rfl) [-getElem?_pos,A.b14,hlv,h256,h256',Ret,Zcg]
  exact Keeps.refl
 ·have h256':¬(256:Int)<(l.length:Int):=by omega
  have hc:Zcg l=Zak ((List.range l.length).map (frE l)):=Yte h256
  rw[hc]
  simp(disch:=first|(simp;done)|omega|rfl) [-getElem?_pos,A.b14,hlv,h256,h256']
  refine Zah [(2,4),(8,76)] (fun e r st=>Zaa N st.w=[]∧Keeps h N st.h st.n∧((e=.exit 0∧∀j,j<l.length→frE l j=0)∨(e=.ret∧∃k,k<l.length∧(∀j,j<k→frE l j=0)∧frE l k≠0∧r.get 2=some (.int .i64 (frE l k))))) (fun m r st=>Zaa N st.w=[]∧Keeps h N st.h st.n∧∃k,k+m=l.length∧r.get 3=some (.int .i64 k)∧∀j,j<k→frE l j=0) l.length ?_ ?_ ?_
  ·exact⟨by simp,Keeps.refl,0,by omega,by simp,by omega⟩
  ·rintro m r ⟨H,n1,W⟩ hr hf ⟨hW,hK,k,hk,h12,hz⟩
   simp only at hW hK
   rw[Zai]
   have leK:=hK.le
   cases m with
   |zero=>
    obtain rfl:k=l.length:=by omega
    simp(disch:=first|(simp;done)|omega|rfl) [-getElem?_pos,A.lb14_0,hr,hf,h12,hlv,hW,hK]
    exact hz
   |succ m=>
    have hlt:k<l.length:=by omega
    have hlt':(k:Int)<(l.length:Int):=by omega
    obtain⟨f,hfk⟩:=Zag hlt
    have hfl:=hv f (Yti hfk)
    have hpl:k-1<l.length:=by omega
    have hpl':((k-1:Nat):Int)<(l.length:Int):=by omega
    obtain⟨p,hpk⟩:=Zag hpl
    obtain⟨i0,o0,c0,e0,rw0,q1,q2,q3,q4⟩:=hs.at (show (l.map fmC)[k]?=some (fmC f) by rw[Ytl,hfk];rfl)
    obtain⟨i1,o1,c1,e1,rw1,p1,p2,p3,p4⟩:=hs.at (show (l.map fmC)[k-1]?=some (fmC p) by rw[Ytl,hpk];rfl)
    rw[q1]at p1
    simp only[Ytc,Yth]at p1
    obtain⟨rfl,rfl⟩:=p1
    rw[q3]at p3
    simp only[Ytc,O.cells.injEq]at p3
    obtain⟨rfl,rfl,rfl⟩:=p3
    have u0:c0[o0+k*4]?=some (.int .i64 f.n):=Zjt (j:=0) q4 (by decide)
    have u1:c0[o0+k*4+1]?=some (.int .i64 f.a):=Zjt q4 (by decide)
    have u2:c0[o0+k*4+2]?=some (.int .i64 f.d):=Zjt q4 (by decide)
    have u3:c0[o0+k*4+3]?=some (.str f.val):=Zjt q4 (by decide)
    have v0:c0[o0+(k-1)*4]?=some (.int .i64 p.n):=Zjt (j:=0) p4 (by decide)
    have v1:c0[o0+(k-1)*4+1]?=some (.int .i64 p.a):=Zjt p4 (by decide)
    have g0:=(hK.get i0 q2).trans q3
    have gl:i0<n1:=by omega
    simp(disch:=first|(simp;done)|omega|rfl) [-getElem?_pos,A.lb14_0,hr,hf,h12,hlv,hlt,hlt',q1,q2,g0,gl,u0,u1,u2,u3,Zd3]
    refine Zaf (Zmv hfl) ?_
    rintro _ H4 n4 k4 rfl
    have le4:=k4.le
    have g4:=(k4.get i0 gl).trans g0
    have gl4:i0<n4:=by omega
    have gl5:¬i0=n4:=by omega
    have gl6:i0<n4+1:=by omega
    have kX:∀c,Keeps h N (H4.set n4 (.cells c 3 true)) (n4+1):=fun c=>((hK.trans k4).new _)
    have hgd:(l[k-1]?).getD f=p:=by rw[hpk];rfl
    have efr:frE l k=Zak [wz f.n 1 999999999,wz f.a 0 100000000,wz f.d 0 100000000,((chkNum f.val:Nat):Int),Zx6 l k f]:=by
     unfold frE
     rw[hfk]
    rw[Ys1]at efr
    have eor:Zx6 l k f=if 0<k∧(f.n≤p.n∨f.a<p.a) then 11 else 0:=by
     unfold Zx6
     rw[hgd]
    have w3:¬n4<N:=by omega
    have hz2:frE l k=0→∀j,j<k+1→frE l j=0:=fun h0 j hj=>by
     by_cases e:j=k
     ·subst e;exact h0
     ·exact hz j (by omega)
    have pf:=fun w=>Yf5 (h:=H4) (N:=n4+1) (i:=n4) (w:=w) (a0:=wz f.n 1 999999999) (a1:=wz f.a 0 100000000) (a2:=wz f.d 0 100000000) (a3:=((chkNum f.val:Nat):Int)) (by omega)
    generalize hE:Zak [wz f.n 1 999999999,wz f.a 0 100000000,wz f.d 0 100000000,((chkNum f.val:Nat):Int)]=E at*
    unfold wz at pf
    by_cases hE0:E=0
    ·rw[Ytg hE0]at efr
     by_cases k0:0<k
     ·have k0':(0:Int)<(k:Int):=by omega
      have hk1:(k:Int)-1=((k-1:Nat):Int):=by omega
      by_cases c1:f.n≤p.n
      ·have ho:frE l k=11:=by rw[efr,eor,Ytg ⟨k0,.inl c1⟩]
       simp(disch:=first|(simp;done)|omega|rfl) [-getElem?_pos,hr,hf,h12,hlv,splice,pf,hE0,Zae,k0,k0',hk1,hlt,hlt',hpl,hpl',q1,g4,gl4,gl5,gl6,u0,u1,v0,v1,c1,hW]
       exact⟨kX _,k,hlt,hz,by rw[ho];decide,ho.symm⟩
      ·by_cases c2:f.a<p.a
       ·have ho:frE l k=11:=by rw[efr,eor,Ytg ⟨k0,.inr c2⟩]
        simp(disch:=first|(simp;done)|omega|rfl) [-getElem?_pos,hr,hf,h12,hlv,splice,pf,hE0,Zae,k0,k0',hk1,hlt,hlt',hpl,hpl',q1,g4,gl4,gl5,gl6,u0,u1,v0,v1,c1,c2,hW]
        exact⟨kX _,k,hlt,hz,by rw[ho];decide,ho.symm⟩
       ·have ho:frE l k=0:=by rw[efr,eor,Yte (by rintro⟨_,h|h⟩<;>omega)]
        simp(disch:=first|(simp;done)|omega|rfl) [-getElem?_pos,hr,hf,h12,hlv,splice,pf,hE0,Zae,k0,k0',hk1,hlt,hlt',hpl,hpl',q1,g4,gl4,gl5,gl6,u0,u1,v0,v1,c1,c2,hW]
        exact⟨m,by omega,kX _,k+1,by omega,by simp,hz2 ho⟩
     ·have k0':¬(0:Int)<(k:Int):=by omega
      have ho:frE l k=0:=by rw[efr,eor,Yte (by rintro⟨h,_⟩;omega)]
      simp(disch:=first|(simp;done)|omega|rfl) [-getElem?_pos,hr,hf,h12,hlv,splice,pf,hE0,Zae,k0,k0',hW]
      exact⟨m,by omega,kX _,k+1,by omega,by simp,hz2 ho⟩
    ·rw[Yte hE0]at efr
     simp(disch:=first|(simp;done)|omega|rfl) [-getElem?_pos,hr,hf,h12,hlv,splice,pf,hE0,Zae,hW]
     exact⟨kX _,k,hlt,hz,by rw[efr];exact hE0,efr.symm⟩
  ·rintro e r ⟨H,n,W⟩ hr ⟨hW,hK,⟨rfl,hz⟩|⟨rfl,k,hk,hz,h0,h2⟩⟩
   ·simp only at hW hK
    simp(disch:=first|(simp;done)|omega|rfl) [-getElem?_pos,hr,Ret,Zk2 hz]
    exact⟨hW,hK⟩
   ·simp only at hW hK
    simp(disch:=first|(simp;done)|omega|rfl) [-getElem?_pos,hr,h2,Ret,Zww hk hz h0]
    exact⟨hW,hK⟩
noncomputable def A.w10:=A.q Tryz.f10
noncomputable def A.lb10_0:=A.ql A.w10 0 []
noncomputable def A.b10:=(fun x0=>A.qb A.w10 [x0]) A.lb10_0
def A.c10:A.F 10=some ⟨18,[.tmp 2],A.b10⟩:=by kernel_rfl
def A.k10:=@A.kk 10 _ _ _ A.c10 rfl
noncomputable def A.w23:=A.q Tryz.f23
noncomputable def A.lb23_0:=A.ql A.w23 0 []
noncomputable def A.b23:=(fun x0=>A.qb A.w23 [x0]) A.lb23_0
def A.k23:=@A.kk 23 26 [.tmp 4] A.b23 (by kernel_rfl) rfl
def Ydj{h:T O}{N:Nat}{v:V}{l:List FmR}(hs:Sn 4 h N v (l.map fmC))(hl:l.length<1000):Fn A.C 10 [v] h N (fun u h' n'=>Sn 4 h' n' u (l.map fmC)):=by
 intro w
 have hlv:=hs.len
 rw[Ytx]at hlv
 rw[Zad,A.k10 (by simp)]
 simp(disch:=first|(simp;done)|omega|rfl) [-getElem?_pos,A.b10,hlv]
 refine Zah [(3,3),(5,5),(8,16)] (fun e r st=>e=.exit 0∧Zaa N st.w=[]∧Keeps h N st.h st.n∧∃u,r.get 3=some u∧Own 4 56 N st.h st.n u (l.map fmC)) (fun m r st=>Zaa N st.w=[]∧Keeps h N st.h st.n∧∃k u,k+m=l.length∧r.get 8=some (.int .i64 k)∧r.get 3=some u∧Own 4 56 N st.h st.n u ((l.take k).map fmC)) l.length ?_ ?_ ?_
 ·exact⟨by simp,Keeps.refl,0,.nilslice,by omega,by simp,by simp,Own.nil⟩
 ·rintro m r ⟨H,n1,W⟩ hr hf ⟨hW,hK,k,u,hk,h8,h3,hO⟩
  simp only at hW hK hO
  rw[Zai]
  have le:=hK.le
  cases m with
  |zero=>
   obtain rfl:k=l.length:=by omega
   rw[Yuf]at hO
   simp(disch:=first|(simp;done)|omega|rfl) [-getElem?_pos,A.lb10_0,hr,hf,h8,h3,hW,hK]
   exact hO
  |succ m=>
   have hlt:k<l.length:=by omega
   have hlt':(k:Int)<(l.length:Int):=by omega
   obtain⟨f,hfk⟩:=Zag hlt
   obtain⟨i0,o0,c0,e0,rw0,q1,q2,q3,q4⟩:=(hs.keepz hK).at (show (l.map fmC)[k]?=some (fmC f) by rw[Ytl,hfk];rfl)
   have hcs:(V.agg (fmC f)).cells=fmC f:=rfl
   have hls:(fmC f).length=4:=rfl
   have hos:(fmC f).all V.one=true:=rfl
   have sps:splice [V.int .i64 0,.int .i64 0,.int .i64 0,.str []] 0 (fmC f)=fmC f:=rfl
   have sl4:slc (fmC f) 0 4=some (fmC f):=rfl
   have d1:¬i0=n1:=by omega
   have kD:Keeps H n1 (((H.set n1 (.cells [.int .i64 0,.int .i64 0,.int .i64 0,.str []] 51 true)).set n1 (.cells (fmC f) 51 true)).set (n1+1) (.cells (fmC f) 56 true)) (n1+1+1):=((Keeps.refl.new _).set (Ytf _)).new _
   obtain⟨v',h',w',j1,j2,j3,_,j5⟩:=Za9 (x:=fmC f) (u:=.slice (n1+1) 0 1 (some 1) 4) (bytes:=40) (w:=n1::W) (hO.keep kD) (by omega) (by decide) rfl (by simp[Zau,St.row,slc,fmC]) (by simp;omega)
   have e:(l.take (k+1)).map fmC=(l.take k).map fmC++[fmC f]:=by rw[Yt8,hfk,List.map_append];rfl
   rw[←e]at j5
   have z1:¬n1<N:=by omega
   have hWn:Zaa N w'=[]:=by rw[j2];simp[Zaa,hW,z1]
   simp(disch:=first|(simp;done)|omega|rfl) [-getElem?_pos, -V.cells, -V.one,A.lb10_0,hr,hf,h8,h3,hlv,hlt,hlt',q1,q2,q3,q4,hcs,hls,hos,sps,sl4,Zal,d1,Za3,j1]
   exact⟨m,by omega,hWn,(hK.trans kD).then j3,k+1,by omega,by simp,by rw[←List.map_take];exact j5⟩
 ·rintro _ r ⟨H,n1,W⟩ hr ⟨rfl,hW,hK,u,h3,hO⟩
  simp only at hW hK hO
  simp(disch:=first|(simp;done)|omega|rfl) [-getElem?_pos,hr,h3,Ret,hW,hK]
  exact hO.sn
def Yfk{h:T O}{N:Nat}{u v:V}{l m:List Str}{w:List Nat}(hu:Sl h N u (strs l))(hv:Sl h N v (strs m))(hl:l.length<1000000000):A.C.call (.func 23 [] []) [u,v] ⟨h,N,w⟩=some (.bool (decide (l=m)),⟨h,N,w⟩):=by
 apply Call.eq
 have l1:=hu.len
 have l2:=hv.len
 rw[Za7]at l1 l2
 rw[Zad,A.k23 (by simp)]
 by_cases hlm:l.length=m.length
 ·have hlm':(l.length:Int)=(m.length:Int):=by omega
  simp(disch:=first|(simp;done)|omega|rfl) [-getElem?_pos,A.b23,l1,l2,hlm,hlm',Zae]
  refine Zah [(4,5),(11,25)] (fun e r st=>st=⟨h,N,[]⟩∧((e=.exit 0∧l=m)∨(e=.ret∧l≠m∧r.get 4=some (.bool false)))) (fun j r st=>st=⟨h,N,[]⟩∧∃k,k+j=l.length∧r.get 5=some (.int .i64 k)∧l.take k=m.take k) l.length ?_ ?_ ?_
  ·exact⟨rfl,0,by omega,by simp,by simp⟩
  ·rintro j r _ hr hf ⟨rfl,k,hk,h5,he⟩
   rw[Zai]
   cases j with
   |zero=>
    obtain rfl:k=l.length:=by omega
    rw[Yuf,hlm,Yuf]at he
    simp(disch:=first|(simp;done)|omega|rfl) [-getElem?_pos,A.lb23_0,hr,hf,h5,l1,l2,hlm]
    exact he
   |succ j=>
    have hlt:k<l.length:=by omega
    have hlt2:k<m.length:=by omega
    obtain⟨s,hs⟩:=Zag hlt
    obtain⟨t,ht⟩:=Zag hlt2
    obtain⟨i,o,c,e,rw,q1,q2,q3,q4⟩:=hu.at (Zbo hs)
    obtain⟨i',o',c',e',rw',p1,p2,p3,p4⟩:=hv.at (Zbo ht)
    have hk1:(k:Int)<(l.length:Int):=by omega
    have hk2:(k:Int)<(m.length:Int):=by omega
    by_cases hst:s=t
    ·subst hst
     simp(disch:=first|(simp;done)|omega|rfl) [-getElem?_pos,A.lb23_0,hr,hf,h5,l1,l2,hk1,hk2,hlt,hlt2,q1,q2,q3,q4,p1,p2,p3,p4,Zbh,Zae,Zan.chk]
     exact⟨j,by omega,k+1,by omega,by simp,by rw[Yt8,Yt8,he,hs,ht]⟩
    ·have hne:l≠m:=fun hc=>hst (by rw[hc,ht]at hs;exact(Yt4 hs).symm)
     have hb:(s==t)=false:=by simpa using hst
     have hb2:(s !=t)=true:=by simpa using hst
     simp(disch:=first|(simp;done)|omega|rfl) [-getElem?_pos,A.lb23_0,hr,hf,h5,l1,l2,hk1,hk2,hlt,hlt2,q1,q2,q3,q4,p1,p2,p3,p4,Zbh,Zae,Zan.chk,hst,hb,hb2]
     exact hne
  ·rintro _ r _ hr ⟨rfl,⟨rfl,hq⟩|⟨rfl,hq,h4⟩⟩
   ·simp(disch:=first|(simp;done)|omega|rfl) [-getElem?_pos,hr,hq]
   ·simp(disch:=first|(simp;done)|omega|rfl) [-getElem?_pos,hr,hq,h4]
 ·have hlm':¬(l.length:Int)=(m.length:Int):=by omega
  have hne:l≠m:=fun hc=>hlm (by rw[hc])
  simp(disch:=first|(simp;done)|omega|rfl) [-getElem?_pos,A.b23,l1,l2,hlm',Zae,hne]
variable {N:Nat} {h:T O} {v:V}
noncomputable def A.b39:=A.q Tryz.f39
def A.k39:=@A.kk 39 24 [.tmp 2] A.b39 (by kernel_rfl) rfl
noncomputable def A.w68:=A.q Tryz.f68
noncomputable def A.lb68_0:=A.ql A.w68 0 []
noncomputable def A.b68:=(fun x0=>A.qb A.w68 [x0]) A.lb68_0
def A.k68:=@A.kk 68 22 [.tmp 4] A.b68 (by kernel_rfl) rfl
def Yg1{f:V}{l:List V}{Q:Nat→T O→Nat→V→Prop}(Y:V→Prop)(hQ:∀j h n h' n' c u,Q j h n c→Upd (fun i=>i∈Zc8 u) h n h' n'→Zs2 29 Y h u→Q j h' n' c)(hs:Sl h N v l)(hl:l.length<1000000000)(hf:∀(j:Nat) (x:V),l[j]?=some x→∀h' n',Keeps h N h' n'→FnV A.C f [x] h' n' (fun u h2 n2=>∃y,u=y∧[y].length=1∧[y].all V.one=true∧(∀q∈[y],Y q)∧Q j h2 n2 y)):Fn A.C 68 [v,f] h N (fun u h' n'=>∃out,Own 1 29 N h' n' u out∧out.length=l.length∧∀(j:Nat),j<l.length→∃y,out[j]?=some [y]∧Q j h' n' y):=by
 intro w
 have hlen:=hs.len
 rw[Zad,A.k68 (by simp)]
 simp(disch:=first|(simp;done)|omega|rfl) [-getElem?_pos,A.b68,hlen]
 refine Zah [(5,5),(7,7),(10,20)] (fun e r st=>e=.exit 0∧Zaa N st.w=[]∧Keeps h N st.h st.n∧∃u out,r.get 5=some u∧Own 1 29 N st.h st.n u out∧out.length=l.length∧∀(j:Nat),j<l.length→∃y,out[j]?=some [y]∧Q j st.h st.n y) (fun m r st=>Zaa N st.w=[]∧Keeps h N st.h st.n∧∃k u out,k+m=l.length∧r.get 10=some (.int .i64 k)∧r.get 5=some u∧Own 1 29 N st.h st.n u out∧out.length=k∧(out=[]→u=.nilslice)∧(∀c∈out,∀y∈c,Y y)∧∀(j:Nat),j<k→∃y,out[j]?=some [y]∧Q j st.h st.n y) l.length ?_ ?_ ?_
 ·exact⟨by simp,Keeps.refl,0,.nilslice,[],by omega,by simp,by simp,Own.nil,rfl,fun _=>rfl,by simp,fun j hj=>by omega⟩
 ·rintro m r ⟨H,n1,W⟩ hr hf2 ⟨hW,hK,k,u,out,hk,h10,h5,ho,hol,hnil,hY,hout⟩
  simp only at hW hK ho hout
  rw[Zai]
  cases m with
  |zero=>
   have hkk:k=l.length:=by omega
   subst hkk
   simp(disch:=first|(simp;done)|omega|rfl) [-getElem?_pos,A.lb68_0,hr,hf2,h10,hW,hK]
   exact⟨u,h5,out,ho,hol,hout⟩
  |succ m=>
   have hlt:k<l.length:=by omega
   obtain⟨x,hx⟩:=Zag hlt
   obtain⟨i,o,cc,e,rw,q1,q2,q3,q4⟩:=(hs.keep hK).at hx
   have hk1:(k:Int)<(l.length:Int):=by omega
   have kA:=hK
   simp(disch:=first|(simp;done)|omega|rfl) [-getElem?_pos,A.lb68_0,hr,hf2,h10,h5,hk1,hlt,hlen,q1,q3,q4]
   refine Zg5 (hf k x hx _ _ kA) ?_
   rintro y h3 n3 k3 ⟨_,rfl,c1,c2,cY,c3⟩
   have kle3:=k3.le
   have kn:=hK.le
   have kB:=kA.trans k3
   have b1:V.one y=true:=by simpa using c2
   have b2:V.cells y=[y]:=by cases y<;>first|rfl|cases b1
   simp(disch:=first|(simp;done)|omega|rfl) [-getElem?_pos, -V.cells, -V.one,hr,hf2,h10,h5,b1,b2,splice]
   have ho3:Own 1 29 N (h3.set n3 (.cells [y] 29 true)) (n3+1) u out:=(ho.keep ((Keeps.refl).trans k3)).keep (Keeps.refl.new _)
   obtain⟨v',h',w',f1,f2,f3,f4,fD,f5⟩:=Zdf (Y:=Y) (x:=[y]) (u:=.slice n3 0 1 (some 1) 1) (bytes:=8) (w:=W) ho3 hnil hY (by omega) (by decide) c1 (by simp[Zau,St.row,slc]) (by omega)
   rw[f1]
   have wok:¬n1<N:=by omega
   have f6:Zaa N w'=[]:=by rw[f2];simp[Zaa,hW,wok]
   have kz:=(kB.new (.cells [y] 29 true)).then f3
   have k4:Keeps h3 n3 (h3.set n3 (.cells [y] 29 true)) (n3+1):=Keeps.refl.new _
   have hq4:Q k (h3.set n3 (.cells [y] 29 true)) (n3+1) y:=hQ _ _ _ _ _ _ .nilslice c3 k4.upd Zs2.nil
   simp(disch:=first|(simp;done)|omega|rfl) [-getElem?_pos,hr,hf2,h10,f6]
   refine⟨m,by omega,kz,k+1,by omega,by simp,out++[[y]],f5,by simp[hol],by simp,fun c' hc z hz=>?_,fun j hj=>?_⟩
   ·rcases Yt9.1 hc with hc|hc
    ·exact hY c' hc z hz
    ·simp only[Yu6]at hc;subst hc;exact cY z hz
   by_cases hjk:j<k
   ·obtain⟨y,g1,g2⟩:=hout j hjk
    exact⟨y,by rw[Yt2 (by omega)];exact g1,hQ _ _ _ _ _ _ _ (hQ _ _ _ _ _ _ .nilslice g2 (((Keeps.refl).trans k3).trans k4).upd Zs2.nil) f4 fD⟩
   ·obtain rfl:j=k:=by omega
    exact⟨y,by rw[Yud (by omega),hol];simp,hQ _ _ _ _ _ _ _ hq4 f4 fD⟩
 ·rintro _ r ⟨H,n1,W⟩ hr ⟨rfl,hW,hK,u,out,h5,ho,hol,hout⟩
  simp only at hW hK ho hout
  simp(disch:=first|(simp;done)|omega|rfl) [-getElem?_pos,hr,h5,Ret,hW,hK]
  exact⟨out,ho,hol,hout⟩
def Ybm{i:Nat}{w:List Nat}{a0 a1 a2:Int}(hi:i<N):A.C.call (.func 34 [] []) [.slice i 0 3 (some 3) 1] ⟨h.set i (.cells [.int .i64 a0,.int .i64 a1,.int .i64 a2] 29 true),N,w⟩=some (.int .i64 (Zak [a0,a1,a2]),⟨h.set i (.cells [.int .i64 a0,.int .i64 a1,.int .i64 a2] 29 true),N,w⟩):=
 Zh3 (l:=[a0,a1,a2]) (Sl.row (e:=29) (rw:=true) (cp:=some 3) hi (by simp[dI]) rfl (by simp)) (by simp)
structure Rc where
 f:Int
 t:Int
 vs:List Str
def rcC(p:Rc×V):List V:=[.int .i64 p.1.f,.int .i64 p.1.t,p.2]
def Zjy(x:Rc):Int:=Zak [if x.f<1∨999999999<x.f then 3 else 0,if x.t<0∨100000000<x.t then 3 else 0,if 16<x.vs.length then 5 else 0]
def Ze1(x:Rc):Int:=if Zjy x=0 then Zak (x.vs.map fun s=>((chkNum s:Nat):Int)) else Zjy x
def Zxz{x:Rc}{u:V}(hu:Sl h N u (strs x.vs))(hl:x.vs.length<1000)(hs:∀s∈x.vs,s.length≤100000):Fn A.C 39 [.agg [.int .i64 x.f,.int .i64 x.t,u]] h N (fun v _ _=>v=.int .i64 (Ze1 x)):=by
 intro w
 have o1:=hu.form.one
 have o2:=hu.form.cells
 unfold V.one at o1
 unfold V.cells at o2
 have hlen:=hu.len
 rw[Za7]at hlen
 have k0:Keeps h N ((h.set N (.cells [.int .i64 x.f,.int .i64 x.t,u] 73 true)).set (N+1) (.cells [.int .i64 (if x.f<1∨999999999<x.f then 3 else 0),.int .i64 (if x.t<0∨100000000<x.t then 3 else 0),.int .i64 (if 16<x.vs.length then 5 else 0)] 29 true)) (N+1+1):=(Keeps.refl.new _).new _
 have hi:(16<(x.vs.length:Int))=(16<x.vs.length):=by apply propext;omega
 rw[Zad,A.k39 (by simp)]
 simp(disch:=first|(simp;done)|omega|rfl) [-getElem?_pos,A.b39,o1,o2,hlen,splice,Zam,slc,Zfr,Zbp,Ybm,hi,Zan.chk]
 by_cases hz:Zjy x=0
 ·have hz':=hz
  unfold Zjy at hz'
  simp(disch:=first|(simp;done)|omega|rfl) [-getElem?_pos,hz',Zae,Zam]
  refine Zaf (Yg1 (l:=strs x.vs) (Q:=fun j _ _ c=>∃s,x.vs[j]?=some s∧c=.int .i64 ((chkNum s:Nat):Int)) (fun _=>True) (fun _ _ _ _ _ _ _ q _ _=>q) (hu.keep k0) (by rw[Za7];omega) ?_) ?_
  ·intro j y hy h' n' k'
   simp only[strs,Ytl,Ytn]at hy
   obtain⟨s,hs1,rfl⟩:=hy
   intro w'
   exact(Zqk (hs s (Yti hs1)) w').mono fun v st ⟨q1,q2,q3⟩=>⟨q1,q2,v,rfl,rfl,by rw[q3];rfl,fun _ _=>trivial,s,hs1,q3⟩
  ·rintro u1 h2 n2 k2 ⟨out,q1,q2,q3⟩
   rw[Za7]at q2 q3
   have hout:out=Zc7 (x.vs.map fun s=>((chkNum s:Nat):Int)):=by
    apply Yua
    intro j
    by_cases hj:j<x.vs.length
    ·obtain⟨y,g1,s,g2,rfl⟩:=q3 j hj
     rw[g1];simp[Zc7,g2]
    ·rw[Ytq (by omega),Ytq (by simp[Zc7];omega)]
   rw[hout]at q1
   have:=Zh3 (w:=[]) q1.sl (by simp;omega)
   simp(disch:=first|(simp;done)|omega|rfl) [-getElem?_pos,this,Ret,Ze1,hz]
   exact k0.trans k2
 ·have hz':=hz
  unfold Zjy at hz'
  simp(disch:=first|(simp;done)|omega|rfl) [-getElem?_pos,hz',Zae,Zam,Ret,Ze1,hz]
  exact⟨k0,rfl⟩
def RcS(h:T O)(N:Nat)(v:V)(l:List Rc):Prop:=∃cs:List (List V),Sn 3 h N v cs∧cs.length=l.length∧∀(j:Nat) (x:Rc),l[j]?=some x→∃u,cs[j]?=some (rcC (x,u))∧Sl h N u (strs x.vs)
def RcS.keep{h':T O}{N':Nat}{l:List Rc}(s:RcS h N v l)(k:Keeps h N h' N'):RcS h' N' v l:=by
 obtain⟨cs,h1,h2,h3⟩:=s
 refine⟨cs,h1.keep k,h2,fun j x hx=>?_⟩
 obtain⟨u,h4,h5⟩:=h3 j x hx
 exact⟨u,h4,h5.keep k⟩
def RcS.len{l:List Rc}(s:RcS h N v l):Zo2 v=some l.length:=by
 obtain⟨cs,h1,h2,h3⟩:=s
 rw[h1.len,h2]
def RcS.at{l:List Rc}(s:RcS h N v l){j:Nat}{x:Rc}(hj:l[j]?=some x):∃i o c e rw u,Zn2 v=some (i,o)∧i<N∧h.get i=some (.cells c e rw)∧slc c (o+j*3) 3=some (rcC (x,u))∧Sl h N u (strs x.vs):=by
 obtain⟨cs,h1,h2,h3⟩:=s
 obtain⟨u,h4,h5⟩:=h3 j x hj
 obtain⟨i,o,c,e,rw,q1,q2,q3,q4⟩:=h1.at h4
 exact⟨i,o,c,e,rw,u,q1,q2,q3,q4,h5⟩
def Zex{c:List V}{o:Nat}{x:Rc}{u:V}(h:slc c o 3=some (rcC (x,u))):Zam c o (some 3)=some (.agg (rcC (x,u)))∧c[o]?=some (.int .i64 x.f)∧c[o+1]?=some (.int .i64 x.t)∧c[o+2]?=some u:=
 ⟨Zrc h,Zf9 h (f:=0) (by omega),Zf9 h (f:=1) (by omega),Zf9 h (f:=2) (by omega)⟩
end Go.Mx
