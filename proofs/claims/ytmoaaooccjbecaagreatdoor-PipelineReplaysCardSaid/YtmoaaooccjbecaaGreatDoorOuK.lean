/-pipeline-/
import Derived.Test.YtmoaaooccjbecaaGreatDoorOuI
set_option linter.all false
namespace Go.Mx
open Go Go.Proofs
set_option maxHeartbeats 8000000
set_option maxRecDepth 1000000
structure FmR where
 n:Int
 a:Int
 d:Int
 val:Str
def fmC(f:FmR):List V:=[.int .i64 f.n,.int .i64 f.a,.int .i64 f.d,.str f.val]
def fmQ(f:FmR):Rat:=Zfj f.val
structure OtI (nB:Nat) (B:T O) (n0:Nat) (g:List Stg) (fs:List Rat) (m:Nat) (r:T V) (st:St):Prop where
 w:Zaa nB st.w=[]
 keep:Keeps B n0 st.h st.n
 ex:∃(k:Nat) (out:List (List Rat)) (before:List Rat) (ov bv:V),k+m=fs.length∧r.get 24=some (.int .i64 k)∧r.get 8=some ov∧r.get 7=some bv∧Zp0 g fs k=some (out,before)∧MfO n0 st.h st.n ov out∧FrT st.h st.n bv before∧before.length=g.length∧(∀q∈before,Qb 2400 q)∧out.length=k∧∀r∈out,r.length=g.length∧∀q∈r,Qb 2400 q
def Zmz{g:List Stg}{fs:List Rat}{i:Nat}(h:Zp0 g fs i=none):∀{j:Nat},i≤j→Zp0 g fs j=none
 |0,hj=>by
  obtain rfl:i=0:=by omega
  exact h
 |j+1,hj=>by
  by_cases e:i=j+1
  ·rw[←e];exact h
  ·rw[Zp0,Zmz h (show i≤j by omega)]
def Ye0{H:T O}{n M k:Nat}(hM:M<n)(g:H.get M=some (.cells (Zkq [.int .i64 0,.nilslice,.int .i64 0,.nilslice] k) 164 true)):Zz8 H n M k []:=by
 refine⟨hM,Yv0 _,_,g,by simp[Zkq],fun x hx m=>?_,fun j q hq=>by simp at hq⟩
 unfold Zkq at hx
 obtain⟨i,_,rfl⟩:=Yur.1 hx
 have h4:i%4=0∨i%4=1∨i%4=2∨i%4=3:=by omega
 show ([V.int .i64 0,.nilslice,.int .i64 0,.nilslice].getD (i%4) (.tup []))≠_
 rcases h4 with h|h|h|h<;>rw[h]<;>simp
def Yhg{nB:Nat}{B:T O}{n0 mp:Nat}{vg vl:V}{g:List Stg}{l:List FmR}{r0:T V}(hBn:nB≤n0)(hg:Gr B n0 vg g)(hG:OkG g)(hfl:∀s∈g,s.factor.length≤20)(hs:Sn 4 B n0 vl (l.map fmC))(hv:∀f∈l,chkNum f.val=0∧f.val.length≤24)(hl:l.length≤1000)(hP:P10 B n0)(hmp:B.get mp=some (.map Yiz))(hmpl:mp<n0)(a0:r0.get 0=some vg)(a6:r0.get 6=some (.map mp))(a22:r0.get 22=some vl)(a23:r0.get 23=some (.int .i64 l.length)):
  ∀m r st,(∀t,inD [(4,5),(7,8),(10,14),(16,18),(24,99)] t=false→r.get t=r0.get t)→Fx [(4,5),(7,8),(10,14),(16,18),(24,99)] r0 101 ⟨r,101,[]⟩→OtI nB B n0 g (l.map fmQ) m r st→Code A.C none A.lb42_2 ⟨r,101,[]⟩ st (Rd [(4,5),(7,8),(10,14),(16,18),(24,99)] r0 101 (OtI nB B n0 g (l.map fmQ)) m (fun e r st=>Zaa nB st.w=[]∧Keeps B n0 st.h st.n∧((e=.exit 0∧OtI nB B n0 g (l.map fmQ) 0 r st)∨(e=.ret∧Zp0 g (l.map fmQ) (l.map fmQ).length=none∧r.get 4=some .nilslice∧r.get 5=some (.int .i64 4))))):=by
 rintro m r ⟨H,n1,W⟩ hr hf ⟨hW,hK,k,out,before,ov,bv,hk,h24,h8,h7,hout,hO,hB,hbl,hbq,hol,hoq⟩
 simp only at hW hK hO hB
 rw[Zai]
 have leK:=hK.le
 have lfs:(l.map fmQ).length=l.length:=Ytx ..
 cases m with
 |zero=>
  obtain rfl:k=l.length:=by omega
  simp(disch:=first|(simp;done)|omega|rfl) [-getElem?_pos,A.lb42_2,hr,hf,h24,a23]
  exact⟨hW,hK,hW,hK,_,out,before,ov,bv,by omega,by simp[h24],by simp[h8],by simp[h7],hout,hO,hB,hbl,hbq,hol,hoq⟩
 |succ m=>
  have g16:=hG.v.le
  have hlt:k<l.length:=by omega
  have hlt':(k:Int)<(l.length:Int):=by omega
  obtain⟨f,hfk⟩:=Zag hlt
  obtain⟨hv1,hv2⟩:=hv f (Yti hfk)
  have hcf:(l.map fmC)[k]?=some (fmC f):=by rw[Ytl,hfk];rfl
  obtain⟨i0,o0,c0,e0,rw0,q1,q2,q3,q4⟩:=(hs.keep hK).at hcf
  have hlv:=hs.len
  rw[Ytx]at hlv
  have lg:=hg.len
  have hcs:(V.agg (fmC f)).cells=fmC f:=rfl
  have hls:(fmC f).length=4:=rfl
  have hos:(fmC f).all V.one=true:=rfl
  have sps:splice [V.int .i64 0,.int .i64 0,.int .i64 0,.str []] 0 (fmC f)=fmC f:=rfl
  have hmk:=fun st=>Ylo (st:=st) (e:=164) (k:=g.length) (by omega)
  simp(disch:=first|(simp;done)|omega|rfl) [-getElem?_pos, -V.cells, -V.one,A.lb42_2,hr,hf,h24,a23,a22,a0,hlv,lg,hlt,hlt',q1,q2,q3,q4,hcs,hls,hos,sps,Zal,hmk,St.alloc]
  generalize hH:((H.set n1 (.cells [.int .i64 0,.int .i64 0,.int .i64 0,.str []] 56 true)).set n1 (.cells (fmC f) 56 true)).set (n1+1) (.cells (Zkq [.int .i64 0,.nilslice,.int .i64 0,.nilslice] g.length) 164 true)=G
  have kG:Keeps H n1 G (n1+1+1):=by rw[←hH];exact(((Keeps.refl.new _).set (Ytf _)).new _)
  have gF:G.get n1=some (.cells [.int .i64 f.n,.int .i64 f.a,.int .i64 f.d,.str f.val] 56 true):=by rw[←hH,T.get_set,Yte (by omega),T.get_set,Ytg rfl];rfl
  have gM:G.get (n1+1)=some (.cells (Zkq [.int .i64 0,.nilslice,.int .i64 0,.nilslice] g.length) 164 true):=by rw[←hH,T.get_set,Ytg rfl]
  clear hH
  have z1:¬n1<nB:=by omega
  refine Zah [(4,5),(11,14),(16,18),(33,93)] (fun e r st=>Zaa nB st.w=[]∧Keeps H n1 st.h st.n∧((e=.exit 2∧SgI nB H n1 g [.int .i64 f.n,.int .i64 f.a,.int .i64 f.d,.str f.val] (Zfj f.val) before 0 r st)∨(e=.ret∧Zmr g (Zfj f.val) before g.length=none∧r.get 4=some .nilslice∧r.get 5=some (.int .i64 4)))) (SgI nB H n1 g [.int .i64 f.n,.int .i64 f.a,.int .i64 f.d,.str f.val] (Zfj f.val) before) g.length ?_ (Yfh (mp:=mp) (a1:=f.n) (a2:=f.a) (a3:=f.d) (val:=f.val) (vg:=vg) (vb:=bv) (by omega) (hg.keep hK) hG hfl hB.1 hbl hbq (hP.keep hK) ((hK.get mp hmpl).trans hmp) (by omega) hv1 hv2 (by simp[hr,a0]) (by simp[h7]) (by simp[hr,a6]) (by simp) (by simp) (by simp)) ?_
  ·exact⟨by simp[Zaa,hW,z1],kG,0,[],by omega,by simp,by simp,rfl,rfl,(show n1+1<n1+1+1 by omega),gF,Ye0 (by show n1+1<n1+1+1;omega) gM,by simp⟩
  ·rintro e r2 ⟨H6,n6,W6⟩ hr2 ⟨hW6,hK6,⟨rfl,_,_,i,now,hi,h33,h11,hnl,hrow,hlt6,_,hN,hNq⟩|⟨rfl,hnone,h4,h5⟩⟩
   ·have hfi:=hf.inner (D':=[(4,5),(11,14),(16,18),(33,93)]) rfl (by simp) hr2
    simp only at hW6 hK6 hlt6 hN
    obtain rfl:i=g.length:=by omega
    have le6:=hK6.le
    have hnowF:=hN.frt
    rw[hnl]at hnowF
    have hfk2:(l.map fmQ)[k]?.getD 0=Zfj f.val:=by rw[Ytl,hfk];rfl
    have hout2:Zp0 g (l.map fmQ) (k+1)=some (out++[now],now):=by
     rw[Zp0,hout]
     simp only[hfk2,hrow]
    have kX:Keeps H6 n6 (H6.set n6 (.cells [.slice (n1+1) 0 g.length (some g.length) 4] 111 true)) (n6+1):=Keeps.refl.new _
    obtain⟨v',h',w',f1,f2,f3,f4,f5⟩:=MfO.push2 (w:=W6) (x:=.slice n6 0 1 (some 1) 1) ((hO.keep hK6).keep kX) (hnowF.keep kX) (by omega) (by simp[Zau,St.row,slc]) (by omega)
    have sp1:splice [V.nilslice] 0 [.slice (n1+1) 0 g.length (some g.length) 4]=[.slice (n1+1) 0 g.length (some g.length) 4]:=rfl
    simp(disch:=first|(simp;done)|omega|rfl) [-getElem?_pos,hr,hr2,h8,h11,h24,hfi,sp1,Za3,f1]
    have hWn:Zaa nB w'=[]:=Zgh fun i hi=>by
     apply Yu0
     intro hc
     have h1:=(Zb8 w' n0 i (by omega)).2 hi
     rw[f2]at h1
     have h2:=(Zb8 W6 nB i hc).2 (Zgj h1).1
     rw[hW6]at h2
     simp at h2
    refine⟨m,by omega,hWn,((hK.trans hK6).trans kX).then f3,k+1,_,now,_,_,by omega,by simp,by simp,by simp,hout2,f4,f5,hnl,hNq,by simp[hol],fun r hr=>?_⟩
    rcases Yt9.1 hr with hr|hr
    ·exact hoq r hr
    ·obtain rfl:r=now:=by simpa using hr
     exact⟨hnl,hNq⟩
   ·have hfi:=hf.inner (D':=[(4,5),(11,14),(16,18),(33,93)]) rfl (by simp) hr2
    simp only at hW6 hK6
    have hn2:Zp0 g (l.map fmQ) (k+1)=none:=by
     have hfk2:(l.map fmQ)[k]?.getD 0=Zfj f.val:=by rw[Ytl,hfk];rfl
     rw[Zp0,hout]
     simp only[hfk2,hnone]
    simp(disch:=first|(simp;done)|omega|rfl) [-getElem?_pos,hr,hr2,h4,h5,hfi]
    exact⟨hW6,hK.trans hK6,by have:=Zmz hn2 (j:=(l.map fmQ).length) (by omega);rwa [lfs]at this⟩
set_option maxHeartbeats 4000000
def Sn.keepz{z:Nat}{h h':T O}{N N':Nat}{v:V}{l:List (List V)}(s:Sn z h N v l)(k:Keeps h N h' N'):Sn z h' N' v l:=by
 rcases s with s|⟨i,o,cp,c,e,rw,rfl,h2,h3,h4⟩
 ·exact .inl s
 ·exact .inr ⟨i,o,cp,c,e,rw,rfl,Yts h2 k.le,(k.get i h2).trans h3,h4⟩
def outQ(g:List Stg)(l:List FmR):Option (List (List Rat)):=(Zp0 g (l.map fmQ) l.length).map (·.1)
def Zx5{h:T O}{N:Nat}{u v:V}{g:List Stg}{l:List FmR}(hg:Gr h N u g)(hG:OkG g)(hfl:∀s∈g,s.factor.length≤20)(hs:Sn 4 h N v (l.map fmC))(hv:∀f∈l,chkNum f.val=0∧f.val.length≤24)(hl:l.length≤1000)(hP:P10 h N):Fn A.C 42 [u,v] h N (fun x h' n'=>(outQ g l=none∧x=.tup [.nilslice,.int .i64 4])∨∃z out,outQ g l=some out∧x=.tup [z,.int .i64 0]∧MfS h' n' z out∧out.length=l.length∧∀r∈out,r.length=g.length∧∀q∈r,Qb 2400 q):=by
 intro w
 have g16:=hG.v.le
 have lfs:(l.map fmQ).length=l.length:=Ytx ..
 have hlv:=hs.len
 rw[Ytx]at hlv
 rw[Zad,A.k42 (by simp)]
 simp(disch:=first|(simp;done)|omega|rfl) [-getElem?_pos,A.b42]
 refine Zaf Yiy ?_
 rintro _ H1 n1 k1 ⟨mp,m1,m2,rfl,hm⟩
 simp(disch:=first|(simp;done)|omega|rfl) [-getElem?_pos,]
 refine Zaf (Yel (hg.keep k1) (by omega)) ?_
 rintro bv H2 n2 k2 hb
 have j2:=k1.trans k2
 have le1:=k1.le
 have le2:=k2.le
 have hm2:=(k2.get mp m2).trans hm
 simp(disch:=first|(simp;done)|omega|rfl) [-getElem?_pos,hlv]
 refine Zah [(4,5),(7,8),(10,14),(16,18),(24,99)] (fun e r st=>Zaa N st.w=[]∧Keeps H2 n2 st.h st.n∧((e=.exit 0∧OtI N H2 n2 g (l.map fmQ) 0 r st)∨(e=.ret∧Zp0 g (l.map fmQ) (l.map fmQ).length=none∧r.get 4=some .nilslice∧r.get 5=some (.int .i64 4)))) (OtI N H2 n2 g (l.map fmQ)) l.length ?_ (Yhg (mp:=mp) (by omega) (hg.keep j2) hG hfl (hs.keepz j2) hv hl (hP.keep j2) hm2 (by omega) (by simp) (by simp) (by simp) (by simp)) ?_
 ·exact⟨by simp[Zgh],Keeps.refl,0,[],_,_,_,by omega,by simp,by simp,by simp,rfl,MfO.nil,hb,by simp,fun q hq=>by
   obtain⟨_,_,rfl⟩:=Yur.1 hq
   exact Qb.zero.mono (by decide),rfl,by simp⟩
 ·rintro e r ⟨H,n,W⟩ hr ⟨hW,hK,⟨rfl,_,_,k,out,before,ov,bv2,hk,h24,h8,h7,hout,hO,hB,hbl,hbq,hol,hoq⟩|⟨rfl,hnone,h4,h5⟩⟩
  ·simp only at hW hK hO
   obtain rfl:k=l.length:=by omega
   simp(disch:=first|(simp;done)|omega|rfl) [-getElem?_pos,hr,h8,Ret]
   exact⟨hW,j2.trans hK,_,out,by unfold outQ;rw[hout];rfl,rfl,hO.mfs,hol,hoq⟩
  ·simp only at hW hK
   rw[lfs]at hnone
   simp(disch:=first|(simp;done)|omega|rfl) [-getElem?_pos,hr,h4,h5,Ret]
   exact⟨hW,j2.trans hK,by unfold outQ;rw[hnone];rfl⟩
set_option maxHeartbeats 8000000
noncomputable def A.w36:=A.q Tryz.f36
noncomputable def A.lb36_0:=A.ql A.w36 0 []
noncomputable def A.b36:=(fun x0=>A.qb A.w36 [x0]) A.lb36_0
def A.k36:=@A.kk 36 58 [.tmp 2] A.b36 (by kernel_rfl) rfl
def Zyu{k:IntKind}{a b:Int}:Yco [.int k a,.int k b]=some (.int k (if a<b then b else a)):=rfl
def wz(x lo hi:Int):Int:=if x<lo∨hi<x then 3 else 0
def Zx6(l:List FmR)(i:Nat)(f:FmR):Int:=if 0<i∧(f.n≤((l[i-1]?).getD f).n∨f.a<((l[i-1]?).getD f).a) then 11 else 0
def frE(l:List FmR)(i:Nat):Int:=match l[i]? with
 |none=>0
 |some f=>Zak [wz f.n 1 999999999,wz f.a 0 100000000,wz f.d 0 100000000,((chkNum f.val:Nat):Int),Zx6 l i f]
def Zcg(l:List FmR):Int:=if 256<l.length then 5 else Zak ((List.range l.length).map (frE l))
def Zk2{F:Nat→Int}:∀{n:Nat},(∀j,j<n→F j=0)→Zak ((List.range n).map F)=0
 |0,_=>rfl
 |n+1,h=>by
  rw[List.range_succ,List.map_append]
  have ih:=Zk2 (n:=n) fun j hj=>h j (by omega)
  have hz:∀(a:List Int) (b:Int),Zak a=0→b=0→Zak (a++[b])=0:=by
   intro a
   induction a with
   |nil=>intro b _ hb;subst hb;rfl
   |cons x t ih=>
    intro b ha hb
    rw[Yvr,Zak]at*
    split at ha
    ·rename_i hx
     rw[Ytg hx]
     exact ih b ha hb
    ·rename_i hx
     exact absurd ha hx
  exact hz _ _ ih (h n (by omega))
def Zww{F:Nat→Int}{k n:Nat}(hk:k<n)(h:∀j,j<k→F j=0)(h0:F k≠0):Zak ((List.range n).map F)=F k:=by
 obtain⟨d,rfl⟩:∃d,n=k+(d+1):=⟨n-k-1,by omega⟩
 have key:∀(a b:List Int),Zak a=0→Zak (a++b)=Zak b:=by
  intro a
  induction a with
  |nil=>intro b _;rfl
  |cons x t ih=>
   intro b ha
   rw[Yvr,Zak]
   rw[Zak]at ha
   split at ha
   ·rename_i hx
    rw[Ytg hx]
    exact ih b ha
   ·rename_i hx
    exact absurd ha hx
 rw[List.range_add,List.map_append,key _ _ (Zk2 h),List.range_succ_eq_map]
 simp[Zak,h0]
def Ypc{h:T O}{N:Nat}{v:V}{l:List FmR}(hs:Sn 4 h N v (l.map fmC))(hv:∀f∈l,f.val.length≤100000)(hl:l.length<100000):Fn A.C 36 [v] h N (fun u _ _=>u=.int .i64 (Zcg l)):=by
 intro w
 have hlv:=hs.len
 rw[Ytx]at hlv
 rw[Zad,A.k36 (by simp)]
 by_cases h256:256<l.length
 ·have h256':(256:Int)<(l.length:Int):=by omega
  simp(disch:=first|(simp;done)|omega|rfl) [-getElem?_pos,A.b36,hlv,h256,h256',Ret,Zcg]
  exact Keeps.refl
 ·have h256':¬(256:Int)<(l.length:Int):=by omega
  have hc:Zcg l=Zak ((List.range l.length).map (frE l)):=Yte h256
  rw[hc]
  simp(disch:=first|(simp;done)|omega|rfl) [-getElem?_pos,A.b36,hlv,h256,h256']
  refine Zah [(2,6),(12,57)] (fun e r st=>Zaa N st.w=[]∧Keeps h N st.h st.n∧((e=.exit 0∧∀j,j<l.length→frE l j=0)∨(e=.ret∧∃k,k<l.length∧(∀j,j<k→frE l j=0)∧frE l k≠0∧r.get 2=some (.int .i64 (frE l k))))) (fun m r st=>Zaa N st.w=[]∧Keeps h N st.h st.n∧∃k,k+m=l.length∧r.get 12=some (.int .i64 k)∧∀j,j<k→frE l j=0) l.length ?_ ?_ ?_
  ·exact⟨by simp,Keeps.refl,0,by omega,by simp,by omega⟩
  ·rintro m r ⟨H,n1,W⟩ hr hf ⟨hW,hK,k,hk,h12,hz⟩
   simp only at hW hK
   rw[Zai]
   have leK:=hK.le
   cases m with
   |zero=>
    obtain rfl:k=l.length:=by omega
    simp(disch:=first|(simp;done)|omega|rfl) [-getElem?_pos,A.lb36_0,hr,hf,h12,hlv,hW,hK]
    exact hz
   |succ m=>
    have hlt:k<l.length:=by omega
    have hlt':(k:Int)<(l.length:Int):=by omega
    obtain⟨f,hfk⟩:=Zag hlt
    have hfl:=hv f (Yti hfk)
    have hpl:k-1<l.length:=by omega
    have hpl':((k-1:Nat):Int)<(l.length:Int):=by omega
    obtain⟨p,hpk⟩:=Zag hpl
    obtain⟨i0,o0,c0,e0,rw0,q1,q2,q3,q4⟩:=(hs.keepz hK).at (show (l.map fmC)[k]?=some (fmC f) by rw[Ytl,hfk];rfl)
    obtain⟨i1,o1,c1,e1,rw1,p1,p2,p3,p4⟩:=(hs.keepz hK).at (show (l.map fmC)[k-1]?=some (fmC p) by rw[Ytl,hpk];rfl)
    rw[q1]at p1
    simp only[Ytc,Yth]at p1
    obtain⟨rfl,rfl⟩:=p1
    rw[q3]at p3
    simp only[Ytc,O.cells.injEq]at p3
    obtain⟨rfl,rfl,rfl⟩:=p3
    have hcs:∀f:FmR,(V.agg (fmC f)).cells=fmC f:=fun _=>rfl
    have hls:∀f:FmR,(fmC f).length=4:=fun _=>rfl
    have hos:∀f:FmR,(fmC f).all V.one=true:=fun _=>rfl
    have sps:∀f:FmR,splice [V.int .i64 0,.int .i64 0,.int .i64 0,.str []] 0 (fmC f)=fmC f:=fun _=>rfl
    have hmx:(if (1:Int)<(k:Int) then (k:Int)-1 else 0)=((k-1:Nat):Int):=by split<;>omega
    have fk0:(fmC f)[0]?=some (.int .i64 f.n):=rfl
    have fk1:(fmC f)[1]?=some (.int .i64 f.a):=rfl
    have fk2:(fmC f)[2]?=some (.int .i64 f.d):=rfl
    have fk3:(fmC f)[3]?=some (.str f.val):=rfl
    have pk0:(fmC p)[0]?=some (.int .i64 p.n):=rfl
    have pk1:(fmC p)[1]?=some (.int .i64 p.a):=rfl
    have d1:¬i0=n1:=by omega
    have d2:i0<n1+1:=by omega
    have z0:n1<n1+1:=by omega
    have z1:¬n1=n1+1:=by omega
    simp(disch:=first|(simp;done)|omega|rfl) [-getElem?_pos, -V.cells, -V.one,A.lb36_0,hr,hf,h12,hlv,hlt,hlt',q1,q2,q3,q4,hcs,hls,hos,sps,Zal,Zep,Zyu,hmx,hpl,hpl',p2,p4,d1,d2,z0,z1,fk0,fk1,fk2,fk3,pk0,pk1,Zfr]
    generalize hH:(((H.set n1 (.cells [.int .i64 0,.int .i64 0,.int .i64 0,.str []] 56 true)).set n1 (.cells (fmC f) 56 true)).set (n1+1) (.cells [.int .i64 0,.int .i64 0,.int .i64 0,.str []] 56 true)).set (n1+1) (.cells (fmC p) 56 true)=G
    have kG:Keeps H n1 G (n1+1+1):=by rw[←hH];exact(((Keeps.refl.new _).set (Ytf _)).new _).set (by omega)
    have gf:G.get n1=some (.cells (fmC f) 56 true):=by rw[←hH,T.get_set,Yte (by omega),T.get_set,Yte (by omega),T.get_set,Ytg rfl]
    have gp:G.get (n1+1)=some (.cells (fmC p) 56 true):=by rw[←hH,T.get_set,Ytg rfl]
    clear hH
    refine Zaf (Zqk hfl) ?_
    rintro _ H4 n4 k4 rfl
    have le4:=k4.le
    have gf4:=(k4.get n1 (by omega)).trans gf
    have gp4:=(k4.get (n1+1) (by omega)).trans gp
    have dn1:n1<n4:=by omega
    have dn2:n1+1<n4:=by omega
    have kX:∀c,Keeps h N (H4.set n4 (.cells c 29 true)) (n4+1):=fun c=>(((hK.trans kG).trans k4).new _)
    have hgd:(l[k-1]?).getD f=p:=by rw[hpk];rfl
    have efr:frE l k=Zak [wz f.n 1 999999999,wz f.a 0 100000000,wz f.d 0 100000000,((chkNum f.val:Nat):Int),Zx6 l k f]:=by
     unfold frE
     rw[hfk]
    have eor:Zx6 l k f=if 0<k∧(f.n≤p.n∨f.a<p.a) then 11 else 0:=by
     unfold Zx6
     rw[hgd]
    have w1:¬n1<N:=by omega
    have w2:¬n1+1<N:=by omega
    have w3:¬n4<N:=by omega
    have hz2:frE l k=0→∀j,j<k+1→frE l j=0:=fun h0 j hj=>by
     by_cases e:j=k
     ·subst e;exact h0
     ·exact hz j (by omega)
    unfold wz at efr
    have hci:∀z:Int,(V.int .i64 z).cells=[V.int .i64 z]:=fun _=>rfl
    have hco:∀z:Int,V.one (V.int .i64 z)=true:=fun _=>rfl
    by_cases k0:0<k
    ·have k0':(0:Int)<(k:Int):=by omega
     by_cases e1:f.n≤p.n
     ·have ho:Zx6 l k f=11:=by rw[eor,Ytg ⟨k0,.inl e1⟩]
      have pf:=fun w=>Zpx (h:=H4) (N:=n4+1) (i:=n4) (w:=w) (a0:=if f.n<1∨999999999<f.n then 3 else 0) (a1:=if f.a<0∨100000000<f.a then 3 else 0) (a2:=if f.d<0∨100000000<f.d then 3 else 0) (a3:=((chkNum f.val:Nat):Int)) (a4:=11) (by omega)
      rw[ho]at efr
      rw[←efr]at pf
      simp(disch:=first|(simp;done)|omega|rfl) [-getElem?_pos, -V.cells, -V.one,hr,hf,h12,gf4,gp4,dn1,dn2,fk0,fk1,pk0,pk1,k0,k0',e1,Zbp,splice,pf,hci,hco,Zae]
      by_cases h0:frE l k=0
      ·simp(disch:=first|(simp;done)|omega|rfl) [-getElem?_pos,h0,hr,hf,h12,hW]
       exact⟨m,by omega,by simp[Zaa,hW,w1,w2,w3],kX _,k+1,by omega,by simp,hz2 h0⟩
      ·simp(disch:=first|(simp;done)|omega|rfl) [-getElem?_pos,h0,hr,hf,h12,hW]
       exact⟨by simp[Zaa,hW,w1,w2,w3],kX _,k,hlt,hz,h0,by simp⟩
     ·by_cases e2:f.a<p.a
      ·have ho:Zx6 l k f=11:=by rw[eor,Ytg ⟨k0,.inr e2⟩]
       have pf:=fun w=>Zpx (h:=H4) (N:=n4+1) (i:=n4) (w:=w) (a0:=if f.n<1∨999999999<f.n then 3 else 0) (a1:=if f.a<0∨100000000<f.a then 3 else 0) (a2:=if f.d<0∨100000000<f.d then 3 else 0) (a3:=((chkNum f.val:Nat):Int)) (a4:=11) (by omega)
       rw[ho]at efr
       rw[←efr]at pf
       simp(disch:=first|(simp;done)|omega|rfl) [-getElem?_pos, -V.cells, -V.one,hr,hf,h12,gf4,gp4,dn1,dn2,fk0,fk1,pk0,pk1,k0,k0',e1,e2,Zbp,splice,pf,hci,hco,Zae]
       by_cases h0:frE l k=0
       ·simp(disch:=first|(simp;done)|omega|rfl) [-getElem?_pos,h0,hr,hf,h12,hW]
        exact⟨m,by omega,by simp[Zaa,hW,w1,w2,w3],kX _,k+1,by omega,by simp,hz2 h0⟩
       ·simp(disch:=first|(simp;done)|omega|rfl) [-getElem?_pos,h0,hr,hf,h12,hW]
        exact⟨by simp[Zaa,hW,w1,w2,w3],kX _,k,hlt,hz,h0,by simp⟩
      ·have ho:Zx6 l k f=0:=by rw[eor,Yte (by rintro⟨_,h|h⟩<;>omega)]
       have pf:=fun w=>Zpx (h:=H4) (N:=n4+1) (i:=n4) (w:=w) (a0:=if f.n<1∨999999999<f.n then 3 else 0) (a1:=if f.a<0∨100000000<f.a then 3 else 0) (a2:=if f.d<0∨100000000<f.d then 3 else 0) (a3:=((chkNum f.val:Nat):Int)) (a4:=0) (by omega)
       rw[ho]at efr
       rw[←efr]at pf
       simp(disch:=first|(simp;done)|omega|rfl) [-getElem?_pos, -V.cells, -V.one,hr,hf,h12,gf4,gp4,dn1,dn2,fk0,fk1,pk0,pk1,k0,k0',e1,e2,Zbp,splice,pf,hci,hco,Zae]
       by_cases h0:frE l k=0
       ·simp(disch:=first|(simp;done)|omega|rfl) [-getElem?_pos,h0,hr,hf,h12,hW]
        exact⟨m,by omega,by simp[Zaa,hW,w1,w2,w3],kX _,k+1,by omega,by simp,hz2 h0⟩
       ·simp(disch:=first|(simp;done)|omega|rfl) [-getElem?_pos,h0,hr,hf,h12,hW]
        exact⟨by simp[Zaa,hW,w1,w2,w3],kX _,k,hlt,hz,h0,by simp⟩
    ·have k0':¬(0:Int)<(k:Int):=by omega
     have ho:Zx6 l k f=0:=by rw[eor,Yte (by rintro⟨h,_⟩;omega)]
     have pf:=fun w=>Zpx (h:=H4) (N:=n4+1) (i:=n4) (w:=w) (a0:=if f.n<1∨999999999<f.n then 3 else 0) (a1:=if f.a<0∨100000000<f.a then 3 else 0) (a2:=if f.d<0∨100000000<f.d then 3 else 0) (a3:=((chkNum f.val:Nat):Int)) (a4:=0) (by omega)
     rw[ho]at efr
     rw[←efr]at pf
     simp(disch:=first|(simp;done)|omega|rfl) [-getElem?_pos, -V.cells, -V.one,hr,hf,h12,gf4,gp4,dn1,dn2,fk0,fk1,pk0,pk1,k0,k0',Zbp,splice,pf,hci,hco,Zae]
     by_cases h0:frE l k=0
     ·simp(disch:=first|(simp;done)|omega|rfl) [-getElem?_pos,h0,hr,hf,h12,hW]
      exact⟨m,by omega,by simp[Zaa,hW,w1,w2,w3],kX _,k+1,by omega,by simp,hz2 h0⟩
     ·simp(disch:=first|(simp;done)|omega|rfl) [-getElem?_pos,h0,hr,hf,h12,hW]
      exact⟨by simp[Zaa,hW,w1,w2,w3],kX _,k,hlt,hz,h0,by simp⟩
  ·rintro e r ⟨H,n,W⟩ hr ⟨hW,hK,⟨rfl,hz⟩|⟨rfl,k,hk,hz,h0,h2⟩⟩
   ·simp only at hW hK
    simp(disch:=first|(simp;done)|omega|rfl) [-getElem?_pos,hr,Ret,Zk2 hz]
    exact⟨hW,hK⟩
   ·simp only at hW hK
    simp(disch:=first|(simp;done)|omega|rfl) [-getElem?_pos,hr,h2,Ret,Zww hk hz h0]
    exact⟨hW,hK⟩
variable {N N':Nat} {h h':T O} {l:List Rat} {v:V}
def Tx(h:T O)(N:Nat)(v:V)(l:List Rat):Prop:=Sl h N v (tx l)
def Tx.keep(s:Tx h N v l)(k:Keeps h N h' N'):Tx h' N' v l:=Sl.keep s k
def Tx.len(s:Tx h N v l):Zo2 v=some l.length:=by
 have:=Sl.len s
 rwa [Zvr]at this
def TxM(h:T O)(N:Nat)(v:V)(m:List (List Rat)):Prop:=∃us:List V,Sl h N v us∧us.length=m.length∧∀(j:Nat) (l:List Rat),m[j]?=some l→∃u,us[j]?=some u∧Tx h N u l
def TxT(h:T O)(N:Nat)(u:V)(l:List Rat):Prop:=Tx h N u l∧∀i∈Zc8 u,∃z w,h.get i=some (.cells z 46 w)
def Ybb{l:List V}(s:Sl h N v l):∀i∈Zc8 v,i<N:=fun i hi=>by
 rcases s with⟨_,rfl|rfl⟩|⟨j,o,cp,c,e,rw,rfl,hj,_⟩
 ·simp[Zc8]at hi
 ·simp[Zc8]at hi
 ·simp[Zc8]at hi;omega
def TxT.keep{u:V}(s:TxT h N u l)(k:Keeps h N h' N'):TxT h' N' u l:=⟨s.1.keep k,fun i hi=>by rw[k.get i (Ybb s.1 i hi)];exact s.2 i hi⟩
def TxT.moved{n n':Nat}{u:V}{Y:V→Prop}{e:TypeId}(s:TxT h n u l)(k:Upd (fun i=>i∈Zc8 v) h n h' n')(hd:Zs2 e Y h v)(he:e≠46):TxT h' n' u l:=by
 have hn:∀i∈Zc8 u,i∉Zc8 v:=fun i hi hc=>by
  obtain⟨z,w,hz⟩:=s.2 i hi
  obtain⟨z2,hz2,_⟩:=hd i hc
  rw[hz]at hz2
  simp at hz2
  exact he hz2.2.1.symm
 exact⟨Sl.moved s.1 k hn,fun i hi=>by rw[k.get i (Ybb s.1 i hi) (hn i hi)];exact s.2 i hi⟩
def Ybp{N0:Nat}(s:Own 1 46 N0 h N v ((tx l).map fun y=>[y])):TxT h N v l:=by
 refine⟨Sn.one.1 s.sn,fun i hi=>?_⟩
 obtain⟨_,⟨_,rfl⟩|⟨j,rfl,_,_,hg⟩⟩:=s
 ·simp[Zc8]at hi
 ·simp[Zc8]at hi;subst hi;exact⟨_,_,hg⟩
def MtO(N0:Nat)(h:T O)(N:Nat)(v:V)(m:List (List Rat)):Prop:=∃us:List V,Own 1 52 N0 h N v (us.map fun y=>[y])∧(us=[]→v=.nilslice)∧us.length=m.length∧∀(j:Nat) (l:List Rat),m[j]?=some l→∃u,us[j]?=some u∧TxT h N u l
def MtO.nil{N0:Nat}:MtO N0 h N .nilslice []:=⟨[],Own.nil,fun _=>rfl,rfl,fun j l hl=>by simp at hl⟩
def MtO.keep{N0:Nat}{m:List (List Rat)}(s:MtO N0 h N v m)(k:Keeps h N h' N'):MtO N0 h' N' v m:=by
 obtain⟨us,h1,h2,h3,h4⟩:=s
 refine⟨us,h1.keep k,h2,h3,fun j l hl=>?_⟩
 obtain⟨u,g1,g2⟩:=h4 j l hl
 exact⟨u,g1,g2.keep k⟩
def MtO.txm{N0:Nat}{m:List (List Rat)}(s:MtO N0 h N v m):TxM h N v m:=by
 obtain⟨us,h1,h2,h3,h4⟩:=s
 refine⟨us,Sn.one.1 h1.sn,h3,fun j l hl=>?_⟩
 obtain⟨u,g1,g2⟩:=h4 j l hl
 exact⟨u,g1,g2.1⟩
set_option maxHeartbeats 4000000
def Zfn:∀{l:List Int},Zak l=0→∀x∈l,x=0
 |[],_,x,hx=>by simp at hx
 |y::t,h,x,hx=>by
  rw[Zak]at h
  split at h
  ·rename_i hy
   rcases Yt7.1 hx with rfl|hx
   ·exact hy
   ·exact Zfn h x hx
  ·rename_i hy
   exact absurd h hy
def Zpd{l:List FmR}(h:Zcg l=0):l.length≤256∧∀f∈l,chkNum f.val=0:=by
 unfold Zcg at h
 split at h
 ·cases h
 rename_i hl
 refine⟨by omega,fun f hf=>?_⟩
 obtain⟨k,hk⟩:=List.mem_iff_getElem?.1 hf
 have h1:=Zfn h (frE l k) (Yur.2 ⟨k,Ywi.2 (Zar hk),rfl⟩)
 unfold frE at h1
 rw[hk]at h1
 have h2:=Zfn h1 ((chkNum f.val:Nat):Int) (by simp)
 omega
variable {s:Str}
noncomputable def A.w80:=A.q Tryz.f80
noncomputable def A.lb80_0:=A.ql A.w80 0 []
noncomputable def A.b80:=(fun x0=>A.qb A.w80 [x0]) A.lb80_0
def A.k80:=@A.kk 80 17 [.tmp 2] A.b80 (by kernel_rfl) rfl
noncomputable def A.w145:=A.q Tryz.f145
noncomputable def A.lb145_0:=A.ql A.w145 0 []
noncomputable def A.b145:=(fun x0=>A.qb A.w145 [x0]) A.lb145_0
def A.k145:=@A.kk 145 20 [.tmp 2] A.b145 (by kernel_rfl) rfl
noncomputable def A.b81:=A.q Tryz.f81
def A.k81:=@A.kk 81 18 [.tmp 2] A.b81 (by kernel_rfl) rfl
noncomputable def A.w195:=A.q Tryz.f195
noncomputable def A.lb195_0:=A.ql A.w195 0 []
noncomputable def A.b195:=(fun x0=>A.qb A.w195 [x0]) A.lb195_0
def A.k195:=@A.kk 195 20 [.tmp 2] A.b195 (by kernel_rfl) rfl
def Zfh{st:St}(hl:s.length<4611686018427387904):A.C.call (.func 80 [] []) [.str s] st=some (.int .i64 (slashAt s:Nat),st):=by
 apply Call.eq
 rw[Zad,A.k80 (by simp)]
 simp(disch:=first|(simp;done)|omega|rfl) [-getElem?_pos,A.b80]
 refine Zah [(2,14)] (fun e r s1=>s1=⟨st.h,st.n,[]⟩∧((e=.exit 0∧slashAt s=s.length)∨(e=.ret∧r.get 2=some (.int .i64 (slashAt s:Nat))))) (fun m r s1=>s1=⟨st.h,st.n,[]⟩∧∃k,k+m=s.length∧r.get 3=some (.int .i64 k)∧slashAt s=k+slashAt (s.drop k)) s.length ?_ ?_ ?_
 ·exact⟨rfl,0,by omega,by simp,by simp⟩
 ·rintro m r _ hr hf ⟨rfl,k,hk,h3,hz⟩
  rw[Zai]
  cases m with
  |zero=>
   have:k=s.length:=by omega
   subst this
   rw[Yug,slashAt]at hz
   simp(disch:=first|(simp;done)|omega|rfl) [-getElem?_pos,A.lb80_0,hr,hf,h3]
   omega
  |succ m=>
   obtain⟨c,hc⟩:=Zag (l:=s) (k:=k) (by omega)
   have hk1:(k:Int)<(s.length:Int):=by omega
   have hk2:k<s.length:=by omega
   rw[Zao hc,slashAt]at hz
   by_cases h47:u8I c=47
   ·rw[Ytg (by unfold u8I at h47;omega)]at hz
    simp(disch:=first|(simp;done)|omega|rfl) [-getElem?_pos,A.lb80_0,hr,hf,h3,hk1,hk2,hc,h47,Zae]
    rw[hz];simp
   ·rw[Yte (by unfold u8I at h47;omega)]at hz
    simp(disch:=first|(simp;done)|omega|rfl) [-getElem?_pos,A.lb80_0,hr,hf,h3,hk1,hk2,hc,h47,Zae]
    exact⟨m,by omega,k+1,by omega,by simp,by omega⟩
 ·rintro e r _ hr ⟨rfl,⟨rfl,hz⟩|⟨rfl,h2⟩⟩
  ·simp(disch:=first|(simp;done)|omega|rfl) [-getElem?_pos,hr,hz]
  ·simp(disch:=first|(simp;done)|omega|rfl) [-getElem?_pos,hr,h2]
def Yds{st:St}(hl:s.length<4611686018427387904):A.C.call (.func 145 [] []) [.str s] st=some (.bool (Zcd s),st):=by
 apply Call.eq
 rw[Zad,A.k145 (by simp)]
 simp(disch:=first|(simp;done)|omega|rfl) [-getElem?_pos,A.b145]
 refine Zah [(2,19)] (fun e r s1=>s1=⟨st.h,st.n,[]⟩∧((e=.exit 0∧Zcd s=true)∨(e=.ret∧Zcd s=false∧r.get 2=some (.bool false)))) (fun m r s1=>s1=⟨st.h,st.n,[]⟩∧∃k,k+m=s.length∧r.get 3=some (.int .i64 k)∧Zcd s=Zcd (s.drop k)) s.length ?_ ?_ ?_
 ·exact⟨rfl,0,by omega,by simp,by simp⟩
 ·rintro m r _ hr hf ⟨rfl,k,hk,h3,hz⟩
  rw[Zai]
  cases m with
  |zero=>
   have:k=s.length:=by omega
   subst this
   rw[Yug]at hz
   have hz:Zcd s=true:=hz
   simp(disch:=first|(simp;done)|omega|rfl) [A.lb145_0,hr,hf,h3,hz]
  |succ m=>
   obtain⟨c,hc⟩:=Zag (l:=s) (k:=k) (by omega)
   have hk1:(k:Int)<(s.length:Int):=by omega
   have hk2:k<s.length:=by omega
   have hz2:Zcd s=(Zke c&&Zcd (s.drop (k+1))):=by rw[hz,Zao hc];rfl
   rw[Zsl]at hz2
   by_cases h1:u8I c<48
   ·have:¬(48≤u8I c∧u8I c≤57):=by omega
    rw[decide_eq_false this,Bool.false_and]at hz2
    simp(disch:=first|(simp;done)|omega|rfl) [-getElem?_pos,A.lb145_0,hr,hf,h3,hk1,hk2,hc,h1,hz2]
   ·by_cases h2:57<u8I c
    ·have:¬(48≤u8I c∧u8I c≤57):=by omega
     rw[decide_eq_false this,Bool.false_and]at hz2
     simp(disch:=first|(simp;done)|omega|rfl) [-getElem?_pos,A.lb145_0,hr,hf,h3,hk1,hk2,hc,h1,h2,hz2]
    ·have:(48≤u8I c∧u8I c≤57):=by omega
     rw[decide_eq_true this,Bool.true_and]at hz2
     simp(disch:=first|(simp;done)|omega|rfl) [-getElem?_pos,A.lb145_0,hr,hf,h3,hk1,hk2,hc,h1,h2]
     exact⟨m,by omega,k+1,by omega,by simp,hz2⟩
 ·rintro e r _ hr ⟨rfl,⟨rfl,hz⟩|⟨rfl,hz,h2⟩⟩
  ·simp(disch:=first|(simp;done)|omega|rfl) [-getElem?_pos,hr,hz]
  ·simp(disch:=first|(simp;done)|omega|rfl) [-getElem?_pos,hr,h2,hz]
def Zfz{s:Str}{st:St}(hl:s.length<4611686018427387904):A.C.call (.func 81 [] []) [.str s] st=some (.bool (Zc1 s),st):=by
 apply Call.eq
 rw[Zad,A.k81 (by simp)]
 cases s with
 |nil=>simp[A.b81,Zae,Zc1]
 |cons c s=>
  have hd:Zc1 (c::s)=(Zcd (c::s)&&(decide (u8I c≠48)||decide (s=[]))):=by
   have:decide (c.toNat≠48)=decide (u8I c≠48):=by unfold u8I;rw[decide_eq_decide];omega
   simp only[Zc1,this];rfl
  have hdg:=fun st=>Yds (s:=c::s) (st:=st) hl
  by_cases h0:s=[]
  ·subst h0
   simp[A.b81,Zae,hd,hdg]
  ·have h1:0<s.length:=by
    cases s with
    |nil=>exact absurd rfl h0
    |cons=>simp
   have a1:¬((s.length:Int)+1=0):=by omega
   have a2:(1:Int)<(s.length:Int)+1:=by omega
   have a3:(0:Int)<(s.length:Int):=by omega
   by_cases h48:u8I c=48
   ·simp[A.b81,Zae,hd,hdg,h0,a1,a2,a3,h1,h48]
   ·simp[A.b81,Zae,hd,hdg,h0,a1,a2,a3,h1,h48]
def Zjd{st:St}(hd:Zcd s=true)(hl:s.length≤18):A.C.call (.func 195 [] []) [.str s] st=some (.int .i64 (numV s:Nat),st):=by
 apply Call.eq
 rw[Zad,A.k195 (by simp)]
 simp[A.b195]
 refine Zah [(3,18)] (fun e r s1=>s1=⟨st.h,st.n,[]⟩∧e=.exit 0∧r.get 3=some (.int .i64 (numV s:Nat))) (fun m r s1=>s1=⟨st.h,st.n,[]⟩∧∃k,k+m=s.length∧r.get 4=some (.int .i64 k)∧r.get 3=some (.int .i64 (numV (s.take k):Nat))) s.length ?_ ?_ ?_
 ·exact⟨rfl,0,by omega,by simp,by simp[numV]⟩
 ·rintro m r _ hr hf ⟨rfl,k,hk,h4,h3⟩
  rw[Zai]
  cases m with
  |zero=>
   have:k=s.length:=by omega
   subst this
   rw[Yuf]at h3
   simp[A.lb195_0,hr,hf,h4,h3]
  |succ m=>
   obtain⟨c,hc⟩:=Zag (l:=s) (k:=k) (by omega)
   have hk1:(k:Int)<(s.length:Int):=by omega
   have hk2:k<s.length:=by omega
   have hd1:=Zkm hd hc
   have hv:=Zm8 hc
   have hb1:=Zp3 hd k (by omega)
   have hb2:=Zwa (a:=k) (b:=17) (by omega)
   have b3:((numV (s.take (k+1)):Nat):Int)=10*(numV (s.take k):Nat)+u8I c-48:=by
    rw[hv];unfold u8I at*;omega
   have b4:((numV (s.take k):Nat):Int)<100000000000000000:=by
    have:(10:Nat)^17=100000000000000000:=by decide
    omega
   generalize hy:numV (s.take (k+1))=y at*
   generalize numV (s.take k)=x at*
   simp(disch:=first|(simp;done)|omega|rfl) [-getElem?_pos,A.lb195_0,hr,hf,h4,h3,hk1,hk2,hc]
   exact⟨m,by omega,k+1,by omega,by simp,by rw[hy,b3]⟩
 ·rintro e r _ hr ⟨rfl,rfl,h3⟩
  simp[hr,h3]
noncomputable def A.w199:=A.q Tryz.f199
noncomputable def A.lb199_0:=A.ql A.w199 0 []
noncomputable def A.b199:=(fun x0=>A.qb A.w199 [x0]) A.lb199_0
def A.k199:=@A.kk 199 21 [.tmp 2] A.b199 (by kernel_rfl) rfl
noncomputable def A.b196:=A.q Tryz.f196
def A.k196:=@A.kk 196 15 [.cell 4 (some 2)] A.b196 (by kernel_rfl) rfl
noncomputable def A.w197:=A.q Tryz.f197
noncomputable def A.lb197_0:=A.ql A.w197 0 []
noncomputable def A.b197:=(fun x0=>A.qb A.w197 [x0]) A.lb197_0
def A.k197:=@A.kk 197 41 [.tmp 4] A.b197 (by kernel_rfl) rfl
noncomputable def A.w198:=A.q Tryz.f198
noncomputable def A.lb198_0:=A.ql A.w198 0 []
noncomputable def A.b198:=(fun x0=>A.qb A.w198 [x0]) A.lb198_0
def A.k198:=@A.kk 198 39 [.tmp 4,.tmp 5] A.b198 (by kernel_rfl) rfl
def Zgb{h:T O}{N:Nat}{v:V}{l:List Int}(hs:Sl h N v (dI l))(hl:l.length<1152921504606846976):Fn A.C 199 [v] h N (fun v' h' N'=>Sl h' N' v' (dI (Zf8 l))):=by
 intro w
 rw[Zad,A.k199 (by simp)]
 simp[A.b199]
 refine Zah [(0,0),(3,19)] (fun e r st=>e=.exit 0∧st=⟨h,N,[]⟩∧∃u,r.get 0=some u∧Sl h N u (dI (Zf8 l))) (fun m r st=>st=⟨h,N,[]⟩∧m≤l.length∧∃u,r.get 0=some u∧Sl h N u (dI (l.take m))∧Zf8 (l.take m)=Zf8 l) l.length ?_ ?_ ?_
 ·exact⟨rfl,Ytf _,v,rfl,by rw[Yuf];exact hs,by rw[Yuf]⟩
 ·rintro m r _ hr hf ⟨rfl,hm,u,h0,hu,ht⟩
  rw[Zai]
  have lu:=hu.len
  rw[Zat,Ytu,Yuv hm]at lu
  cases m with
  |zero=>
   simp[A.lb199_0,hr,hf,h0,lu]
   rw[←ht];exact hu
  |succ k=>
   obtain⟨d,hd⟩:=Zag (l:=l) (k:=k) (by omega)
   have hd':(l.take (k+1))[k]?=some d:=by rw[Yt0,Ytg (by omega)];exact hd
   obtain⟨i,o,c,e,rw,q1,q2,q3,q4⟩:=hu.at (Zbl hd')
   have e1:l.take (k+1)=l.take k++[d]:=by rw[Yt8,hd];rfl
   have k1:(0:Int)<(k:Int)+1:=by omega
   have k2:(k:Int)<(k:Int)+1:=by omega
   have k3:(k:Int)+1-1=(k:Int):=by omega
   by_cases hz:d=0
   ·subst hz
    rw[e1,Zku]at ht
    obtain⟨v',x1,x2⟩:=Zjs (w:=[]) hu (lo:=0) (hi:=k) (Yv0 _) (by rw[Zat,Ytu];omega) none (some (.int .i64 k)) (.inr ⟨rfl,rfl⟩) (.inl rfl)
    have x3:((dI (l.take (k+1))).take k).drop 0=dI (l.take k):=by
     rw[Yvx,dI,←List.map_take,List.take_take,Yuv (by omega)];rfl
    rw[x3]at x2
    simp(disch:=first|(simp;done)|omega|rfl) [A.lb199_0,hr,hf,h0,lu,k1,k2,k3,q1,q3,q4,Zae,Zcn,evOpt,x1]
    exact⟨k,by omega,by omega,x2,ht⟩
   ·rw[e1,Zok hz,←e1]at ht
    simp(disch:=first|(simp;done)|omega|rfl) [A.lb199_0,hr,hf,h0,lu,k1,k2,k3,q1,q3,q4,Zae,hz]
    rw[←ht];exact hu
 ·rintro _ r _ hr ⟨rfl,rfl,u,h0,hu⟩
  simp[hr,h0,Ret]
  exact⟨Keeps.refl,hu⟩
def Rg(h:T O)(N:Nat)(v:V)(z:Int):Prop:=∃u,v=.agg [.bool (decide (z<0)),u]∧Dn h N u z.natAbs
def Zb4{h:T O}{N:Nat}{v:V}{l:List Int}{b:Bool}{n:Nat}(hs:Sl h N v (dI l))(hd:Di l)(hn:vI l=n)(hl:l.length<1152921504606846976):Fn A.C 196 [.bool b,v] h N (fun v' h' N'=>Rg h' N' v' (if b=true then -(n:Int) else n)):=by
 intro w
 rw[Zad,A.k196 (by simp)]
 simp[A.b196]
 refine Zaf (Zgb (hs.keep (Keeps.refl.new _)) hl) ?_
 rintro u h1 n1 k1 hu
 rw[Zf7 hd hn]at hu
 have lu:=hu.len
 rw[Zat]at lu
 have kle:=k1.le
 have hrow:=k1.get N (by omega)
 simp at hrow
 have huo:=hu.form.one
 have huc:=hu.form.cells
 unfold V.one at huo
 unfold V.cells at huc
 have k0:=(Keeps.refl (h:=h) (n:=N)).new (.cells [.bool false,.nilslice] 182 true)
 have kx:=fun o=>((k0.trans k1).set (i:=N) (o:=o) (Ytf N))
 have hu2:=fun c1 (hc:c1.length=2)=>hu.setInt (i:=N) (c1:=c1) (e1:=182) (w1:=true) hrow (by intro x hx k m;simp at hx;rcases hx with rfl|rfl<;>simp) hc
 cases b with
 |false=>
  simp[lu,splice,hrow,huo,huc,Zal,Zam,slc,Ret]
  refine⟨kx _,u,?_,?_⟩
  ·have:¬(n:Int)<0:=by omega
   simp
  ·exact hu2 _ rfl
 |true=>
  by_cases hz:n=0
  ·have hl0:(ds n).length=0:=by rw[hz,Zcq];rfl
   simp[lu,hl0,splice,hrow,huo,huc,Zal,Zam,slc,Ret]
   refine⟨kx _,u,?_,?_⟩
   ·simp[hz]
   ·simpa[hz,Dn]using hu2 _ rfl
  ·have hl0:¬(ds n).length=0:=fun hc=>hz (Zdv.1 (Ytt hc))
   have hl1:(0:Int)<((ds n).length:Int):=by omega
   have hl2:0<(ds n).length:=by omega
   have hl3:ds n≠[]:=fun hc=>hz (Zdv.1 hc)
   simp[lu,hl1,hl2,hl3,splice,hrow,huo,huc,Zal,Zam,slc,Ret]
   refine⟨kx _,u,?_,?_⟩
   ·have: -(n:Int)<0:=by omega
    simp[this];try omega
   ·simpa[Dn]using hu2 _ rfl
end Go.Mx
