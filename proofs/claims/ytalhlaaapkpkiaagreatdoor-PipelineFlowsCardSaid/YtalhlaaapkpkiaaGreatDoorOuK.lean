/-pipeline-/
import Derived.Test.YtalhlaaapkpkiaaGreatDoorOuI
set_option linter.all false
namespace Go.Mx
open Go Go.Proofs
set_option maxHeartbeats 8000000
set_option maxRecDepth 1000000
structure FmR where
 n:Int
 a:Int
 d:Int
 val:Str
def fmC(f:FmR):List V:=[.int .i64 f.n,.int .i64 f.a,.int .i64 f.d,.str f.val]
def fmQ(f:FmR):Rat:=Zdv f.val
structure OtI (nB:Nat) (B:T O) (n0:Nat) (g:List Stg) (fs:List Rat) (m:Nat) (r:T V) (st:St):Prop where
 w:Zac nB st.w=[]
 keep:Keeps B n0 st.h st.n
 ex:∃(k:Nat) (out:List (List Rat)) (before:List Rat) (ov bv:V),k+m=fs.length∧r.get 24=some (.int .i64 k)∧r.get 8=some ov∧r.get 7=some bv∧Zi9 g fs k=some (out,before)∧MfO n0 st.h st.n ov out∧FrT st.h st.n bv before∧before.length=g.length∧(∀q∈before,Qb 2400 q)∧out.length=k∧∀r∈out,r.length=g.length∧∀q∈r,Qb 2400 q
def Zri{g:List Stg}{fs:List Rat}{i:Nat}(h:Zi9 g fs i=none):∀{j:Nat},i≤j→Zi9 g fs j=none
 |0,hj=>by
  obtain rfl:i=0:=by omega
  exact h
 |j+1,hj=>by
  by_cases e:i=j+1
  ·rw[←e];exact h
  ·rw[Zi9,Zri h (show i≤j by omega)]
def Yex{H:T O}{n M k:Nat}(hM:M<n)(g:H.get M=some (.cells (Zkl [.int .i64 0,.nilslice,.int .i64 0,.nilslice] k) 175 true)):Zz6 H n M k []:=by
 refine⟨hM,Yvy _,_,g,by simp[Zkl],fun x hx m=>?_,fun j q hq=>by simp at hq⟩
 unfold Zkl at hx
 obtain⟨i,_,rfl⟩:=Yup.1 hx
 have h4:i%4=0∨i%4=1∨i%4=2∨i%4=3:=by omega
 show ([V.int .i64 0,.nilslice,.int .i64 0,.nilslice].getD (i%4) (.tup []))≠_
 rcases h4 with h|h|h|h<;>rw[h]<;>simp
def Yhc{nB:Nat}{B:T O}{n0 mp:Nat}{vg vl:V}{g:List Stg}{l:List FmR}{r0:T V}(hBn:nB≤n0)(hg:Gr B n0 vg g)(hG:OkG g)(hfl:∀s∈g,s.factor.length≤20)(hs:Sn 4 B n0 vl (l.map fmC))(hv:∀f∈l,chkNum f.val=0∧f.val.length≤400)(hl:l.length≤1000)(hP:P10 B n0)(hmp:B.get mp=some (.map Yiv))(hmpl:mp<n0)(a0:r0.get 0=some vg)(a6:r0.get 6=some (.map mp))(a22:r0.get 22=some vl)(a23:r0.get 23=some (.int .i64 l.length)):
  ∀m r st,(∀t,inD [(4,5),(7,8),(10,14),(16,18),(24,99)] t=false→r.get t=r0.get t)→Fx [(4,5),(7,8),(10,14),(16,18),(24,99)] r0 101 ⟨r,101,[]⟩→OtI nB B n0 g (l.map fmQ) m r st→Code A.C none A.lb41_2 ⟨r,101,[]⟩ st (Rd [(4,5),(7,8),(10,14),(16,18),(24,99)] r0 101 (OtI nB B n0 g (l.map fmQ)) m (fun e r st=>Zac nB st.w=[]∧Keeps B n0 st.h st.n∧((e=.exit 0∧OtI nB B n0 g (l.map fmQ) 0 r st)∨(e=.ret∧Zi9 g (l.map fmQ) (l.map fmQ).length=none∧r.get 4=some .nilslice∧r.get 5=some (.int .i64 4))))):=by
 rintro m r ⟨H,n1,W⟩ hr hf ⟨hW,hK,k,out,before,ov,bv,hk,h24,h8,h7,hout,hO,hB,hbl,hbq,hol,hoq⟩
 simp only at hW hK hO hB
 rw[Zai]
 have leK:=hK.le
 have lfs:(l.map fmQ).length=l.length:=Ytr ..
 cases m with
 |zero=>
  obtain rfl:k=l.length:=by omega
  simp(disch:=first|(simp;done)|omega|rfl) [-getElem?_pos,A.lb41_2,hr,hf,h24,a23]
  exact⟨hW,hK,hW,hK,_,out,before,ov,bv,by omega,by simp[h24],by simp[h8],by simp[h7],hout,hO,hB,hbl,hbq,hol,hoq⟩
 |succ m=>
  have g16:=hG.v.le
  have hlt:k<l.length:=by omega
  have hlt':(k:Int)<(l.length:Int):=by omega
  obtain⟨f,hfk⟩:=Zag hlt
  obtain⟨hv1,hv2⟩:=hv f (Ys9 hfk)
  have hcf:(l.map fmC)[k]?=some (fmC f):=by rw[Ytb,hfk];rfl
  obtain⟨i0,o0,c0,e0,rw0,q1,q2,q3,q4⟩:=(hs.keep hK).at hcf
  have hlv:=hs.len
  rw[Ytr]at hlv
  have lg:=hg.len
  have hcs:(V.agg (fmC f)).cells=fmC f:=rfl
  have hls:(fmC f).length=4:=rfl
  have hos:(fmC f).all V.one=true:=rfl
  have sps:splice [V.int .i64 0,.int .i64 0,.int .i64 0,.str []] 0 (fmC f)=fmC f:=rfl
  have hmk:=fun st=>Ylk (st:=st) (e:=175) (k:=g.length) (by omega)
  simp(disch:=first|(simp;done)|omega|rfl) [-getElem?_pos, -V.cells, -V.one,A.lb41_2,hr,hf,h24,a23,a22,a0,hlv,lg,hlt,hlt',q1,q2,q3,q4,hcs,hls,hos,sps,Zak,hmk,St.alloc]
  generalize hH:((H.set n1 (.cells [.int .i64 0,.int .i64 0,.int .i64 0,.str []] 56 true)).set n1 (.cells (fmC f) 56 true)).set (n1+1) (.cells (Zkl [.int .i64 0,.nilslice,.int .i64 0,.nilslice] g.length) 175 true)=G
  have kG:Keeps H n1 G (n1+1+1):=by rw[←hH];exact(((Keeps.refl.new _).set (Ys6 _)).new _)
  have gF:G.get n1=some (.cells [.int .i64 f.n,.int .i64 f.a,.int .i64 f.d,.str f.val] 56 true):=by rw[←hH,T.get_set,Ys5 (by omega),T.get_set,Ys8 rfl];rfl
  have gM:G.get (n1+1)=some (.cells (Zkl [.int .i64 0,.nilslice,.int .i64 0,.nilslice] g.length) 175 true):=by rw[←hH,T.get_set,Ys8 rfl]
  clear hH
  have z1:¬n1<nB:=by omega
  refine Zah [(4,5),(11,14),(16,18),(33,93)] (fun e r st=>Zac nB st.w=[]∧Keeps H n1 st.h st.n∧((e=.exit 2∧SgI nB H n1 g [.int .i64 f.n,.int .i64 f.a,.int .i64 f.d,.str f.val] (Zdv f.val) before 0 r st)∨(e=.ret∧Zh3 g (Zdv f.val) before g.length=none∧r.get 4=some .nilslice∧r.get 5=some (.int .i64 4)))) (SgI nB H n1 g [.int .i64 f.n,.int .i64 f.a,.int .i64 f.d,.str f.val] (Zdv f.val) before) g.length ?_ (Yff (mp:=mp) (a1:=f.n) (a2:=f.a) (a3:=f.d) (val:=f.val) (vg:=vg) (vb:=bv) (by omega) (hg.keep hK) hG hfl hB.1 hbl hbq (hP.keep hK) ((hK.get mp hmpl).trans hmp) (by omega) hv1 hv2 (by simp[hr,a0]) (by simp[h7]) (by simp[hr,a6]) (by simp) (by simp) (by simp)) ?_
  ·exact⟨by simp[Zac,hW,z1],kG,0,[],by omega,by simp,by simp,rfl,rfl,(show n1+1<n1+1+1 by omega),gF,Yex (by show n1+1<n1+1+1;omega) gM,by simp⟩
  ·rintro e r2 ⟨H6,n6,W6⟩ hr2 ⟨hW6,hK6,⟨rfl,_,_,i,now,hi,h33,h11,hnl,hrow,hlt6,_,hN,hNq⟩|⟨rfl,hnone,h4,h5⟩⟩
   ·have hfi:=hf.inner (D':=[(4,5),(11,14),(16,18),(33,93)]) rfl (by simp) hr2
    simp only at hW6 hK6 hlt6 hN
    obtain rfl:i=g.length:=by omega
    have le6:=hK6.le
    have hnowF:=hN.frt
    rw[hnl]at hnowF
    have hfk2:(l.map fmQ)[k]?.getD 0=Zdv f.val:=by rw[Ytb,hfk];rfl
    have hout2:Zi9 g (l.map fmQ) (k+1)=some (out++[now],now):=by
     rw[Zi9,hout]
     simp only[hfk2,hrow]
    have kX:Keeps H6 n6 (H6.set n6 (.cells [.slice (n1+1) 0 g.length (some g.length) 4] 107 true)) (n6+1):=Keeps.refl.new _
    obtain⟨v',h',w',f1,f2,f3,f4,f5⟩:=MfO.push2 (w:=W6) (x:=.slice n6 0 1 (some 1) 1) ((hO.keep hK6).keep kX) (hnowF.keep kX) (by omega) (by simp[Za0,St.row,slc]) (by omega)
    have sp1:splice [V.nilslice] 0 [.slice (n1+1) 0 g.length (some g.length) 4]=[.slice (n1+1) 0 g.length (some g.length) 4]:=rfl
    simp(disch:=first|(simp;done)|omega|rfl) [-getElem?_pos,hr,hr2,h8,h11,h24,hfi,sp1,Zdg,f1]
    have hWn:Zac nB w'=[]:=Zng fun i hi=>by
     apply Yu0
     intro hc
     have h1:=(Zfn w' n0 i (by omega)).2 hi
     rw[f2]at h1
     have h2:=(Zfn W6 nB i hc).2 (Zkz h1).1
     rw[hW6]at h2
     simp at h2
    refine⟨m,by omega,hWn,((hK.trans hK6).trans kX).then f3,k+1,_,now,_,_,by omega,by simp,by simp,by simp,hout2,f4,f5,hnl,hNq,by simp[hol],fun r hr=>?_⟩
    rcases Yty.1 hr with hr|hr
    ·exact hoq r hr
    ·obtain rfl:r=now:=by simpa using hr
     exact⟨hnl,hNq⟩
   ·have hfi:=hf.inner (D':=[(4,5),(11,14),(16,18),(33,93)]) rfl (by simp) hr2
    simp only at hW6 hK6
    have hn2:Zi9 g (l.map fmQ) (k+1)=none:=by
     have hfk2:(l.map fmQ)[k]?.getD 0=Zdv f.val:=by rw[Ytb,hfk];rfl
     rw[Zi9,hout]
     simp only[hfk2,hnone]
    simp(disch:=first|(simp;done)|omega|rfl) [-getElem?_pos,hr,hr2,h4,h5,hfi]
    exact⟨hW6,hK.trans hK6,by have:=Zri hn2 (j:=(l.map fmQ).length) (by omega);rwa [lfs]at this⟩
set_option maxHeartbeats 4000000
def Sn.keepz{z:Nat}{h h':T O}{N N':Nat}{v:V}{l:List (List V)}(s:Sn z h N v l)(k:Keeps h N h' N'):Sn z h' N' v l:=by
 rcases s with s|⟨i,o,cp,c,e,rw,rfl,h2,h3,h4⟩
 ·exact .inl s
 ·exact .inr ⟨i,o,cp,c,e,rw,rfl,Yti h2 k.le,(k.get i h2).trans h3,h4⟩
def Zty(g:List Stg)(l:List FmR):Option (List (List Rat)):=(Zi9 g (l.map fmQ) l.length).map (·.1)
def Zx6{h:T O}{N:Nat}{u v:V}{g:List Stg}{l:List FmR}(hg:Gr h N u g)(hG:OkG g)(hfl:∀s∈g,s.factor.length≤20)(hs:Sn 4 h N v (l.map fmC))(hv:∀f∈l,chkNum f.val=0∧f.val.length≤400)(hl:l.length≤1000)(hP:P10 h N):Fn A.C 41 [u,v] h N (fun x h' n'=>(Zty g l=none∧x=.tup [.nilslice,.int .i64 4])∨∃z out,Zty g l=some out∧x=.tup [z,.int .i64 0]∧MfS h' n' z out∧out.length=l.length∧∀r∈out,r.length=g.length∧∀q∈r,Qb 2400 q):=by
 intro w
 have g16:=hG.v.le
 have lfs:(l.map fmQ).length=l.length:=Ytr ..
 have hlv:=hs.len
 rw[Ytr]at hlv
 rw[Zae,A.k41 (by simp)]
 simp(disch:=first|(simp;done)|omega|rfl) [-getElem?_pos,A.b41]
 refine Zaf Yiu ?_
 rintro _ H1 n1 k1 ⟨mp,m1,m2,rfl,hm⟩
 simp(disch:=first|(simp;done)|omega|rfl) [-getElem?_pos,]
 refine Zaf (Yej (hg.keep k1) (by omega)) ?_
 rintro bv H2 n2 k2 hb
 have j2:=k1.trans k2
 have le1:=k1.le
 have le2:=k2.le
 have hm2:=(k2.get mp m2).trans hm
 simp(disch:=first|(simp;done)|omega|rfl) [-getElem?_pos,hlv]
 refine Zah [(4,5),(7,8),(10,14),(16,18),(24,99)] (fun e r st=>Zac N st.w=[]∧Keeps H2 n2 st.h st.n∧((e=.exit 0∧OtI N H2 n2 g (l.map fmQ) 0 r st)∨(e=.ret∧Zi9 g (l.map fmQ) (l.map fmQ).length=none∧r.get 4=some .nilslice∧r.get 5=some (.int .i64 4)))) (OtI N H2 n2 g (l.map fmQ)) l.length ?_ (Yhc (mp:=mp) (by omega) (hg.keep j2) hG hfl (hs.keepz j2) hv hl (hP.keep j2) hm2 (by omega) (by simp) (by simp) (by simp) (by simp)) ?_
 ·exact⟨by simp[Zng],Keeps.refl,0,[],_,_,_,by omega,by simp,by simp,by simp,rfl,MfO.nil,hb,by simp,fun q hq=>by
   obtain⟨_,_,rfl⟩:=Yup.1 hq
   exact Qb.zero.mono (by decide),rfl,by simp⟩
 ·rintro e r ⟨H,n,W⟩ hr ⟨hW,hK,⟨rfl,_,_,k,out,before,ov,bv2,hk,h24,h8,h7,hout,hO,hB,hbl,hbq,hol,hoq⟩|⟨rfl,hnone,h4,h5⟩⟩
  ·simp only at hW hK hO
   obtain rfl:k=l.length:=by omega
   simp(disch:=first|(simp;done)|omega|rfl) [-getElem?_pos,hr,h8,Ret]
   exact⟨hW,j2.trans hK,_,out,by unfold Zty;rw[hout];rfl,rfl,hO.mfs,hol,hoq⟩
  ·simp only at hW hK
   rw[lfs]at hnone
   simp(disch:=first|(simp;done)|omega|rfl) [-getElem?_pos,hr,h4,h5,Ret]
   exact⟨hW,j2.trans hK,by unfold Zty;rw[hnone];rfl⟩
set_option maxHeartbeats 8000000
noncomputable def A.w40:=A.q Tryz.f40
noncomputable def A.lb40_0:=A.ql A.w40 0 []
noncomputable def A.b40:=(fun x0=>A.qb A.w40 [x0]) A.lb40_0
def A.k40:=@A.kk 40 58 [.tmp 2] A.b40 (by kernel_rfl) rfl
def Yqq{k:IntKind}{a b:Int}:Yco [.int k a,.int k b]=some (.int k (if a<b then b else a)):=rfl
def wz(x lo hi:Int):Int:=if x<lo∨hi<x then 3 else 0
def Zs5(l:List FmR)(i:Nat)(f:FmR):Int:=if 0<i∧(f.n≤((l[i-1]?).getD f).n∨f.a<((l[i-1]?).getD f).a) then 11 else 0
def frE(l:List FmR)(i:Nat):Int:=match l[i]? with
 |none=>0
 |some f=>Zam [wz f.n 1 999999999,wz f.a 0 100000000,wz f.d 0 100000000,((chkNum f.val:Nat):Int),Zs5 l i f]
def Zc2(l:List FmR):Int:=if 256<l.length then 5 else Zam ((List.range l.length).map (frE l))
def Zk1{F:Nat→Int}:∀{n:Nat},(∀j,j<n→F j=0)→Zam ((List.range n).map F)=0
 |0,_=>rfl
 |n+1,h=>by
  rw[List.range_succ,List.map_append]
  have ih:=Zk1 (n:=n) fun j hj=>h j (by omega)
  have hz:∀(a:List Int) (b:Int),Zam a=0→b=0→Zam (a++[b])=0:=by
   intro a
   induction a with
   |nil=>intro b _ hb;subst hb;rfl
   |cons x t ih=>
    intro b ha hb
    rw[Yvj,Zam]at*
    split at ha
    ·rename_i hx
     rw[Ys8 hx]
     exact ih b ha hb
    ·rename_i hx
     exact absurd ha hx
  exact hz _ _ ih (h n (by omega))
def Yjb{F:Nat→Int}{k n:Nat}(hk:k<n)(h:∀j,j<k→F j=0)(h0:F k≠0):Zam ((List.range n).map F)=F k:=by
 obtain⟨d,rfl⟩:∃d,n=k+(d+1):=⟨n-k-1,by omega⟩
 have key:∀(a b:List Int),Zam a=0→Zam (a++b)=Zam b:=by
  intro a
  induction a with
  |nil=>intro b _;rfl
  |cons x t ih=>
   intro b ha
   rw[Yvj,Zam]
   rw[Zam]at ha
   split at ha
   ·rename_i hx
    rw[Ys8 hx]
    exact ih b ha
   ·rename_i hx
    exact absurd ha hx
 rw[List.range_add,List.map_append,key _ _ (Zk1 h),List.range_succ_eq_map]
 simp[Zam,h0]
def Yo1{h:T O}{N:Nat}{v:V}{l:List FmR}(hs:Sn 4 h N v (l.map fmC))(hv:∀f∈l,f.val.length≤100000)(hl:l.length<100000):Fn A.C 40 [v] h N (fun u _ _=>u=.int .i64 (Zc2 l)):=by
 intro w
 have hlv:=hs.len
 rw[Ytr]at hlv
 rw[Zae,A.k40 (by simp)]
 by_cases h256:256<l.length
 ·have h256':(256:Int)<(l.length:Int):=by omega
  simp(disch:=first|(simp;done)|omega|rfl) [-getElem?_pos,A.b40,hlv,h256,h256',Ret,Zc2]
  exact Keeps.refl
 ·have h256':¬(256:Int)<(l.length:Int):=by omega
  have hc:Zc2 l=Zam ((List.range l.length).map (frE l)):=Ys5 h256
  rw[hc]
  simp(disch:=first|(simp;done)|omega|rfl) [-getElem?_pos,A.b40,hlv,h256,h256']
  refine Zah [(2,6),(12,57)] (fun e r st=>Zac N st.w=[]∧Keeps h N st.h st.n∧((e=.exit 0∧∀j,j<l.length→frE l j=0)∨(e=.ret∧∃k,k<l.length∧(∀j,j<k→frE l j=0)∧frE l k≠0∧r.get 2=some (.int .i64 (frE l k))))) (fun m r st=>Zac N st.w=[]∧Keeps h N st.h st.n∧∃k,k+m=l.length∧r.get 12=some (.int .i64 k)∧∀j,j<k→frE l j=0) l.length ?_ ?_ ?_
  ·exact⟨by simp,Keeps.refl,0,by omega,by simp,by omega⟩
  ·rintro m r ⟨H,n1,W⟩ hr hf ⟨hW,hK,k,hk,h12,hz⟩
   simp only at hW hK
   rw[Zai]
   have leK:=hK.le
   cases m with
   |zero=>
    obtain rfl:k=l.length:=by omega
    simp(disch:=first|(simp;done)|omega|rfl) [-getElem?_pos,A.lb40_0,hr,hf,h12,hlv,hW,hK]
    exact hz
   |succ m=>
    have hlt:k<l.length:=by omega
    have hlt':(k:Int)<(l.length:Int):=by omega
    obtain⟨f,hfk⟩:=Zag hlt
    have hfl:=hv f (Ys9 hfk)
    have hpl:k-1<l.length:=by omega
    have hpl':((k-1:Nat):Int)<(l.length:Int):=by omega
    obtain⟨p,hpk⟩:=Zag hpl
    obtain⟨i0,o0,c0,e0,rw0,q1,q2,q3,q4⟩:=(hs.keepz hK).at (show (l.map fmC)[k]?=some (fmC f) by rw[Ytb,hfk];rfl)
    obtain⟨i1,o1,c1,e1,rw1,p1,p2,p3,p4⟩:=(hs.keepz hK).at (show (l.map fmC)[k-1]?=some (fmC p) by rw[Ytb,hpk];rfl)
    rw[q1]at p1
    simp only[Ys3,Ys7]at p1
    obtain⟨rfl,rfl⟩:=p1
    rw[q3]at p3
    simp only[Ys3,O.cells.injEq]at p3
    obtain⟨rfl,rfl,rfl⟩:=p3
    have hcs:∀f:FmR,(V.agg (fmC f)).cells=fmC f:=fun _=>rfl
    have hls:∀f:FmR,(fmC f).length=4:=fun _=>rfl
    have hos:∀f:FmR,(fmC f).all V.one=true:=fun _=>rfl
    have sps:∀f:FmR,splice [V.int .i64 0,.int .i64 0,.int .i64 0,.str []] 0 (fmC f)=fmC f:=fun _=>rfl
    have hmx:(if (1:Int)<(k:Int) then (k:Int)-1 else 0)=((k-1:Nat):Int):=by split<;>omega
    have fk0:(fmC f)[0]?=some (.int .i64 f.n):=rfl
    have fk1:(fmC f)[1]?=some (.int .i64 f.a):=rfl
    have fk2:(fmC f)[2]?=some (.int .i64 f.d):=rfl
    have fk3:(fmC f)[3]?=some (.str f.val):=rfl
    have pk0:(fmC p)[0]?=some (.int .i64 p.n):=rfl
    have pk1:(fmC p)[1]?=some (.int .i64 p.a):=rfl
    have d1:¬i0=n1:=by omega
    have d2:i0<n1+1:=by omega
    have z0:n1<n1+1:=by omega
    have z1:¬n1=n1+1:=by omega
    simp(disch:=first|(simp;done)|omega|rfl) [-getElem?_pos, -V.cells, -V.one,A.lb40_0,hr,hf,h12,hlv,hlt,hlt',q1,q2,q3,q4,hcs,hls,hos,sps,Zak,Zfg,Yqq,hmx,hpl,hpl',p2,p4,d1,d2,z0,z1,fk0,fk1,fk2,fk3,pk0,pk1,Zgt]
    generalize hH:(((H.set n1 (.cells [.int .i64 0,.int .i64 0,.int .i64 0,.str []] 56 true)).set n1 (.cells (fmC f) 56 true)).set (n1+1) (.cells [.int .i64 0,.int .i64 0,.int .i64 0,.str []] 56 true)).set (n1+1) (.cells (fmC p) 56 true)=G
    have kG:Keeps H n1 G (n1+1+1):=by rw[←hH];exact(((Keeps.refl.new _).set (Ys6 _)).new _).set (by omega)
    have gf:G.get n1=some (.cells (fmC f) 56 true):=by rw[←hH,T.get_set,Ys5 (by omega),T.get_set,Ys5 (by omega),T.get_set,Ys8 rfl]
    have gp:G.get (n1+1)=some (.cells (fmC p) 56 true):=by rw[←hH,T.get_set,Ys8 rfl]
    clear hH
    refine Zaf (Zw6 hfl) ?_
    rintro _ H4 n4 k4 rfl
    have le4:=k4.le
    have gf4:=(k4.get n1 (by omega)).trans gf
    have gp4:=(k4.get (n1+1) (by omega)).trans gp
    have dn1:n1<n4:=by omega
    have dn2:n1+1<n4:=by omega
    have kX:∀c,Keeps h N (H4.set n4 (.cells c 30 true)) (n4+1):=fun c=>(((hK.trans kG).trans k4).new _)
    have hgd:(l[k-1]?).getD f=p:=by rw[hpk];rfl
    have efr:frE l k=Zam [wz f.n 1 999999999,wz f.a 0 100000000,wz f.d 0 100000000,((chkNum f.val:Nat):Int),Zs5 l k f]:=by
     unfold frE
     rw[hfk]
    have eor:Zs5 l k f=if 0<k∧(f.n≤p.n∨f.a<p.a) then 11 else 0:=by
     unfold Zs5
     rw[hgd]
    have w1:¬n1<N:=by omega
    have w2:¬n1+1<N:=by omega
    have w3:¬n4<N:=by omega
    have hz2:frE l k=0→∀j,j<k+1→frE l j=0:=fun h0 j hj=>by
     by_cases e:j=k
     ·subst e;exact h0
     ·exact hz j (by omega)
    unfold wz at efr
    have hci:∀z:Int,(V.int .i64 z).cells=[V.int .i64 z]:=fun _=>rfl
    have hco:∀z:Int,V.one (V.int .i64 z)=true:=fun _=>rfl
    by_cases k0:0<k
    ·have k0':(0:Int)<(k:Int):=by omega
     by_cases e1:f.n≤p.n
     ·have ho:Zs5 l k f=11:=by rw[eor,Ys8 ⟨k0,.inl e1⟩]
      have pf:=fun w=>Zp4 (h:=H4) (N:=n4+1) (i:=n4) (w:=w) (a0:=if f.n<1∨999999999<f.n then 3 else 0) (a1:=if f.a<0∨100000000<f.a then 3 else 0) (a2:=if f.d<0∨100000000<f.d then 3 else 0) (a3:=((chkNum f.val:Nat):Int)) (a4:=11) (by omega)
      rw[ho]at efr
      rw[←efr]at pf
      simp(disch:=first|(simp;done)|omega|rfl) [-getElem?_pos, -V.cells, -V.one,hr,hf,h12,gf4,gp4,dn1,dn2,fk0,fk1,pk0,pk1,k0,k0',e1,Zch,splice,pf,hci,hco,Zad]
      by_cases h0:frE l k=0
      ·simp(disch:=first|(simp;done)|omega|rfl) [-getElem?_pos,h0,hr,hf,h12,hW]
       exact⟨m,by omega,by simp[Zac,hW,w1,w2,w3],kX _,k+1,by omega,by simp,hz2 h0⟩
      ·simp(disch:=first|(simp;done)|omega|rfl) [-getElem?_pos,h0,hr,hf,h12,hW]
       exact⟨by simp[Zac,hW,w1,w2,w3],kX _,k,hlt,hz,h0,by simp⟩
     ·by_cases e2:f.a<p.a
      ·have ho:Zs5 l k f=11:=by rw[eor,Ys8 ⟨k0,.inr e2⟩]
       have pf:=fun w=>Zp4 (h:=H4) (N:=n4+1) (i:=n4) (w:=w) (a0:=if f.n<1∨999999999<f.n then 3 else 0) (a1:=if f.a<0∨100000000<f.a then 3 else 0) (a2:=if f.d<0∨100000000<f.d then 3 else 0) (a3:=((chkNum f.val:Nat):Int)) (a4:=11) (by omega)
       rw[ho]at efr
       rw[←efr]at pf
       simp(disch:=first|(simp;done)|omega|rfl) [-getElem?_pos, -V.cells, -V.one,hr,hf,h12,gf4,gp4,dn1,dn2,fk0,fk1,pk0,pk1,k0,k0',e1,e2,Zch,splice,pf,hci,hco,Zad]
       by_cases h0:frE l k=0
       ·simp(disch:=first|(simp;done)|omega|rfl) [-getElem?_pos,h0,hr,hf,h12,hW]
        exact⟨m,by omega,by simp[Zac,hW,w1,w2,w3],kX _,k+1,by omega,by simp,hz2 h0⟩
       ·simp(disch:=first|(simp;done)|omega|rfl) [-getElem?_pos,h0,hr,hf,h12,hW]
        exact⟨by simp[Zac,hW,w1,w2,w3],kX _,k,hlt,hz,h0,by simp⟩
      ·have ho:Zs5 l k f=0:=by rw[eor,Ys5 (by rintro⟨_,h|h⟩<;>omega)]
       have pf:=fun w=>Zp4 (h:=H4) (N:=n4+1) (i:=n4) (w:=w) (a0:=if f.n<1∨999999999<f.n then 3 else 0) (a1:=if f.a<0∨100000000<f.a then 3 else 0) (a2:=if f.d<0∨100000000<f.d then 3 else 0) (a3:=((chkNum f.val:Nat):Int)) (a4:=0) (by omega)
       rw[ho]at efr
       rw[←efr]at pf
       simp(disch:=first|(simp;done)|omega|rfl) [-getElem?_pos, -V.cells, -V.one,hr,hf,h12,gf4,gp4,dn1,dn2,fk0,fk1,pk0,pk1,k0,k0',e1,e2,Zch,splice,pf,hci,hco,Zad]
       by_cases h0:frE l k=0
       ·simp(disch:=first|(simp;done)|omega|rfl) [-getElem?_pos,h0,hr,hf,h12,hW]
        exact⟨m,by omega,by simp[Zac,hW,w1,w2,w3],kX _,k+1,by omega,by simp,hz2 h0⟩
       ·simp(disch:=first|(simp;done)|omega|rfl) [-getElem?_pos,h0,hr,hf,h12,hW]
        exact⟨by simp[Zac,hW,w1,w2,w3],kX _,k,hlt,hz,h0,by simp⟩
    ·have k0':¬(0:Int)<(k:Int):=by omega
     have ho:Zs5 l k f=0:=by rw[eor,Ys5 (by rintro⟨h,_⟩;omega)]
     have pf:=fun w=>Zp4 (h:=H4) (N:=n4+1) (i:=n4) (w:=w) (a0:=if f.n<1∨999999999<f.n then 3 else 0) (a1:=if f.a<0∨100000000<f.a then 3 else 0) (a2:=if f.d<0∨100000000<f.d then 3 else 0) (a3:=((chkNum f.val:Nat):Int)) (a4:=0) (by omega)
     rw[ho]at efr
     rw[←efr]at pf
     simp(disch:=first|(simp;done)|omega|rfl) [-getElem?_pos, -V.cells, -V.one,hr,hf,h12,gf4,gp4,dn1,dn2,fk0,fk1,pk0,pk1,k0,k0',Zch,splice,pf,hci,hco,Zad]
     by_cases h0:frE l k=0
     ·simp(disch:=first|(simp;done)|omega|rfl) [-getElem?_pos,h0,hr,hf,h12,hW]
      exact⟨m,by omega,by simp[Zac,hW,w1,w2,w3],kX _,k+1,by omega,by simp,hz2 h0⟩
     ·simp(disch:=first|(simp;done)|omega|rfl) [-getElem?_pos,h0,hr,hf,h12,hW]
      exact⟨by simp[Zac,hW,w1,w2,w3],kX _,k,hlt,hz,h0,by simp⟩
  ·rintro e r ⟨H,n,W⟩ hr ⟨hW,hK,⟨rfl,hz⟩|⟨rfl,k,hk,hz,h0,h2⟩⟩
   ·simp only at hW hK
    simp(disch:=first|(simp;done)|omega|rfl) [-getElem?_pos,hr,Ret,Zk1 hz]
    exact⟨hW,hK⟩
   ·simp only at hW hK
    simp(disch:=first|(simp;done)|omega|rfl) [-getElem?_pos,hr,h2,Ret,Yjb hk hz h0]
    exact⟨hW,hK⟩
variable {N:Nat} {h h':T O} {l:List Rat} {m:List (List Rat)} {v:V}
def Tx(h:T O)(N:Nat)(v:V)(l:List Rat):Prop:=Sl h N v (tx l)
def Tx.keep{N':Nat}(s:Tx h N v l)(k:Keeps h N h' N'):Tx h' N' v l:=Sl.keep s k
def Tx.len(s:Tx h N v l):Zo9 v=some l.length:=by
 have:=Sl.len s
 rwa [Zjh]at this
def TxM(h:T O)(N:Nat)(v:V)(m:List (List Rat)):Prop:=∃us:List V,Sl h N v us∧us.length=m.length∧∀(j:Nat) (l:List Rat),m[j]?=some l→∃u,us[j]?=some u∧Tx h N u l
def TxM.keep{N':Nat}(s:TxM h N v m)(k:Keeps h N h' N'):TxM h' N' v m:=by
 obtain⟨us,h1,h2,h3⟩:=s
 refine⟨us,h1.keep k,h2,fun j l hl=>?_⟩
 obtain⟨u,g1,g2⟩:=h3 j l hl
 exact⟨u,g1,g2.keep k⟩
def TxM.len(s:TxM h N v m):Zo9 v=some m.length:=by
 obtain⟨us,h1,h2,_⟩:=s
 rw[h1.len,h2]
def TxM.at(s:TxM h N v m){j:Nat}{l:List Rat}(hj:m[j]?=some l):∃i o c e rw u,Zlv v=some (i,o)∧i<N∧h.get i=some (.cells c e rw)∧c[o+j]?=some u∧Tx h N u l:=by
 obtain⟨us,h1,h2,h3⟩:=s
 obtain⟨u,g1,g2⟩:=h3 j l hj
 obtain⟨i,o,c,e,rw,q1,q2,q3,q4⟩:=h1.at g1
 exact⟨i,o,c,e,rw,u,q1,q2,q3,q4,g2⟩
def TxT(h:T O)(N:Nat)(u:V)(l:List Rat):Prop:=Tx h N u l∧∀i∈Zff u,∃z w,h.get i=some (.cells z 37 w)
def Ykn{l:List V}(s:Sl h N v l):∀i∈Zff v,i<N:=fun i hi=>by
 rcases s with⟨_,rfl|rfl⟩|⟨j,o,cp,c,e,rw,rfl,hj,_⟩
 ·simp[Zff]at hi
 ·simp[Zff]at hi
 ·simp[Zff]at hi;omega
def TxT.moved{n n':Nat}{u:V}{Y:V→Prop}{e:TypeId}(s:TxT h n u l)(k:Upd (fun i=>i∈Zff v) h n h' n')(hd:Zz7 e Y h v)(he:e≠37):TxT h' n' u l:=by
 have hn:∀i∈Zff u,i∉Zff v:=fun i hi hc=>by
  obtain⟨z,w,hz⟩:=s.2 i hi
  obtain⟨z2,hz2,_⟩:=hd i hc
  rw[hz]at hz2
  simp at hz2
  exact he hz2.2.1.symm
 exact⟨Sl.moved s.1 k hn,fun i hi=>by rw[k.get i (Ykn s.1 i hi) (hn i hi)];exact s.2 i hi⟩
def Yge{out:List (List V)}(h:∀x∈out,x.length=1):∃ys:List V,out=ys.map fun y=>[y]:=by
 induction out with
 |nil=>exact⟨[],rfl⟩
 |cons x t ih=>
  obtain⟨ys,rfl⟩:=ih fun x hx'=>h x (Ytv _ hx')
  have:=h x Yt2
  match x,this with
  |[y],_=>exact⟨y::ys,rfl⟩
noncomputable def A.w42:=A.q Tryz.f42
noncomputable def A.lb42_0:=A.ql A.w42 0 []
noncomputable def A.b42:=(fun x0=>A.qb A.w42 [x0]) A.lb42_0
def A.k42:=@A.kk 42 22 [.tmp 4] A.b42 (by kernel_rfl) rfl
def Ygw{f:V}{l:List V}{Q:Nat→T O→Nat→V→Prop}(Y:V→Prop)(hQ:∀j h n h' n' c u,Q j h n c→Upd (fun i=>i∈Zff u) h n h' n'→Zz7 42 Y h u→Q j h' n' c)(hs:Sl h N v l)(hl:l.length<1000000000)(hf:∀(j:Nat) (x:V),l[j]?=some x→∀h' n',Keeps h N h' n'→FnV A.C f [x] h' n' (fun u h2 n2=>∃y,u=y∧[y].length=1∧[y].all V.one=true∧(∀q∈[y],Y q)∧Q j h2 n2 y)):Fn A.C 42 [v,f] h N (fun u h' n'=>∃out,Own 1 42 N h' n' u out∧out.length=l.length∧∀(j:Nat),j<l.length→∃y,out[j]?=some [y]∧Q j h' n' y):=by
 intro w
 have hlen:=hs.len
 rw[Zae,A.k42 (by simp)]
 simp(disch:=first|(simp;done)|omega|rfl) [-getElem?_pos,A.b42,hlen]
 refine Zah [(5,5),(7,7),(10,20)] (fun e r st=>e=.exit 0∧Zac N st.w=[]∧Keeps h N st.h st.n∧∃u out,r.get 5=some u∧Own 1 42 N st.h st.n u out∧out.length=l.length∧∀(j:Nat),j<l.length→∃y,out[j]?=some [y]∧Q j st.h st.n y) (fun m r st=>Zac N st.w=[]∧Keeps h N st.h st.n∧∃k u out,k+m=l.length∧r.get 10=some (.int .i64 k)∧r.get 5=some u∧Own 1 42 N st.h st.n u out∧out.length=k∧(out=[]→u=.nilslice)∧(∀c∈out,∀y∈c,Y y)∧∀(j:Nat),j<k→∃y,out[j]?=some [y]∧Q j st.h st.n y) l.length ?_ ?_ ?_
 ·exact⟨by simp,Keeps.refl,0,.nilslice,[],by omega,by simp,by simp,Own.nil,rfl,fun _=>rfl,by simp,fun j hj=>by omega⟩
 ·rintro m r ⟨H,n1,W⟩ hr hf2 ⟨hW,hK,k,u,out,hk,h10,h5,ho,hol,hnil,hY,hout⟩
  simp only at hW hK ho hout
  rw[Zai]
  cases m with
  |zero=>
   have hkk:k=l.length:=by omega
   subst hkk
   simp(disch:=first|(simp;done)|omega|rfl) [-getElem?_pos,A.lb42_0,hr,hf2,h10,hW,hK]
   exact⟨u,h5,out,ho,hol,hout⟩
  |succ m=>
   have hlt:k<l.length:=by omega
   obtain⟨x,hx⟩:=Zag hlt
   obtain⟨i,o,cc,e,rw,q1,q2,q3,q4⟩:=(hs.keep hK).at hx
   have hk1:(k:Int)<(l.length:Int):=by omega
   have kA:=hK
   simp(disch:=first|(simp;done)|omega|rfl) [-getElem?_pos,A.lb42_0,hr,hf2,h10,h5,hk1,hlt,hlen,q1,q3,q4]
   refine Zgz (hf k x hx _ _ kA) ?_
   rintro y h3 n3 k3 ⟨_,rfl,c1,c2,cY,c3⟩
   have kle3:=k3.le
   have kn:=hK.le
   have kB:=kA.trans k3
   have b1:V.one y=true:=by simpa using c2
   have b2:V.cells y=[y]:=by cases y<;>first|rfl|cases b1
   simp(disch:=first|(simp;done)|omega|rfl) [-getElem?_pos, -V.cells, -V.one,hr,hf2,h10,h5,b1,b2,splice]
   have ho3:Own 1 42 N (h3.set n3 (.cells [y] 42 true)) (n3+1) u out:=(ho.keep ((Keeps.refl).trans k3)).keep (Keeps.refl.new _)
   obtain⟨v',h',w',f1,f2,f3,f4,fD,f5⟩:=Zgm (Y:=Y) (x:=[y]) (u:=.slice n3 0 1 (some 1) 1) (bytes:=24) (w:=W) ho3 hnil hY (by omega) (by decide) c1 (by simp[Za0,St.row,slc]) (by omega)
   rw[f1]
   have wok:¬n1<N:=by omega
   have f6:Zac N w'=[]:=by rw[f2];simp[Zac,hW,wok]
   have kz:=(kB.new (.cells [y] 42 true)).then f3
   have k4:Keeps h3 n3 (h3.set n3 (.cells [y] 42 true)) (n3+1):=Keeps.refl.new _
   have hq4:Q k (h3.set n3 (.cells [y] 42 true)) (n3+1) y:=hQ _ _ _ _ _ _ .nilslice c3 k4.upd Zz7.nil
   simp(disch:=first|(simp;done)|omega|rfl) [-getElem?_pos,hr,hf2,h10,f6]
   refine⟨m,by omega,kz,k+1,by omega,by simp,out++[[y]],f5,by simp[hol],by simp,fun c' hc z hz=>?_,fun j hj=>?_⟩
   ·rcases Yty.1 hc with hc|hc
    ·exact hY c' hc z hz
    ·simp only[Yuv]at hc;subst hc;exact cY z hz
   by_cases hjk:j<k
   ·obtain⟨y,g1,g2⟩:=hout j hjk
    exact⟨y,by rw[Yto (by omega)];exact g1,hQ _ _ _ _ _ _ _ (hQ _ _ _ _ _ _ .nilslice g2 (((Keeps.refl).trans k3).trans k4).upd Zz7.nil) f4 fD⟩
   ·obtain rfl:j=k:=by omega
    exact⟨y,by rw[Yt0 (by omega),hol];simp,hQ _ _ _ _ _ _ _ hq4 f4 fD⟩
 ·rintro _ r ⟨H,n1,W⟩ hr ⟨rfl,hW,hK,u,out,h5,ho,hol,hout⟩
  simp only at hW hK ho hout
  simp(disch:=first|(simp;done)|omega|rfl) [-getElem?_pos,hr,h5,Ret,hW,hK]
  exact⟨out,ho,hol,hout⟩
def Ygx{k0:Nat}(hs:MfS h N v m)(hl:m.length<100000)(hq:∀r∈m,r.length<1000000000∧∀q∈r,Qb k0 q)(hk0:k0≤400000000)(hP:P10 h N):Fn A.C 42 [v,.func 43 [] []] h N (fun u h' n'=>TxM h' n' u m):=by
 obtain⟨us,h1,h2,h3⟩:=hs
 have key:=Ygw (f:=.func 43 [] []) (Q:=fun j h n u=>∀l,m[j]?=some l→TxT h n u l) NW (fun j h n h' n' c u hq k hd l hl=>(hq l hl).moved k hd (by simp)) h1 (by omega) ?_
 ·intro w
  refine(key w).mono fun y st=>?_
  rintro⟨q1,q2,out,o1,o2,o3⟩
  obtain⟨ys,rfl⟩:=Yge o1.1
  refine⟨q1,q2,ys,Sn.one.1 o1.sn,by simpa[h2]using o2,fun j l hl=>?_⟩
  obtain⟨y,g1,g2⟩:=o3 j (by have:=Zat hl;omega)
  refine⟨y,?_,(g2 l hl).1⟩
  rw[Ytb]at g1
  cases hy:ys[j]? with
  |none=>rw[hy]at g1;simp at g1
  |some z=>rw[hy]at g1;simpa using g1
 ·intro j x hx h' n' hk
  obtain⟨l,hl⟩:=Zag (l:=m) (k:=j) (by have:=Zat hx;omega)
  obtain⟨u,g1,g2⟩:=h3 j l hl
  rw[hx]at g1
  obtain rfl:x=u:=by simpa using g1
  obtain⟨b1,b2⟩:=hq l (Ys9 hl)
  refine fun w=>(Yfa (k0:=k0) (g2.keep hk).1 (hP.keep hk) b1 b2 hk0 w).mono fun y st=>?_
  rintro⟨q1,q2,q3⟩
  have f1:=q3.1.form.one
  refine⟨q1,q2,y,rfl,rfl,by simp only[List.all_cons,List.all_nil,f1,Bool.and_true],fun z hz m=>by
   obtain rfl:z=y:=by simpa using hz
   rcases q3.1 with⟨_,rfl|rfl⟩|⟨_,_,_,_,_,_,rfl,_⟩<;>simp,fun l' hl'=>?_⟩
  rw[hl]at hl'
  obtain rfl:l=l':=by simpa using hl'
  exact q3
set_option maxHeartbeats 4000000
noncomputable def A.b9:=A.q Tryz.f9
def A.k9:=@A.kk 9 29 [.tmp 4,.tmp 5] A.b9 (by kernel_rfl) rfl
def Zk0:∀{l:List Int},Zam l=0→∀x∈l,x=0
 |[],_,x,hx=>by simp at hx
 |y::t,h,x,hx=>by
  rw[Zam]at h
  split at h
  ·rename_i hy
   rcases Yt1.1 hx with rfl|hx
   ·exact hy
   ·exact Zk0 h x hx
  ·rename_i hy
   exact absurd h hy
def Zfr{l:List FmR}(h:Zc2 l=0):l.length≤256∧∀f∈l,chkNum f.val=0:=by
 unfold Zc2 at h
 split at h
 ·cases h
 rename_i hl
 refine⟨by omega,fun f hf=>?_⟩
 obtain⟨k,hk⟩:=List.mem_iff_getElem?.1 hf
 have h1:=Zk0 h (frE l k) (Yup.2 ⟨k,Yv7.2 (Zat hk),rfl⟩)
 unfold frE at h1
 rw[hk]at h1
 have h2:=Zk0 h1 ((chkNum f.val:Nat):Int) (by simp)
 omega
def Zx7(g:List Stg)(l:List FmR):Int:=Zam [(chkGraph g:Nat),Zc2 l]
def Ynr{g:List Stg}{l:List FmR}(h:Zx7 g l=0):chkGraph g=0∧Zc2 l=0:=⟨by
 have:=Zk0 h ((chkGraph g:Nat):Int) (by simp)
 omega,Zk0 h _ (by simp)⟩
def Zp2{h:T O}{N:Nat}{u v:V}{g:List Stg}{l:List FmR}(hg:Gr h N u g)(hgl:g.length<1000000)(hf:Yrb g)(hs:Sn 4 h N v (l.map fmC))(hv:∀f∈l,f.val.length≤400)(hl:l.length<1000)(hP:P10 h N):Fn A.C 9 [u,v] h N (fun x h' n'=>(Zx7 g l≠0∧x=.tup [.nilslice,.int .i64 (Zx7 g l)])∨(Zx7 g l=0∧Zty g l=none∧x=.tup [.nilslice,.int .i64 4])∨(Zx7 g l=0∧∃z out,Zty g l=some out∧x=.tup [z,.int .i64 0]∧TxM h' n' z out∧out.length=l.length∧∀r∈out,r.length=g.length∧∀q∈r,Qb 2400 q)):=by
 intro w
 rw[Zae,A.k9 (by simp)]
 simp(disch:=first|(simp;done)|omega|rfl) [-getElem?_pos,A.b9]
 refine Zaf (Zqr hg hgl hf) ?_
 rintro _ H1 n1 k1 rfl
 have le1:=k1.le
 simp(disch:=first|(simp;done)|omega|rfl) [-getElem?_pos,]
 refine Zaf (Yo1 (hs.keepz k1) (fun f hf=>by have:=hv f hf;omega) (by omega)) ?_
 rintro _ H2 n2 k2 rfl
 have le2:=k2.le
 have j2:=k1.trans k2
 have pf:=fun w=>Zp5 (h:=H2) (N:=n2+1) (i:=n2) (w:=w) (a0:=((chkGraph g:Nat):Int)) (a1:=Zc2 l) (by omega)
 rw[show Zam [((chkGraph g:Nat):Int),Zc2 l]=Zx7 g l from rfl]at pf
 have kB:Keeps H2 n2 (H2.set n2 (.cells [.int .i64 ((chkGraph g:Nat):Int),.int .i64 (Zc2 l)] 30 true)) (n2+1):=Keeps.refl.new _
 by_cases h0:Zx7 g l=0
 ·obtain⟨c1,c2⟩:=Ynr h0
  have hG:=Zlm c1
  obtain⟨c3,c4⟩:=Zfr c2
  simp(disch:=first|(simp;done)|omega|rfl) [-getElem?_pos,pf,splice,h0]
  refine Zaf (Zx6 ((hg.keep j2).keep kB) hG (fun s hs=>(hf s hs).1) ((hs.keepz j2).keepz kB) (fun f hf=>⟨c4 f hf,hv f hf⟩) (by omega) ((hP.keep j2).keep kB)) ?_
  rintro x H3 n3 k3 (⟨e1,rfl⟩|⟨z,out,e1,rfl,hz,e2,e3⟩)
  ·simp(disch:=first|(simp;done)|omega|rfl) [-getElem?_pos,Ret]
   exact⟨(j2.trans kB).trans k3,e1⟩
  ·simp(disch:=first|(simp;done)|omega|rfl) [-getElem?_pos,]
   refine Zaf (Ygx (k0:=2400) hz (by omega) (fun r hr=>⟨by have:=(e3 r hr).1;omega,(e3 r hr).2⟩) (by decide) (((hP.keep j2).keep kB).keep k3)) ?_
   rintro x H4 n4 k4 hx
   simp(disch:=first|(simp;done)|omega|rfl) [-getElem?_pos,Ret]
   exact⟨((j2.trans kB).trans k3).trans k4,_,out,e1,rfl,hx,e2,e3⟩
 ·simp(disch:=first|(simp;done)|omega|rfl) [-getElem?_pos,pf,splice,h0,Ret]
  exact j2.trans kB
end Go.Mx
