/-Replay-/
import Derived.Test.YtmoaaooccjbecaaGreatDoorRpD
set_option linter.all false
namespace Go.Mx
open Go Go.Proofs
set_option maxRecDepth 1000000
def Yen:∀{a b:List FmR},a.Pairwise (fun x y=>x.n<y.n)→b.Pairwise (fun x y=>x.n<y.n)→(∀x,x∈a↔x∈b)→a=b
 |[],[],_,_,_=>rfl
 |[],y::b,_,_,h=>by have:=(h y).2 (by simp);simp at this
 |x::a,[],_,_,h=>by have:=(h x).1 (by simp);simp at this
 |x::a,y::b,ha,hb,h=>by
  obtain⟨a1,a2⟩:=List.pairwise_cons.1 ha
  obtain⟨b1,b2⟩:=List.pairwise_cons.1 hb
  have e:x=y:=by
   rcases Yt7.1 ((h x).1 (by simp))with e|e
   ·exact e
   ·rcases Yt7.1 ((h y).2 (by simp))with e2|e2
    ·exact e2.symm
    ·have:=a1 y e2;have:=b1 x e;omega
  subst e
  rw[Yen a2 b2 fun z=>?_]
  constructor
  ·intro hz
   rcases Yt7.1 ((h z).1 (by simp[hz]))with e|e
   ·subst e;have:=a1 z hz;omega
   ·exact e
  ·intro hz
   rcases Yt7.1 ((h z).2 (by simp[hz]))with e|e
   ·subst e;have:=b1 z hz;omega
   ·exact e
def Yn1{α:Type}{l:List α}{F:α→Int}(h:∀(j:Nat) (x y:α),l[j]?=some x→l[j+1]?=some y→F x<F y):l.Pairwise (fun x y=>F x<F y):=by
 have key:∀(d i:Nat) (x y:α),l[i]?=some x→l[i+d+1]?=some y→F x<F y:=by
  intro d
  induction d with
  |zero=>intro i x y hx hy;exact h i x y hx hy
  |succ d ih=>
   intro i x y hx hy
   obtain⟨m,hm⟩:=Zag (l:=l) (show i+d+1<l.length by have:=Zar hy;omega)
   have h1:=ih i x m hx hm
   have h2:=h (i+d+1) m y hm hy
   omega
 rw[List.pairwise_iff_getElem]
 intro i j hi hj hij
 exact key (j-i-1) i _ _ (Ytj hi) (by rw[show i+(j-i-1)+1=j by omega];exact Ytj hj)
def Zzy{l:List FmR}(h:Zcg l=0):l.Pairwise (fun x y=>x.n<y.n):=by
 refine Yn1 (F:=FmR.n) fun j x y hx hy=>?_
 unfold Zcg at h
 split at h
 ·cases h
 ·have h1:frE l (j+1)=0:=Zfn h _ (Yur.2 ⟨j+1,Ywi.2 (Zar hy),rfl⟩)
  unfold frE at h1
  rw[hy]at h1
  simp only at h1
  have h2:Zx6 l (j+1) y=0:=Zfn h1 _ (by simp)
  unfold Zx6 at h2
  rw[show j+1-1=j by omega,hx]at h2
  simp only[Yvq]at h2
  apply Yv7
  intro hc
  rw[Ytg ⟨by omega,.inl hc⟩]at h2
  cases h2
def Zo7{p:Nat→Bool}:∀{m k:Nat},Za6 p k m<0→∀j,k≤j→j<k+m→p j=false
 |0,k,_,j,h1,h2=>by omega
 |m+1,k,h,j,h1,h2=>by
  simp only[Za6]at h
  by_cases hp:p k=true
  ·rw[Ytg hp]at h;omega
  ·rw[Yte hp]at h
   by_cases e:j=k
   ·subst e;simpa using hp
   ·exact Zo7 h j (by omega) (by omega)
def Zpc{l:List FmR}{x:Rc}:(Zes l [x.f]).length=0↔Zut l x.f<0:=by
 unfold Zes
 rw[List.length_eq_zero_iff,List.filter_eq_nil_iff]
 constructor
 ·intro h
  apply Yv7
  intro hc
  obtain⟨j,f,_,_,hf,hn,_⟩:=Zqb (l:=l) (x:=x) (by omega)
  exact h f (Yti hf) (by simp[hn])
 ·intro h f hf hc
  obtain⟨j,hj⟩:=Yuw hf
  have h1:=Zo7 h j (Yv0 _) (by have:=Zar hj;omega)
  simp only[hj,Yva,Yu6,decide_eq_true_eq]at hc h1
  simp[hc]at h1
def Ymz{l:List FmR}(ha:l.Pairwise (fun x y=>x.n<y.n)){x y:FmR}(hx:x∈l)(hy:y∈l)(h:x.n=y.n):x=y:=by
 obtain⟨i,hi⟩:=Yuw hx
 obtain⟨j,hj⟩:=Yuw hy
 rw[List.pairwise_iff_getElem]at ha
 obtain⟨i1,i2⟩:=Yui.1 hi
 obtain⟨j1,j2⟩:=Yui.1 hj
 rcases Nat.lt_trichotomy i j with e|e|e
 ·have:=ha i j i1 j1 e;rw[i2,j2]at this;omega
 ·subst e;rw[i2]at j2;exact j2
 ·have:=ha j i j1 i1 e;rw[i2,j2]at this;omega
def Zu2{l:List FmR}{rs:List Rc}(ha:l.Pairwise (fun x y=>x.n<y.n))(h0:∀j,j<rs.length→rpE l rs j=0):Zes l (rs.map Rc.f)=rs.map (Zzk l):=by
 have hin:∀x∈rs,Zzk l x∈l∧(Zzk l x).n=x.f:=fun x hx=>by
  obtain⟨j,hj⟩:=Yuw hx
  have h1:=h0 j (Zar hj)
  unfold rpE at h1
  rw[hj]at h1
  simp only at h1
  have hneg:¬Zut l x.f<0:=fun hc=>by rw[Ytg hc]at h1;cases h1
  obtain⟨_,f,_,_,hf,hn,e⟩:=Zqb hneg
  rw[e]
  exact⟨Yti hf,hn⟩
 refine Yen (ha.filter _) (Yn1 (F:=FmR.n) fun j x y hx hy=>?_) fun f=>?_
 ·rw[Ytl,Ytn]at hx hy
  obtain⟨a,ha1,rfl⟩:=hx
  obtain⟨b,hb1,rfl⟩:=hy
  rw[(hin a (Yti ha1)).2,(hin b (Yti hb1)).2]
  have h1:=h0 (j+1) (Zar hb1)
  unfold rpE at h1
  rw[hb1]at h1
  simp only[show j+1-1=j by omega,ha1,Yvq]at h1
  apply Yv7
  intro hc
  by_cases hneg:Zut l b.f<0
  ·rw[Ytg hneg]at h1;cases h1
  ·rw[Yte hneg,Ytg ⟨by omega,hc⟩]at h1;cases h1
 ·unfold Zes
  rw[List.mem_filter,decide_eq_true_eq]
  constructor
  ·rintro⟨h1,h2⟩
   obtain⟨x,hx,e⟩:=Yur.1 h2
   obtain⟨h3,h4⟩:=hin x hx
   refine Yur.2 ⟨x,hx,?_⟩
   have hd:=Ymz ha h3 h1 (by omega)
   exact hd
  ·intro hm
   obtain⟨x,hx,rfl⟩:=Yur.1 hm
   obtain⟨h3,h4⟩:=hin x hx
   exact⟨h3,Yur.2 ⟨x,hx,h4.symm⟩⟩
set_option maxHeartbeats 8000000
noncomputable def A.w8:=A.q Tryz.f8
noncomputable def A.lb8_0:=A.ql A.w8 1 []
noncomputable def A.lb8_1:=A.ql A.w8 0 []
noncomputable def A.b8:=(fun x0 x1=>A.qb A.w8 [x0,x1]) A.lb8_1 A.lb8_0
def A.k8:=@A.kk 8 107 [.tmp 6,.tmp 7] A.b8 (by kernel_rfl) rfl
def Ztu{h:T O}{N:Nat}{x:Rc}{u:V}(s:Sl h N u (strs x.vs)):(rcC (x,u)).all V.one=true:=by
 have:=s.form.one
 simp only[rcC,List.all_cons,List.all_nil,this]
 rfl
structure RlI (h:T O) (N:Nat) (l:List FmR) (rs:List Rc) (m:Nat) (r:T V) (st:St):Prop where
 w:Zaa N st.w=[]
 keep:Keeps h N st.h st.n
 ex:∃(k:Nat) (u:V),k+m=rs.length∧r.get 40=some (.int .i64 k)∧r.get 10=some u∧Own 4 56 N st.h st.n u (((rs.take k).map (Zzk l)).map fmC)∧∀j,j<k→rpE l rs j=0
def Ykq{nB:Nat}{B:T O}{n0:Nat}{vl vz:V}{l:List FmR}{rs:List Rc}{r0:T V}(hBn:nB≤n0)(hs:Sn 4 B n0 vl (l.map fmC))(hl:l.length<1000)(hz:RcS B n0 vz rs)(hrl:rs.length<1000)(a1:r0.get 1=some vl)(a2:r0.get 2=some vz)(a38:r0.get 38=some vz)(a39:r0.get 39=some (.int .i64 rs.length)):
  ∀m r st,(∀t,inD [(6,7),(10,14),(40,78)] t=false→r.get t=r0.get t)→Fx [(6,7),(10,14),(40,78)] r0 107 ⟨r,107,[]⟩→(Zaa nB st.w=[]∧RlI B n0 l rs m r ⟨st.h,st.n,[]⟩)→Code A.C none A.lb8_1 ⟨r,107,[]⟩ st (Rd [(6,7),(10,14),(40,78)] r0 107 (fun m r st=>Zaa nB st.w=[]∧RlI B n0 l rs m r ⟨st.h,st.n,[]⟩) m (fun e r st=>Zaa nB st.w=[]∧Keeps B n0 st.h st.n∧((e=.exit 0∧∃u,r.get 10=some u∧Sn 4 st.h st.n u ((rs.map (Zzk l)).map fmC)∧∀j,j<rs.length→rpE l rs j=0)∨(e=.ret∧∃k,k<rs.length∧(∀j,j<k→rpE l rs j=0)∧rpE l rs k≠0∧r.get 6=some (.int .i64 0)∧r.get 7=some (.int .i64 (rpE l rs k)))))):=by
 rintro m r ⟨H,n1,W⟩ hr hf ⟨hW,_,hK,k,u,hk,h40,h10,hO,hE⟩
 simp only at hW hK hO
 rw[Zai]
 have leK:=hK.le
 have lz:=hz.len
 have ll:=hs.len
 rw[Ytx]at ll
 cases m with
 |zero=>
  obtain rfl:k=rs.length:=by omega
  rw[Yuf]at hO
  simp(disch:=first|(simp;done)|omega|rfl) [-getElem?_pos,A.lb8_1,hr,hf,h40,h10,a39]
  exact⟨hW,hK,by have:=hO.sn;rwa [List.map_map]at this,hE⟩
 |succ m=>
  have hlt:k<rs.length:=by omega
  have hlt':(k:Int)<(rs.length:Int):=by omega
  obtain⟨x,hxk⟩:=Zag hlt
  obtain⟨i0,o0,c0,e0,rw0,u0,q1,q2,q3,q4,q5⟩:=(hz.keep hK).at hxk
  have hone:=Ztu q5
  have hcs:(V.agg (rcC (x,u0))).cells=rcC (x,u0):=rfl
  have hls:(rcC (x,u0)).length=3:=rfl
  have sps:splice [V.int .i64 0,.int .i64 0,.nilslice] 0 (rcC (x,u0))=rcC (x,u0):=rfl
  simp(disch:=first|(simp;done)|omega|rfl) [-getElem?_pos, -V.cells, -V.one,A.lb8_1,hr,hf,h40,a39,a38,a1,lz,hlt,hlt',q1,q2,q3,q4,hcs,hls,hone,sps,Zal]
  generalize hH:(H.set n1 (.cells [.int .i64 0,.int .i64 0,.nilslice] 73 true)).set n1 (.cells (rcC (x,u0)) 73 true)=G
  have kG:Keeps H n1 G (n1+1):=by rw[←hH];exact(Keeps.refl.new _).set (Ytf _)
  have gx:G.get n1=some (.cells (rcC (x,u0)) 73 true):=by rw[←hH,T.get_set,Ytg rfl]
  clear hH
  have kk1:=hK.trans kG
  refine Zaf (Yhc (l.map fmC) (fun j=>decide ((l[j]?.map FmR.n)=some x.f)) (hs.keepz kk1) (by simp;omega) ?_) ?_
  ·intro j y hy h' n' k'
   obtain⟨f,hfj,rfl⟩:∃f,l[j]?=some f∧fmC f=y:=by simpa using hy
   have:=Ynx (f:=f) (x:=x) (u:=u0) (q:=n1) (h:=h') (N:=n') (e:=73) (rw:=true) (by rw[k'.get n1 (by omega)];exact gx) (by have:=k'.le;omega)
   simpa[hfj]using this
  rintro _ H2 n2 k2 rfl
  rw[Ytx]
  rw[show Za6 (fun j=>decide ((l[j]?.map FmR.n)=some x.f)) 0 l.length=Zut l x.f from rfl]
  have le2:=k2.le
  have kk2:=kk1.trans k2
  have gx2:=(k2.get n1 (by omega)).trans gx
  have wn1:¬n1<nB:=by omega
  have wn2:¬n2<nB:=by omega
  have dn:n1<n2:=by omega
  have hm1:rs.length≠0:=by omega
  have hpl:k-1<rs.length:=by omega
  have hpl':((k-1:Nat):Int)<(rs.length:Int):=by omega
  obtain⟨p,hpk⟩:=Zag hpl
  obtain⟨i1,o1,c1,e1,rw1,u1,p1,p2,p3,p4,p5⟩:=(hz.keep kk2).at hpk
  have v0:=(Zex p4).2.1
  have hgd:(rs[k-1]?).getD x=p:=by rw[hpk];rfl
  have hmx:(if (1:Int)<(k:Int) then (k:Int)-1 else 0)=((k-1:Nat):Int):=by split<;>omega
  have rx0:(rcC (x,u0))[0]?=some (.int .i64 x.f):=rfl
  have efr:rpE l rs k=if Zut l x.f<0 then 10 else if 0<k∧x.f≤p.f then 11 else 0:=by
   unfold rpE
   rw[hxk]
   simp only[hgd]
  have hz2:rpE l rs k=0→∀j,j<k+1→rpE l rs j=0:=fun h0 j hj=>by
   by_cases e:j=k
   ·subst e;exact h0
   ·exact hE j (by omega)
  have kX:∀c,Keeps B n0 (H2.set n2 (.cells c 29 true)) (n2+1):=fun c=>kk2.new _
  have hci:∀z:Int,(V.int .i64 z).cells=[V.int .i64 z]:=fun _=>rfl
  have hco:∀z:Int,V.one (V.int .i64 z)=true:=fun _=>rfl
  have pf:=fun a0 a1 w=>Zpy (h:=H2) (N:=n2+1) (i:=n2) (w:=w) (a0:=a0) (a1:=a1) (by omega)
  by_cases hneg:Zut l x.f<0
  ·have ho:rpE l rs k=10:=by rw[efr,Ytg hneg]
   by_cases k0:0<k
   ·have k0':(0:Int)<(k:Int):=by omega
    have hnz:Zak [10,(if x.f≤p.f then 11 else 0:Int)]=10:=rfl
    simp(disch:=first|(simp;done)|omega|rfl) [-getElem?_pos, -V.cells,hr,hf,h40,h10,a1,a2,lz,hneg,Zbp,k0,k0',gx2,dn,Zyu,Zep,hmx,hpl,hpl',p1,p2,p3,v0,rx0,Zan.chk,hci,hco,splice,pf,hnz,Zae,ho,wn1,hW]
    exact⟨kX _,k,hlt,hE,by rw[ho];decide,ho.symm⟩
   ·have k0':¬(0:Int)<(k:Int):=by omega
    have hnz:Zak [10,0]=10:=rfl
    simp(disch:=first|(simp;done)|omega|rfl) [-getElem?_pos, -V.cells,hr,hf,h40,h10,a1,a2,lz,hneg,Zbp,k0,k0',gx2,dn,Zyu,Zep,hmx,hpl,hpl',p1,p2,p3,v0,rx0,Zan.chk,hci,hco,splice,pf,hnz,Zae,ho,wn1,hW]
    exact⟨kX _,k,hlt,hE,by rw[ho];decide,ho.symm⟩
  ·obtain⟨j,f,ej,hj,hfj,hfn,hof⟩:=Zqb hneg
   have hj':(j:Int)<(l.length:Int):=by omega
   have hjn:¬(j:Int)<0:=by omega
   obtain⟨i2,o2,c2,e2,rw2,s1,s2,s3,s4⟩:=(hs.keepz kk2).at (show (l.map fmC)[j]?=some (fmC f) by rw[Ytl,hfj];rfl)
   have ds:¬i2=n2:=by omega
   rw[Yte hneg]at efr
   rw[ej]
   have hcf:(V.agg (fmC f)).cells=fmC f:=rfl
   have hlf:(fmC f).length=4:=rfl
   have hof2:(fmC f).all V.one=true:=rfl
   have spf:splice [V.int .i64 0,.int .i64 0,.int .i64 0,.str []] 0 (fmC f)=fmC f:=rfl
   have stp:∀cc,∃v' h' w',Zbg ⟨(H2.set n2 (.cells cc 29 true)).set (n2+1) (.cells (fmC f) 56 true),n2+1+1,n1::W⟩ 4 40 56 u (.slice (n2+1) 0 1 (some 1) 4)=some (v',⟨h',n2+1+1+1,w'⟩)∧Zaa nB w'=[]∧Keeps B n0 h' (n2+1+1+1)∧Own 4 56 n0 h' (n2+1+1+1) v' (((rs.take (k+1)).map (Zzk l)).map fmC):=by
    intro cc
    have kY:Keeps H n1 ((H2.set n2 (.cells cc 29 true)).set (n2+1) (.cells (fmC f) 56 true)) (n2+1+1):=((kG.trans k2).new _).new _
    obtain⟨v',h',w',f1,f2,f3,f4,f5⟩:=Za9 (x:=fmC f) (u:=.slice (n2+1) 0 1 (some 1) 4) (bytes:=40) (w:=n1::W) (hO.keep kY) (by omega) (by decide) rfl (by simp[Zau,St.row,slc,fmC]) (by simp;omega)
    refine⟨v',h',w',f1,Zgh fun i hi=>?_,(hK.trans kY).then f3,?_⟩
    ·apply Yu0
     intro hc
     have h1:=(Zb8 w' n0 i (by omega)).2 hi
     rw[f2]at h1
     have h2:=(Zb8 (n1::W) nB i hc).2 (Zgj h1).1
     have h3:Zaa nB (n1::W)=[]:=by simp[Zaa,hW,wn1]
     rw[h3]at h2
     simp at h2
    ·rw[Yt8,hxk,List.map_append,List.map_append]
     simpa[hof]using f5
   obtain⟨v',h',w',f1,f2,f3,f5⟩:=stp [.int .i64 0,.int .i64 0]
   by_cases k0:0<k
   ·have k0':(0:Int)<(k:Int):=by omega
    by_cases c1:x.f≤p.f
    ·have ho:rpE l rs k=11:=by rw[efr,Ytg ⟨k0,c1⟩]
     have hnz:Zak [0,11]=11:=rfl
     simp(disch:=first|(simp;done)|omega|rfl) [-getElem?_pos, -V.cells,hr,hf,h40,h10,a1,a2,lz,hjn,Zbp,k0,k0',gx2,dn,Zyu,Zep,hmx,hpl,hpl',p1,p2,p3,v0,rx0,c1,Zan.chk,hci,hco,splice,pf,hnz,Zae,ho,wn1,hW]
     exact⟨kX _,k,hlt,hE,by rw[ho];decide,ho.symm⟩
    ·have ho:rpE l rs k=0:=by rw[efr,Yte (fun h=>c1 h.2)]
     have hnz:Zak [0,0]=0:=rfl
     simp(disch:=first|(simp;done)|omega|rfl) [-getElem?_pos, -V.cells,hr,hf,h40,h10,a1,a2,lz,hjn,Zbp,k0,k0',gx2,dn,Zyu,Zep,hmx,hpl,hpl',p1,p2,p3,v0,rx0,c1,Zan.chk,hci,hco,splice,pf,hnz,Zae,ho,wn1,hW,ll,hj,hj',s1,s3,s4,ds,hcf,hlf,hof2,spf,Za3,f1]
     exact⟨m,by omega,f2,rfl,f3,k+1,v',by omega,by simp,by simp,f5,hz2 ho⟩
   ·have k0':¬(0:Int)<(k:Int):=by omega
    have ho:rpE l rs k=0:=by rw[efr,Yte (fun h=>k0 h.1)]
    have hnz:Zak [0,0]=0:=rfl
    simp(disch:=first|(simp;done)|omega|rfl) [-getElem?_pos, -V.cells,hr,hf,h40,h10,a1,a2,lz,hjn,Zbp,k0,k0',gx2,dn,Zyu,Zep,hmx,hpl,hpl',p1,p2,p3,v0,rx0,Zan.chk,hci,hco,splice,pf,hnz,Zae,ho,wn1,hW,ll,hj,hj',s1,s3,s4,ds,hcf,hlf,hof2,spf,Za3,f1]
    exact⟨m,by omega,f2,rfl,f3,k+1,v',by omega,by simp,by simp,f5,hz2 ho⟩
set_option maxHeartbeats 8000000
def MfS.keep{h h':T O}{N N':Nat}{v:V}{m:List (List Rat)}(s:MfS h N v m)(k:Keeps h N h' N'):MfS h' N' v m:=by
 obtain⟨us,h1,h2,h3⟩:=s
 refine⟨us,h1.keep k,h2,fun j l hl=>?_⟩
 obtain⟨u,g1,g2⟩:=h3 j l hl
 exact⟨u,g1,g2.keep k⟩
def Yf3{nB:Nat}{B:T O}{n0 G:Nat}{vo vz:V}{out:List (List Rat)}{rs:List Rc}{r0:T V}(hBn:nB≤n0)(ho:MfS B n0 vo out)(hol:out.length=rs.length)(hoq:∀r∈out,r.length≤G∧∀q∈r,Qb 2400 q)(hG:G≤1000)(hz:RcS B n0 vz rs)(hx:∀x∈rs,x.vs.length<1000)(hrl:rs.length<1000)(hP:P10 B n0)(a15:r0.get 15=some vo)(a88:r0.get 88=some vz)(a89:r0.get 89=some (.int .i64 rs.length)):
  ∀m r st,(∀t,inD [(6,7),(17,18),(90,106)] t=false→r.get t=r0.get t)→Fx [(6,7),(17,18),(90,106)] r0 107 ⟨r,107,[]⟩→(Zaa nB st.w=[]∧Keeps B n0 st.h st.n∧∃k,k+m=rs.length∧r.get 90=some (.int .i64 k)∧∀j,j<k→Zd4 rs out j=false)→Code A.C none A.lb8_0 ⟨r,107,[]⟩ st (Rd [(6,7),(17,18),(90,106)] r0 107 (fun m r st=>Zaa nB st.w=[]∧Keeps B n0 st.h st.n∧∃k,k+m=rs.length∧r.get 90=some (.int .i64 k)∧∀j,j<k→Zd4 rs out j=false) m (fun e r st=>Zaa nB st.w=[]∧Keeps B n0 st.h st.n∧((e=.exit 2∧∀j,j<rs.length→Zd4 rs out j=false)∨(e=.ret∧∃k x,rs[k]?=some x∧(∀j,j<k→Zd4 rs out j=false)∧Zd4 rs out k=true∧r.get 6=some (.int .i64 x.f)∧r.get 7=some (.int .i64 0))))):=by
 rintro m r ⟨H,n1,W⟩ hr hf ⟨hW,hK,k,hk,h90,hE⟩
 simp only at hW hK
 rw[Zai]
 have leK:=hK.le
 have lz:=hz.len
 cases m with
 |zero=>
  obtain rfl:k=rs.length:=by omega
  simp(disch:=first|(simp;done)|omega|rfl) [-getElem?_pos,A.lb8_0,hr,hf,h90,a89]
  exact⟨hW,hK,hE⟩
 |succ m=>
  have hlt:k<rs.length:=by omega
  have hlt':(k:Int)<(rs.length:Int):=by omega
  obtain⟨x,hxk⟩:=Zag hlt
  obtain⟨o,hok⟩:=Zag (l:=out) (show k<out.length by omega)
  obtain⟨i0,o0,c0,e0,rw0,u0,q1,q2,q3,q4,q5⟩:=(hz.keep hK).at hxk
  obtain⟨us,m1,m2,m3⟩:=MfS.keep ho hK
  obtain⟨uo,m4,m5⟩:=m3 k o hok
  obtain⟨i3,o3,c3,e3,rw3,s1,s2,s3,s4⟩:=m1.at m4
  have lo:=m1.len
  rw[m2,hol]at lo
  have hone:=Ztu q5
  have hcs:(V.agg (rcC (x,u0))).cells=rcC (x,u0):=rfl
  have hls:(rcC (x,u0)).length=3:=rfl
  have sps:splice [V.int .i64 0,.int .i64 0,.nilslice] 0 (rcC (x,u0))=rcC (x,u0):=rfl
  have rx0:(rcC (x,u0))[0]?=some (.int .i64 x.f):=rfl
  have rx2:(rcC (x,u0))[2]?=some u0:=rfl
  have d3:¬i3=n1:=by omega
  have wn1:¬n1<nB:=by omega
  have nn:n1<n1+1:=by omega
  have kG:Keeps H n1 ((H.set n1 (.cells [.int .i64 0,.int .i64 0,.nilslice] 73 true)).set n1 (.cells (rcC (x,u0)) 73 true)) (n1+1):=(Keeps.refl.new _).set (Ytf _)
  have hxv:=hx x (Yti hxk)
  have hoo:=hoq o (Yti hok)
  have d4:i3<n1+1:=by omega
  simp(disch:=first|(simp;done)|omega|rfl) [-getElem?_pos, -V.cells, -V.one,A.lb8_0,hr,hf,h90,a89,a88,a15,lz,lo,hlt,hlt',q1,q2,q3,q4,s1,s3,s4,d3,nn,d4,hcs,hls,hone,sps,Zal,rx0,rx2]
  refine Zaf (Yfd (k0:=2400) (m5.1.keep kG) ((hP.keep hK).keep kG) (by have:=hoo.1;omega) hoo.2 (by decide)) ?_
  rintro y H2 n2 k2 ⟨hy,_⟩
  have le2:=k2.le
  have gx2:H2.get n1=some (.cells (rcC (x,u0)) 73 true):=(k2.get n1 (by omega)).trans (by rw[T.get_set,Ytg rfl])
  have dn:n1<n2:=by omega
  have kk2:=(hK.trans kG).trans k2
  have hsq:=fun w=>Ynv (w:=w) ((q5.keep kG).keep k2) hy (by omega)
  by_cases heq:x.vs=o.map Za0
  ·have hb:Zd4 rs out k=false:=by
    unfold Zd4
    simp only[hxk,hok,heq,decide_true,Bool.not_true]
   have heq':decide (x.vs=o.map Za0)=true:=by simp[heq]
   rw[heq']at hsq
   simp(disch:=first|(simp;done)|omega|rfl) [-getElem?_pos,hr,hf,h90,hsq,wn1,hW]
   refine⟨m,by omega,kk2,k+1,by omega,by simp,fun j hj=>?_⟩
   by_cases e:j=k
   ·subst e;exact hb
   ·exact hE j (by omega)
  ·have hb:Zd4 rs out k=true:=by
    unfold Zd4
    simp only[hxk,hok,heq,decide_false,Bool.not_false]
   have heq':decide (x.vs=o.map Za0)=false:=by simp[heq]
   rw[heq']at hsq
   simp(disch:=first|(simp;done)|omega|rfl) [-getElem?_pos, -V.cells, -V.one,hr,hf,h90,hsq,wn1,hW,gx2,dn,rx0]
   exact⟨kk2,k,x,hxk,hE,hb,rfl⟩
set_option maxHeartbeats 8000000
def Zra{l:List FmR}{rs:List Rc}(h0:∀j,j<rs.length→rpE l rs j=0){P:FmR→Prop}(hl:∀f∈l,P f):∀f∈rs.map (Zzk l),P f:=by
 intro f hf
 obtain⟨x,hx,rfl⟩:=Yur.1 hf
 obtain⟨j,hj⟩:=Yuw hx
 have h1:=h0 j (Zar hj)
 unfold rpE at h1
 rw[hj]at h1
 simp only at h1
 have hneg:¬Zut l x.f<0:=fun hc=>by rw[Ytg hc]at h1;cases h1
 obtain⟨_,f,_,_,hf,_,e⟩:=Zqb hneg
 rw[e]
 exact hl f (Yti hf)
def Yky{h:T O}{N:Nat}{u v z:V}{g:List Stg}{l:List FmR}{rs:List Rc}(hg:Gr h N u g)(hgl:g.length<1000000)(hf:Yrk g)(hs:Sn 4 h N v (l.map fmC))(hv:∀f∈l,f.val.length≤20)(hl:l.length<1000)(hz:RcS h N z rs)(hrl:rs.length<1000)(hx:∀x∈rs,x.vs.length<1000∧∀s∈x.vs,s.length≤100000)(hP:P10 h N):Fn A.C 8 [u,v,z] h N (fun y _ _=>y=.tup [.int .i64 (Zv1 g l rs).1,.int .i64 (Zv1 g l rs).2]):=by
 intro w
 have lz:=hz.len
 rw[Zad,A.k8 (by simp)]
 simp(disch:=first|(simp;done)|omega|rfl) [-getElem?_pos,A.b8]
 refine Zaf (Zql hg hgl hf) ?_
 rintro _ H1 n1 k1 rfl
 have le1:=k1.le
 simp(disch:=first|(simp;done)|omega|rfl) [-getElem?_pos,]
 refine Zaf (Ypc (hs.keepz k1) (fun f hf=>by have:=hv f hf;omega) (by omega)) ?_
 rintro _ H2 n2 k2 rfl
 have le2:=k2.le
 have j2:=k1.trans k2
 have hi:(256<(rs.length:Int))=(256<rs.length):=by apply propext;omega
 have pf:=fun w=>Ybm (h:=H2) (N:=n2+1) (i:=n2) (w:=w) (a0:=((chkGraph g:Nat):Int)) (a1:=Zcg l) (a2:=if 256<rs.length then 5 else 0) (by omega)
 have kB:Keeps H2 n2 (H2.set n2 (.cells [.int .i64 ((chkGraph g:Nat):Int),.int .i64 (Zcg l),.int .i64 (if 256<rs.length then 5 else 0)] 29 true)) (n2+1):=Keeps.refl.new _
 have j3:=j2.trans kB
 by_cases h0:Zak [((chkGraph g:Nat):Int),Zcg l,if 256<rs.length then 5 else 0]=0
 ·obtain⟨eR,c1,c2,c3⟩:=Ztt h0
  have hG:=Zlm (show chkGraph g=0 by omega)
  obtain⟨c4,c5⟩:=Zpd c2
  rw[h0]at pf
  simp(disch:=first|(simp;done)|omega|rfl) [-getElem?_pos,lz,Zbp,hi,pf,splice,Zae]
  generalize hH:H2.set n2 (.cells [.int .i64 ((chkGraph g:Nat):Int),.int .i64 (Zcg l),.int .i64 (if 256<rs.length then 5 else 0)] 29 true)=H3 at*
  obtain⟨cs,z1,z2,z3⟩:=hz.keep j3
  refine Zaf (Yg2 (Q:=fun j _ _ c=>∃x,rs[j]?=some x∧c=.int .i64 (Ze1 x)) (fun _=>True) (fun _ _ _ _ _ _ _ q _ _=>q) z1 (by omega) ?_ ?_) ?_
  ·intro j c hc
   obtain⟨x,hxj⟩:=Zag (l:=rs) (show j<rs.length by rw[←z2];exact Zar hc)
   obtain⟨y,g1,g2⟩:=z3 j x hxj
   rw[hc]at g1
   obtain rfl:=Yt4 g1
   exact⟨rfl,Ztu g2⟩
  ·intro j c hc h' n' k'
   obtain⟨x,hxj⟩:=Zag (l:=rs) (show j<rs.length by rw[←z2];exact Zar hc)
   obtain⟨y,g1,g2⟩:=z3 j x hxj
   rw[hc]at g1
   obtain rfl:=Yt4 g1
   obtain⟨x1,x2⟩:=hx x (Yti hxj)
   intro w'
   exact(Zxz (g2.keep k') x1 x2 w').mono fun v st ⟨q1,q2,q3⟩=>⟨q1,q2,v,rfl,rfl,by rw[q3];rfl,fun _ _=>trivial,x,hxj,q3⟩
  ·rintro u1 H4 n4 k4 ⟨out,q1,q2,q3⟩
   have hout:out=Zc7 (rs.map Ze1):=by
    apply Yua
    intro j
    by_cases hj:j<rs.length
    ·obtain⟨y,g1,x,g2,rfl⟩:=q3 j (by omega)
     rw[g1];simp[Zc7,g2]
    ·rw[Ytq (by omega),Ytq (by simp[Zc7];omega)]
   rw[hout]at q1
   have hfe:=fun w=>Zh3 (w:=w) q1.sl (by simp;omega)
   have j4:=j3.trans k4
   have le4:=k4.le
   have le3:=j3.le
   by_cases hR:Zak (rs.map Ze1)=0
   ·have hR0:Zxw g l rs=0:=by rw[eR,hR]
    rw[hR]at hfe
    simp(disch:=first|(simp;done)|omega|rfl) [-getElem?_pos,hfe,Zae,lz]
    refine Zah [(6,7),(10,14),(40,78)] (fun e r st=>Zaa N st.w=[]∧Keeps H4 n4 st.h st.n∧((e=.exit 0∧∃u,r.get 10=some u∧Sn 4 st.h st.n u ((rs.map (Zzk l)).map fmC)∧∀j,j<rs.length→rpE l rs j=0)∨(e=.ret∧∃k,k<rs.length∧(∀j,j<k→rpE l rs j=0)∧rpE l rs k≠0∧r.get 6=some (.int .i64 0)∧r.get 7=some (.int .i64 (rpE l rs k))))) (fun m r st=>Zaa N st.w=[]∧RlI H4 n4 l rs m r ⟨st.h,st.n,[]⟩) rs.length ?_ (Ykq (nB:=N) (vl:=v) (vz:=z) (by omega) (hs.keepz j4) hl (hz.keep j4) hrl (by simp) (by simp) (by simp) (by simp)) ?_
    ·exact⟨by simp,rfl,Keeps.refl,0,.nilslice,by omega,by simp,by simp,by simpa using Own.nil,fun j hj=>by omega⟩
    ·rintro e r ⟨H5,n5,W5⟩ hr ⟨hW5,j5,⟨rfl,uu,h10,hk10,hE⟩|⟨rfl,k,hkl,hE,hne,h6,h7⟩⟩
     ·simp only at hW5 j5 hk10
      have le5:=j5.le
      have j6:=j4.trans j5
      have hE0:Zak ((List.range rs.length).map (rpE l rs))=0:=Zk2 hE
      simp(disch:=first|(simp;done)|omega|rfl) [-getElem?_pos,hr,h10,lz]
      refine Zaf (Zx5 (hg.keep j6) hG (fun s hs=>(hf s hs).1) hk10 (Zra hE fun f hf=>⟨c5 f hf,by have:=hv f hf;omega⟩) (by simp;omega) (hP.keep j6)) ?_
      rintro y H6 n6 k6 (⟨e1,rfl⟩|⟨zz,out2,e1,rfl,hzz,e2,e3⟩)
      ·simp(disch:=first|(simp;done)|omega|rfl) [-getElem?_pos,hr,lz,Zae,Ret,Zv1,hR0,hE0,e1,hW5]
       exact j6.trans k6
      ·rw[Ytx]at e2
       have j7:=j6.trans k6
       have le6:=k6.le
       simp(disch:=first|(simp;done)|omega|rfl) [-getElem?_pos,hr,lz,Zae,h10]
       refine Zah [(6,7),(17,18),(90,106)] (fun e r st=>Zaa N st.w=[]∧Keeps H6 n6 st.h st.n∧((e=.exit 2∧∀j,j<rs.length→Zd4 rs out2 j=false)∨(e=.ret∧∃k x,rs[k]?=some x∧(∀j,j<k→Zd4 rs out2 j=false)∧Zd4 rs out2 k=true∧r.get 6=some (.int .i64 x.f)∧r.get 7=some (.int .i64 0)))) (fun m r st=>Zaa N st.w=[]∧Keeps H6 n6 st.h st.n∧∃k,k+m=rs.length∧r.get 90=some (.int .i64 k)∧∀j,j<k→Zd4 rs out2 j=false) rs.length ?_ (Yf3 (nB:=N) (G:=g.length) (vo:=zz) (vz:=z) (by omega) hzz e2 (fun r hr=>⟨by have:=(e3 r hr).1;omega,(e3 r hr).2⟩) (by have:=hG.v.le;omega) (hz.keep j7) (fun x hxm=>(hx x hxm).1) hrl (hP.keep j7) (by simp) (by simp) (by simp)) ?_
       ·exact⟨hW5,Keeps.refl,0,by omega,by simp,fun j hj=>by omega⟩
       ·rintro e r2 ⟨H7,n7,W7⟩ hr2 ⟨hW7,j8,⟨rfl,hB⟩|⟨rfl,k,x,hxk,hB,hbk,h6,h7⟩⟩
        ·simp only at hW7 j8
         simp(disch:=first|(simp;done)|omega|rfl) [-getElem?_pos,hr,hr2,Ret,Zv1,hR0,hE0,e1,Zv0 hB,hW7]
         exact j7.trans j8
        ·simp only at hW7 j8
         simp(disch:=first|(simp;done)|omega|rfl) [-getElem?_pos,hr,hr2,h6,h7,Ret,Zv1,hR0,hE0,e1,Yiu hxk hB hbk,hW7]
         exact j7.trans j8
     ·simp only at hW5 j5
      have hE0:Zak ((List.range rs.length).map (rpE l rs))=rpE l rs k:=Zww hkl hE hne
      simp(disch:=first|(simp;done)|omega|rfl) [-getElem?_pos,hr,h6,h7,Ret,Zv1,hR0,hE0,hne,hW5]
      exact j4.trans j5
   ·have hR0:Zxw g l rs≠0:=by rw[eR];exact hR
    simp(disch:=first|(simp;done)|omega|rfl) [-getElem?_pos,hfe,Zae,hR,Ret,Zv1,hR0,eR]
    exact j4
 ·have eR:=Zxv h0
  have hR0:Zxw g l rs≠0:=by rw[eR];exact h0
  simp(disch:=first|(simp;done)|omega|rfl) [-getElem?_pos,lz,Zbp,hi,pf,splice,Zae,h0,Ret,Zv1,hR0,eR]
  exact j3
set_option maxHeartbeats 8000000
noncomputable def A.w16:=A.q Tryz.f16
noncomputable def A.lb16_0:=A.ql A.w16 1 []
noncomputable def A.lb16_1:=A.ql A.w16 0 []
noncomputable def A.b16:=(fun x0 x1=>A.qb A.w16 [x0,x1]) A.lb16_1 A.lb16_0
def A.k16:=@A.kk 16 86 [.tmp 6,.tmp 7] A.b16 (by kernel_rfl) rfl
def rrQ(g:List Stg)(l:List FmR)(rs:List Rc):Int×Int:=if Zak ((List.range rs.length).map (rpE l rs))≠0 then (0,Zak ((List.range rs.length).map (rpE l rs))) else match outQ g (rs.map (Zzk l))with
 |none=>(0,4)
 |some out=>(rpF rs out,0)
def Yks{g:List Stg}{l:List FmR}{rs:List Rc}(h:Zxw g l rs=0):Zv1 g l rs=rrQ g l rs:=by
 unfold Zv1 rrQ
 rw[Yte (by rw[h];simp)]
 by_cases h1:Zak ((List.range rs.length).map (rpE l rs))≠0
 ·rw[Ytg h1,Ytg h1]
 ·rw[Yte h1,Yte h1]
  cases outQ g (rs.map (Zzk l))<;>rfl
def Yko{h:T O}{N:Nat}{u v z:V}{g:List Stg}{l:List FmR}{rs:List Rc}(hg:Gr h N u g)(hG:OkG g)(hfl:∀s∈g,s.factor.length≤20)(hs:Sn 4 h N v (l.map fmC))(hv:∀f∈l,chkNum f.val=0)(hasc:l.Pairwise (fun x y=>x.n<y.n))(hl:l.length<1000)(hz:RcS h N z rs)(hrl:rs.length<1000)(hx:∀x∈rs,x.vs.length<1000):Fn A.C 16 [u,v,z] h N (fun y _ _=>y=.tup [.int .i64 (rrQ g l rs).1,.int .i64 (rrQ g l rs).2]):=by
 intro w
 have lz:=hz.len
 rw[Zad,A.k16 (by simp)]
 simp(disch:=first|(simp;done)|omega|rfl) [-getElem?_pos,A.b16]
 refine Zah [(6,9),(13,52)] (fun e r st=>Zaa N st.w=[]∧Keeps h N st.h st.n∧((e=.exit 0∧∃u,r.get 8=some u∧Sl st.h st.n u (dI (rs.map Rc.f))∧∀j,j<rs.length→rpE l rs j=0)∨(e=.ret∧∃k,k<rs.length∧(∀j,j<k→rpE l rs j=0)∧rpE l rs k≠0∧r.get 6=some (.int .i64 0)∧r.get 7=some (.int .i64 (rpE l rs k))))) (fun m r st=>Zaa N st.w=[]∧Keeps h N st.h st.n∧∃k u,k+m=rs.length∧r.get 9=some (.int .i64 k)∧r.get 8=some u∧Own 1 3 N st.h st.n u (Zc7 ((rs.take k).map Rc.f))∧∀j,j<k→rpE l rs j=0) rs.length ?_ ?_ ?_
 ·exact⟨by simp,Keeps.refl,0,.nilslice,by omega,by simp,by simp,by simpa[Zc7]using Own.nil,fun j hj=>by omega⟩
 ·rintro m r ⟨H,n1,W⟩ hr hf ⟨hW,hK,k,u8,hk,h9,h8,hO,hE⟩
  simp only at hW hK hO
  rw[Zai]
  have leK:=hK.le
  cases m with
  |zero=>
   obtain rfl:k=rs.length:=by omega
   rw[Yuf]at hO
   simp(disch:=first|(simp;done)|omega|rfl) [-getElem?_pos,A.lb16_1,hr,hf,h9,h8,lz]
   exact⟨hW,hK,hO.sl,hE⟩
  |succ m=>
   have hlt:k<rs.length:=by omega
   have hlt':(k:Int)<(rs.length:Int):=by omega
   obtain⟨x,hxk⟩:=Zag hlt
   obtain⟨i0,o0,c0,e0,rw0,u0,q1,q2,q3,q4,q5⟩:=(hz.keep hK).at hxk
   have v0:=(Zex q4).2.1
   have spx:splice [V.int .i64 0] 0 [.int .i64 x.f]=[.int .i64 x.f]:=rfl
   simp(disch:=first|(simp;done)|omega|rfl) [-getElem?_pos,A.lb16_1,hr,hf,h9,h8,lz,hlt,hlt',q1,q2,q3,v0,spx]
   generalize hH:H.set n1 (.cells [.int .i64 x.f] 3 true)=G
   have kG:Keeps H n1 G (n1+1):=by rw[←hH];exact Keeps.refl.new _
   have gx:G.get n1=some (.cells [.int .i64 x.f] 3 true):=by rw[←hH,T.get_set,Ytg rfl]
   clear hH
   have kk1:=hK.trans kG
   refine Zaf (Zsq (ns:=[x.f]) (hs.keepz kk1) hl (Sl.row (by omega) gx rfl (by simp)) (by simp)) ?_
   rintro y H2 n2 k2 hy
   have le2:=k2.le
   have kk2:=kk1.trans k2
   have ly:=hy.len
   rw[Ytx]at ly
   have hpl:k-1<rs.length:=by omega
   have hpl':((k-1:Nat):Int)<(rs.length:Int):=by omega
   obtain⟨p,hpk⟩:=Zag hpl
   obtain⟨i1,o1,c1,e1,rw1,u1,p1,p2,p3,p4,p5⟩:=(hz.keep kk2).at hpk
   obtain⟨i2,o2,c2,e2,rw2,u2,s1,s2,s3,s4,s5⟩:=(hz.keep kk2).at hxk
   have w0:=(Zex p4).2.1
   have w1:=(Zex s4).2.1
   rw[s1]at p1
   simp only[Ytc,Yth]at p1
   obtain⟨rfl,rfl⟩:=p1
   rw[s3]at p3
   simp only[Ytc,O.cells.injEq]at p3
   obtain⟨rfl,rfl,rfl⟩:=p3
   have hgd:(rs[k-1]?).getD x=p:=by rw[hpk];rfl
   have efr:rpE l rs k=if Zut l x.f<0 then 10 else if 0<k∧x.f≤p.f then 11 else 0:=by
    unfold rpE
    rw[hxk]
    simp only[hgd]
   have hz2:rpE l rs k=0→∀j,j<k+1→rpE l rs j=0:=fun h0 j hj=>by
    by_cases e:j=k
    ·subst e;exact h0
    ·exact hE j (by omega)
   by_cases hneg:Zut l x.f<0
   ·have ho:rpE l rs k=10:=by rw[efr,Ytg hneg]
    have hc0:(Zes l [x.f]).length=0:=Zpc.2 hneg
    simp(disch:=first|(simp;done)|omega|rfl) [-getElem?_pos,hr,hf,h9,h8,ly,hc0,Zae,hW]
    exact⟨kk2,k,hlt,hE,by rw[ho];decide,ho.symm⟩
   ·have hc0:¬(Zes l [x.f]).length=0:=fun hc=>hneg (Zpc.1 hc)
    have hc1:¬((Zes l [x.f]).length:Int)=0:=by omega
    rw[Yte hneg]at efr
    have kY:Keeps H n1 (H2.set n2 (.cells [.int .i64 x.f] 3 true)) (n2+1):=(kG.trans k2).new _
    obtain⟨v',h',w',f1,f2,f3,f4,f5⟩:=Za9 (x:=[.int .i64 x.f]) (u:=.slice n2 0 1 (some 1) 1) (bytes:=8) (w:=W) (hO.keep kY) (by omega) (by decide) rfl (by simp[Zau,St.row,slc]) (by rw[Zc0];simp;omega)
    have hW3:Zaa N w'=[]:=by rw[f2];exact hW
    have hf5:Own 1 3 N h' (n2+1+1) v' (Zc7 ((rs.take (k+1)).map Rc.f)):=by
     rw[Yt8,hxk]
     simpa[Zc7]using f5
    by_cases k0:0<k
    ·have k0':(0:Int)<(k:Int):=by omega
     have hk1:(k:Int)-1=((k-1:Nat):Int):=by omega
     by_cases c1:x.f≤p.f
     ·have ho:rpE l rs k=11:=by rw[efr,Ytg ⟨k0,c1⟩]
      simp(disch:=first|(simp;done)|omega|rfl) [-getElem?_pos,hr,hf,h9,h8,ly,lz,hc0,hc1,Zae,hW,k0,k0',hk1,hlt,hlt',hpl,hpl',s1,s2,s3,w0,w1,c1,Zan.chk,spx,Za3,f1,hW3]
      exact⟨kk2,k,hlt,hE,by rw[ho];decide,ho.symm⟩
     ·have ho:rpE l rs k=0:=by rw[efr,Yte (fun h=>c1 h.2)]
      simp(disch:=first|(simp;done)|omega|rfl) [-getElem?_pos,hr,hf,h9,h8,ly,lz,hc0,hc1,Zae,hW,k0,k0',hk1,hlt,hlt',hpl,hpl',s1,s2,s3,w0,w1,c1,Zan.chk,spx,Za3,f1,hW3]
      exact⟨m,by omega,(hK.trans kY).then f3,k+1,by omega,by simp,by rw[←List.map_take];exact hf5,hz2 ho⟩
    ·have k0':¬(0:Int)<(k:Int):=by omega
     have ho:rpE l rs k=0:=by rw[efr,Yte (fun h=>k0 h.1)]
     simp(disch:=first|(simp;done)|omega|rfl) [-getElem?_pos,hr,hf,h9,h8,ly,lz,hc0,hc1,Zae,hW,k0,k0',hlt,hlt',s1,s2,s3,w1,Zan.chk,spx,Za3,f1,hW3]
     exact⟨m,by omega,(hK.trans kY).then f3,k+1,by omega,by simp,by rw[←List.map_take];exact hf5,hz2 ho⟩
 ·rintro e r ⟨H5,n5,W5⟩ hr ⟨hW5,j5,⟨rfl,uu,h8,hk8,hE⟩|⟨rfl,k,hkl,hE,hne,h6,h7⟩⟩
  ·simp only at hW5 j5 hk8
   have le5:=j5.le
   have hE0:Zak ((List.range rs.length).map (rpE l rs))=0:=Zk2 hE
   simp(disch:=first|(simp;done)|omega|rfl) [-getElem?_pos,hr,h8]
   refine Zaf (Zsq (hs.keepz j5) hl hk8 (by simp;omega)) ?_
   rintro y H6 n6 k6 hy
   rw[Zu2 hasc hE]at hy
   have j6:=j5.trans k6
   simp(disch:=first|(simp;done)|omega|rfl) [-getElem?_pos,hr]
   refine Zaf (Yf0 (hg.keep j6) hG hfl hy (Zra hE hv) (by simp;omega)) ?_
   rintro y2 H7 n7 k7 (⟨e1,rfl⟩|⟨zz,out2,e1,rfl,hzz,e2⟩)
   ·simp(disch:=first|(simp;done)|omega|rfl) [-getElem?_pos,hr,Zae,Ret,rrQ,hE0,e1,hW5]
    exact j6.trans k7
   ·rw[Ytx]at e2
    have j7:=j6.trans k7
    have le7:=j7.le
    simp(disch:=first|(simp;done)|omega|rfl) [-getElem?_pos,hr,Zae]
    refine Zah [(6,7),(12,12),(64,85)] (fun e r st=>Zaa N st.w=[]∧st.h=H7∧st.n=n7∧((e=.exit 2∧∀j,j<rs.length→Zd4 rs out2 j=false)∨(e=.ret∧∃k x,rs[k]?=some x∧(∀j,j<k→Zd4 rs out2 j=false)∧Zd4 rs out2 k=true∧r.get 6=some (.int .i64 x.f)∧r.get 7=some (.int .i64 0)))) (fun m r st=>Zaa N st.w=[]∧st.h=H7∧st.n=n7∧∃k,k+m=rs.length∧r.get 12=some (.int .i64 k)∧∀j,j<k→Zd4 rs out2 j=false) rs.length ?_ ?_ ?_
    ·exact⟨hW5,rfl,rfl,0,by omega,by simp,fun j hj=>by omega⟩
    ·rintro m r2 ⟨H8,n8,W8⟩ hr2 hf2 ⟨hW8,t1,t2,k,hk,h12,hB⟩
     simp only at t1 t2 hW8
     subst t1 t2
     rw[Zai]
     cases m with
     |zero=>
      obtain rfl:k=rs.length:=by omega
      simp(disch:=first|(simp;done)|omega|rfl) [-getElem?_pos,A.lb16_0,hr,hr2,hf2,h12,lz,hW8]
      exact hB
     |succ m=>
      have hlt:k<rs.length:=by omega
      have hlt':(k:Int)<(rs.length:Int):=by omega
      obtain⟨x,hxk⟩:=Zag hlt
      obtain⟨o,hok⟩:=Zag (l:=out2) (show k<out2.length by omega)
      obtain⟨i0,o0,c0,e0,rw0,u0,q1,q2,q3,q4,q5⟩:=(hz.keep j7).at hxk
      obtain⟨us,m1,m2,m3⟩:=hzz
      obtain⟨uo,m4,m5⟩:=m3 k o hok
      obtain⟨i3,o3,c3,e3,rw3,s1,s2,s3,s4⟩:=m1.at m4
      have lo:=m1.len
      rw[m2,e2]at lo
      have v0:=(Zex q4).2.1
      have v2:=(Zex q4).2.2.2
      have hxv:=hx x (Yti hxk)
      have hsq:=fun w=>Yfk (w:=w) q5 m5 (by omega)
      by_cases heq:x.vs=o.map Za0
      ·have hb:Zd4 rs out2 k=false:=by
        unfold Zd4
        simp only[hxk,hok,heq,decide_true,Bool.not_true]
       have heq':decide (x.vs=o.map Za0)=true:=by simp[heq]
       rw[heq']at hsq
       simp(disch:=first|(simp;done)|omega|rfl) [-getElem?_pos,A.lb16_0,hr,hr2,hf2,h12,lz,lo,hlt,hlt',q1,q2,q3,v0,v2,s1,s2,s3,s4,Zan.chk,hsq,hW8]
       refine⟨m,by omega,k+1,by omega,by simp,fun j hj=>?_⟩
       by_cases e:j=k
       ·subst e;exact hb
       ·exact hB j (by omega)
      ·have hb:Zd4 rs out2 k=true:=by
        unfold Zd4
        simp only[hxk,hok,heq,decide_false,Bool.not_false]
       have heq':decide (x.vs=o.map Za0)=false:=by simp[heq]
       rw[heq']at hsq
       simp(disch:=first|(simp;done)|omega|rfl) [-getElem?_pos,A.lb16_0,hr,hr2,hf2,h12,lz,lo,hlt,hlt',q1,q2,q3,v0,v2,s1,s2,s3,s4,Zan.chk,hsq,hW8]
       exact⟨k,x,hxk,hB,hb,rfl⟩
    ·rintro e r2 ⟨H8,n8,W8⟩ hr2 ⟨hW8,t1,t2,⟨rfl,hB⟩|⟨rfl,k,x,hxk,hB,hbk,h6,h7⟩⟩
     ·simp only at hW8 t1 t2
      subst t1 t2
      simp(disch:=first|(simp;done)|omega|rfl) [-getElem?_pos,hr,hr2,Ret,rrQ,hE0,e1,Zv0 hB,hW8]
      exact j7
     ·simp only at hW8 t1 t2
      subst t1 t2
      simp(disch:=first|(simp;done)|omega|rfl) [-getElem?_pos,hr,hr2,h6,h7,Ret,rrQ,hE0,e1,Yiu hxk hB hbk,hW8]
      exact j7
  ·simp only at hW5 j5
   have hE0:Zak ((List.range rs.length).map (rpE l rs))=rpE l rs k:=Zww hkl hE hne
   simp(disch:=first|(simp;done)|omega|rfl) [-getElem?_pos,hr,h6,h7,Ret,rrQ,hE0,hne,hW5]
   exact j5
end Go.Mx
