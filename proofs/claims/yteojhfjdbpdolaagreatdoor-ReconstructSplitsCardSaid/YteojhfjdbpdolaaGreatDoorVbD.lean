/-reconstruct-/
import Derived.Test.YteojhfjdbpdolaaGreatDoorVaC
set_option linter.all false
namespace Go.Mx
noncomputable section
open Go Go.Proofs
variable {N n n':Nat} {h h':T O} {l:List Rat} {u v:V}
set_option maxHeartbeats 2000000
set_option maxRecDepth 1000000
def A.Pj:=A.q Tryz.f120
def A.sE:=A.ql A.Pj 0 []
def A.b120:=(fun x0=>A.qb A.Pj [x0]) A.sE
def A.k120:=@A.kk 120 22 [.tmp 4] A.b120 (by kernel_rfl) rfl
def Yju{f:V}{l:List V}{Q:Nat->T O->Nat->V->Prop}(Y:V->Prop)(hQ:∀j h n h' n' c u,Q j h n c->eE (fun i=>i∈dh u) h n h' n'->nP 70 Y h u->Q j h' n' c)(hs:Sl h N v l)(hl:l.length<1000000000)(hf:∀(j:Nat) (x:V),l[j]?=some x->∀h' n',ab h N h' n'->mJ A.C f [x] h' n' (fun u h2 n2=>∃y,u=y/\[y].length=1/\[y].all V.one=true/\(∀q∈[y],Y q)/\Q j h2 n2 y)):Fn A.C 120 [v,f] h N (fun u h' n'=>∃out,Own 1 70 N h' n' u out/\out.length=l.length/\∀(j:Nat),j<l.length->∃y,out[j]?=some [y]/\Q j h' n' y):=by
 intro w
 have hlen:=hs.len
 rw[aR,A.k120 (by simp)]
 simp[A.b120,hlen]
 refine bL [(5,5),(7,7),(10,20)] (fun e r st=>e=.exit 0/\ax N st.w=[]/\ab h N st.h st.n/\∃u out,r.get 5=some u/\Own 1 70 N st.h st.n u out/\out.length=l.length/\∀(j:Nat),j<l.length->∃y,out[j]?=some [y]/\Q j st.h st.n y) (fun m r st=>ax N st.w=[]/\ab h N st.h st.n/\∃k u out,k+m=l.length/\r.get 10=some (.int .i64 k)/\r.get 5=some u/\Own 1 70 N st.h st.n u out/\out.length=k/\(out=[]->u=.aa)/\(∀c∈out,∀y∈c,Y y)/\∀(j:Nat),j<k->∃y,out[j]?=some [y]/\Q j st.h st.n y) l.length ?_ ?_ ?_
 ·exact⟨by simp,ab.refl,0,.aa,[],by omega,by simp,by simp,Own.nil,rfl,fun _=>rfl,by simp,fun j hj=>by omega⟩
 ·rintro m r ⟨H,n1,W⟩ hr c9 ⟨hW,hK,k,u,out,hk,fF,h5,ho,gV,wo,hY,dm⟩
  simp only at hW hK ho dm
  rw[bl]
  cases m with
  |zero=>
   have AE:k=l.length:=by omega
   subst AE
   simp[A.sE,hr,c9,fF,hW,hK]
   exact⟨u,h5,out,ho,gV,dm⟩
  |succ m=>
   have ay:k<l.length:=by omega
   obtain⟨x,hx⟩:=bk ay
   obtain⟨i,o,cc,e,rw,q1,q2,q3,q4⟩:=(hs.ae hK).at hx
   have bM:(k:Int)<(l.length:Int):=by omega
   have kA:=hK
   simp[A.sE,hr,c9,fF,h5,bM,ay,hlen,q1,q3,q4]
   refine CL (hf k x hx _ _ kA) ?_
   rintro y h3 n3 k3 ⟨_,rfl,c1,c2,cY,c3⟩
   have jj:=k3.le
   have kn:=hK.le
   have kB:=kA.trans k3
   have b1:V.one y=true:=by simpa using c2
   have b2:V.cells y=[y]:=by cases y<;>first|rfl|cases b1
   simp[-V.cells, -V.one,hr,c9,fF,h5,b1,b2,ad]
   have uD:Own 1 70 N (h3.set n3 (.cells [y] 70 true)) (n3+1) u out:=(ho.ae ((ab.refl).trans k3)).ae (ab.refl.new _)
   obtain⟨v',h',w',f1,f2,f3,f4,fD,f5⟩:=DN (Y:=Y) (x:=[y]) (u:=.slice n3 0 1 (some 1) 1) (bytes:=24) (w:=W) uD wo hY (by omega) (by decide) c1 (by simp[eL,St.row,aF]) (by omega)
   rw[f1]
   have ij:¬n1<N:=by omega
   have f6:ax N w'=[]:=by rw[f2];simp[ax,hW,ij]
   have kz:=(kB.new (.cells [y] 70 true)).then f3
   have k4:ab h3 n3 (h3.set n3 (.cells [y] 70 true)) (n3+1):=ab.refl.new _
   have Dj:Q k (h3.set n3 (.cells [y] 70 true)) (n3+1) y:=hQ _ _ _ _ _ _ .aa c3 k4.upd nP.nil
   simp(disch:=first|(simp;done)|omega|rfl) [hr,c9,fF,f6]
   refine⟨m,by omega,kz,k+1,by omega,by simp,out++[[y]],f5,by simp[gV],by simp,fun c' hc z hz=>?_,fun j hj=>?_⟩
   ·rcases mE.1 hc with hc|hc
    ·exact hY c' hc z hz
    ·simp only[wR]at hc;subst hc;exact cY z hz
   by_cases pR:j<k
   ·obtain⟨y,g1,g2⟩:=dm j pR
    exact⟨y,by rw[iM (by omega)];exact g1,hQ _ _ _ _ _ _ _ (hQ _ _ _ _ _ _ .aa g2 (((ab.refl).trans k3).trans k4).upd nP.nil) f4 fD⟩
   ·obtain rfl:j=k:=by omega
    exact⟨y,by rw[kY (by omega),gV];simp,hQ _ _ _ _ _ _ _ Dj f4 fD⟩
 ·rintro _ r ⟨H,n1,W⟩ hr ⟨rfl,hW,hK,u,out,h5,ho,gV,dm⟩
  simp only at hW hK ho dm
  simp[hr,h5,aE,hW,hK]
  exact⟨out,ho,gV,dm⟩
def A.w90:=A.q Tryz.f90
def A.wE:=A.ql A.w90 0 []
def A.b90:=(fun x0=>A.qb A.w90 [x0]) A.wE
def A.k90:=@A.kk 90 22 [.tmp 4] A.b90 (by kernel_rfl) rfl
def Yjx{f:V}{l:List V}{Q:Nat->T O->Nat->List V->Prop}(Y:V->Prop)(hQ:∀j h n h' n' c u,Q j h n c->eE (fun i=>i∈dh u) h n h' n'->nP 89 Y h u->Q j h' n' c)(hs:Sl h N v l)(hl:l.length<1000000000)(hf:∀(j:Nat) (x:V),l[j]?=some x->∀h' n',ab h N h' n'->mJ A.C f [x] h' n' (fun u h2 n2=>∃c,u=(.agg c)/\c.length=4/\c.all V.one=true/\(∀q∈c,Y q)/\Q j h2 n2 c)):Fn A.C 90 [v,f] h N (fun u h' n'=>∃out,Own 4 89 N h' n' u out/\out.length=l.length/\∀(j:Nat),j<l.length->∃c,out[j]?=some c/\Q j h' n' c):=by
 intro w
 have hlen:=hs.len
 rw[aR,A.k90 (by simp)]
 simp[A.b90,hlen]
 refine bL [(5,5),(7,7),(10,20)] (fun e r st=>e=.exit 0/\ax N st.w=[]/\ab h N st.h st.n/\∃u out,r.get 5=some u/\Own 4 89 N st.h st.n u out/\out.length=l.length/\∀(j:Nat),j<l.length->∃c,out[j]?=some c/\Q j st.h st.n c) (fun m r st=>ax N st.w=[]/\ab h N st.h st.n/\∃k u out,k+m=l.length/\r.get 10=some (.int .i64 k)/\r.get 5=some u/\Own 4 89 N st.h st.n u out/\out.length=k/\(out=[]->u=.aa)/\(∀c∈out,∀y∈c,Y y)/\∀(j:Nat),j<k->∃c,out[j]?=some c/\Q j st.h st.n c) l.length ?_ ?_ ?_
 ·exact⟨by simp,ab.refl,0,.aa,[],by omega,by simp,by simp,Own.nil,rfl,fun _=>rfl,by simp,fun j hj=>by omega⟩
 ·rintro m r ⟨H,n1,W⟩ hr c9 ⟨hW,hK,k,u,out,hk,fF,h5,ho,gV,wo,hY,dm⟩
  simp only at hW hK ho dm
  rw[bl]
  cases m with
  |zero=>
   have AE:k=l.length:=by omega
   subst AE
   simp[A.wE,hr,c9,fF,hW,hK]
   exact⟨u,h5,out,ho,gV,dm⟩
  |succ m=>
   have ay:k<l.length:=by omega
   obtain⟨x,hx⟩:=bk ay
   obtain⟨i,o,cc,e,rw,q1,q2,q3,q4⟩:=(hs.ae hK).at hx
   have bM:(k:Int)<(l.length:Int):=by omega
   have kA:=hK
   simp[A.wE,hr,c9,fF,h5,bM,ay,hlen,q1,q3,q4]
   refine CL (hf k x hx _ _ kA) ?_
   rintro _ h3 n3 k3 ⟨c,rfl,c1,c2,cY,c3⟩
   have jj:=k3.le
   have kn:=hK.le
   have kB:=kA.trans k3
   have b1:∀v:List V,(V.agg v).cells=v:=fun _=>rfl
   have b2:ad [(.int .i64 0),.aa,(.int .i64 0),.aa] 0 c=c:=by unfold ad;rw[c1];simp[c1]
   simp[-V.cells, -V.one,hr,c9,fF,h5,b1,b2,c1,c2]
   have uD:Own 4 89 N (h3.set n3 (.cells c 89 true)) (n3+1) u out:=(ho.ae ((ab.refl).trans k3)).ae (ab.refl.new _)
   obtain⟨v',h',w',f1,f2,f3,f4,fD,f5⟩:=DN (Y:=Y) (x:=c) (u:=.slice n3 0 1 (some 1) 4) (bytes:=64) (w:=W) uD wo hY (by omega) (by decide) c1 (by simp only[eL,St.row,T.ag,if_true];unfold aF;simp[c1];exact fe (by omega)) (by omega)
   rw[f1]
   have ij:¬n1<N:=by omega
   have f6:ax N w'=[]:=by rw[f2];simp[ax,hW,ij]
   have kz:=(kB.new (.cells c 89 true)).then f3
   have k4:ab h3 n3 (h3.set n3 (.cells c 89 true)) (n3+1):=ab.refl.new _
   have Dj:Q k (h3.set n3 (.cells c 89 true)) (n3+1) c:=hQ _ _ _ _ _ _ .aa c3 k4.upd nP.nil
   simp(disch:=first|(simp;done)|omega|rfl) [hr,c9,fF,f6]
   refine⟨m,by omega,kz,k+1,by omega,by simp,out++[c],f5,by simp[gV],by simp,fun c' hc z hz=>?_,fun j hj=>?_⟩
   ·rcases mE.1 hc with hc|hc
    ·exact hY c' hc z hz
    ·simp only[wR]at hc;subst hc;exact cY z hz
   by_cases pR:j<k
   ·obtain⟨c,g1,g2⟩:=dm j pR
    exact⟨c,by rw[iM (by omega)];exact g1,hQ _ _ _ _ _ _ _ (hQ _ _ _ _ _ _ .aa g2 (((ab.refl).trans k3).trans k4).upd nP.nil) f4 fD⟩
   ·obtain rfl:j=k:=by omega
    exact⟨c,by rw[kY (by omega),gV];simp,hQ _ _ _ _ _ _ _ Dj f4 fD⟩
 ·rintro _ r ⟨H,n1,W⟩ hr ⟨rfl,hW,hK,u,out,h5,ho,gV,dm⟩
  simp only at hW hK ho dm
  simp[hr,h5,aE,hW,hK]
  exact⟨out,ho,gV,dm⟩
def A.w81:=A.q Tryz.f81
def A.wF:=A.ql A.w81 0 []
def A.b81:=(fun x0=>A.qb A.w81 [x0]) A.wF
def A.k81:=@A.kk 81 26 [.cell 4 (some 4)] A.b81 (by kernel_rfl) rfl
def A.b125:=A.q Tryz.f125
def A.k125:=@A.kk 125 8 [.cell 4 (some 4)] A.b125 (by kernel_rfl) rfl
abbrev NW(y:V):Prop:=∀m,y≠.int .u64 m
def In.cE{x:V}{z:Int}{e:TypeId}(s:In h n x z)(k:eE (fun i=>i∈dh v) h n h' n')(hd:nP e NW h v):In h' n' x z:=by
 rcases s with s|⟨i,o,l,c,s1,s2,s3⟩
 ·exact .inl s
 ·refine .inr ⟨i,o,l,c,s1,Sl.cE s2 k fun j hj hjv=>?_,s3⟩
  simp[dh]at hj
  subst hj
  obtain⟨z2,g1,_,g3⟩:=hd j hjv
  unfold Wn at s2
  have aW:aJ z.natAbs≠[]:=fun h0=>by
   have:=mV z.natAbs
   rw[h0]at this
   simp[val]at this
   omega
  obtain⟨d,ds,nW⟩:=List.exists_cons_of_ne_nil aW
  have zM:(dg (aJ z.natAbs))[0]?=some (.int .u64 d):=by rw[nW];simp[dg]
  obtain⟨i2,o2,c2,e2,UI,q1,q2,q3,q4⟩:=Sl.at s2 zM
  simp[yd]at q1
  obtain⟨rfl,rfl⟩:=q1
  rw[g1]at q3
  simp only[al,O.cells.injEq]at q3
  obtain⟨rfl,_⟩:=q3
  exact g3 _ (cG q4) _ rfl
def fE.cE{c:List V}{q:Rat}{e:TypeId}(s:fE h n c q)(k:eE (fun i=>i∈dh v) h n h' n')(hd:nP e NW h v):fE h' n' c q:=by
 obtain⟨n1,u1,n2,u2,rfl,s1,s2⟩:=s
 exact⟨n1,u1,n2,u2,rfl,s1.cE k hd,s2.cE k hd⟩
def Sn.A3{z:Nat}{l:List (List V)}(s:Sn z h N v l):∀i∈dh v,i<N:=fun i hi=>by
 rcases s with⟨_,rfl|rfl⟩|⟨j,o,cp,c,e,rw,rfl,hj,_⟩
 ·simp[dh]at hi
 ·simp[dh]at hi
 ·simp[dh]at hi;omega
def Sn.cE{z:Nat}{D:Nat->Prop}{N':Nat}{l:List (List V)}(s:Sn z h N v l)(k:eE D h N h' N')(hd:∀i∈dh v,¬D i):Sn z h' N' v l:=by
 rcases s with s|⟨i,o,cp,c,e,rw,rfl,h2,h3,h4⟩
 ·exact .inl s
 ·exact .inr ⟨i,o,cp,c,e,rw,rfl,eX h2 k.le,(k.get i h2 (hd i (by simp[dh]))).trans h3,h4⟩
def fl.ae{N':Nat}(s:fl h N u l)(k:ab h N h' N'):fl h' N' u l:=⟨s.1.ae k,fun i hi=>by
 obtain⟨cs,h1,_⟩:=s.1
 rw[k.get i (h1.A3 i hi)]
 exact s.2 i hi⟩
def fl.cE{e:TypeId}(s:fl h n u l)(k:eE (fun i=>i∈dh v) h n h' n')(hd:nP e NW h v)(he:e≠89):fl h' n' u l:=by
 obtain⟨⟨cs,h1,h2,h3⟩,h4⟩:=s
 have hn:∀i∈dh u,i∉dh v:=fun i hi hc=>by
  obtain⟨z,w,hz⟩:=h4 i hi
  obtain⟨z2,dT,_⟩:=hd i hc
  rw[hz]at dT
  simp at dT
  exact he dT.2.1.symm
 refine⟨⟨cs,h1.cE k hn,h2,fun j q hq=>?_⟩,fun i hi=>by rw[k.get i (h1.A3 i hi) (hn i hi)];exact h4 i hi⟩
 obtain⟨c,g1,g2⟩:=h3 j q hq
 exact⟨c,g1,g2.cE k hd⟩
def Vl{N0:Nat}{out:List (List V)}(s:Own 4 89 N0 h N v out)(hl:out.length=l.length)(hc:∀(j:Nat),j<l.length->∃c,out[j]?=some c/\∀q,l[j]?=some q->fE h N c q):fl h N v l:=by
 refine⟨⟨out,s.sn,hl,fun j q hq=>?_⟩,fun i hi=>?_⟩
 ·obtain⟨c,g1,g2⟩:=hc j (iY hq)
  exact⟨c,g1,g2 q hq⟩
 ·obtain⟨_,⟨_,rfl⟩|⟨j,rfl,_,_,hg⟩⟩:=s
  ·simp[dh]at hi
  ·simp[dh]at hi;subst hi;exact⟨_,_,hg⟩
structure DtI (h:T O) (N p:Nat) (a b:List Rat) (m:Nat) (r:T V) (st:St):Prop where
 w:ax N st.w=[]
 ae:ab h N st.h st.n
 ex:∃(t:Nat) (c:List V),t+m=a.length/\r.get 10=some (.int .i64 t)/\p<st.n/\st.h.get N=some (.cells zF 89 true)/\st.h.get p=some (.cells c 89 true)/\fE st.h st.n c (jT a b t)
def Yt2{a b:List Rat}{j k:Nat}(hu:jz h N u a)(hv:jz h N v b)(gp:a.length<=b.length)(ha:∀q∈a,Qb j q)(hb:∀q∈b,Qb k q)(hj:1<=j)(hk:1<=k)(hl:a.length*(j+k+1)+j+k+1<=400000000):Fn A.C 81 [u,v] h N (fun x h' n'=>Fc h' n' x (de a b)):=by
 intro w
 have l1:=hu.len
 have l2:=hv.len
 have hal:a.length<=400000000:=by have:=Nat.le_mul_of_pos_right a.length (show 0<j+k+1 by omega);omega
 rw[aR,A.k81 (by simp)]
 simp[A.b81]
 refine aA (Ytr (by omega) (by omega)) ?_
 rintro _ h1 n1 k1 hz
 obtain⟨c,rfl,hc⟩:=hz.c
 have kB:ab h N (h.set N (.cells zF 89 true)) (N+1):=ab.refl.new _
 have sJ:=k1.le
 have g1:=k1.get N (by omega)
 rw[T.ag,av rfl]at g1
 obtain⟨e1,e2⟩:=hc.len
 have mA:(V.agg c).cells=c:=rfl
 have e4:ad zF 0 c=c:=by unfold ad;rw[e1];simp[e1,zF]
 have BW:tP zF:=by intro x hx m;simp[zF]at hx;rcases hx with rfl|rfl|rfl|rfl<;>simp
 unfold zF at e4
 simp[-V.cells, -V.one,mA,e1,e2,e4,bC,l1]
 generalize hH:(h1.set n1 (.cells [.int .i64 0,.aa,.int .i64 0,.aa] 89 true)).set n1 (.cells c 89 true)=H1
 have kA:ab h1 n1 H1 (n1+1):=by rw[<-hH];exact(ab.refl.new _).set (aM _)
 have kC:ab h N H1 (n1+1):=(kB.trans k1).trans kA
 have g2:H1.get n1=some (.cells c 89 true):=by rw[<-hH];simp
 have g3:=(kA.get N (by omega)).trans g1
 clear hH
 refine bL [(6,6),(10,24)] (fun e r st=>e=.exit 0/\DtI h N n1 a b 0 r st) (DtI h N n1 a b) a.length ?_ ?_ ?_
 ·exact⟨by simp;omega,kC,0,c,by omega,by simp,by show n1<n1+1;omega,g3,g2,by simpa[jT]using hc.ae kA⟩
 ·rintro m r ⟨H,n2,W⟩ hr hf ⟨hW,hK,t,c0,ht,fF,Pm,sS,pw,uG⟩
  simp only at hW hK Pm sS pw uG
  rw[bl]
  cases m with
  |zero=>
   obtain rfl:t=a.length:=by omega
   simp[A.wF,hr,hf,fF]
   exact⟨hW,hK,a.length,c0,by omega,by simp[fF],Pm,sS,pw,uG⟩
  |succ m=>
   have ay:t<a.length:=by omega
   have bb:(t:Int)<(a.length:Int):=by omega
   have js:t<b.length:=by omega
   have AS:(t:Int)<(b.length:Int):=by omega
   obtain⟨x,hx⟩:=bk ay
   obtain⟨y,hy⟩:=bk js
   have xW:=ha x (cG hx)
   have iU:=hb y (cG hy)
   have zn:=R5 ha hb hj hk t
   have RX:=xW.mul iU
   have hmul:t*(j+k+1)<=a.length*(j+k+1):=jB _ (by omega)
   have ee:jT a b (t+1)=jT a b t+x*y:=by simp[jT,hx,hy]
   obtain⟨i,o,cc,e,rw,ca,q1,q2,q3,q4,q5⟩:=(hu.ae hK).at hx
   obtain⟨i',o',cc',e',pO,cb,p1,p2,p3,p4,p5⟩:=(hv.ae hK).at hy
   have s0:aF c0 0 4=some c0:=by unfold aF;rw[uG.len.1];simp;exact fe (by rw[uG.len.1];omega)
   simp[A.wF,hr,hf,fF,l1,l2,ay,bb,js,AS,pw,s0,q1,q2,q3,q4,p1,p2,p3,p4]
   have w1:=zt xW.1
   have w2:=zt (z:=(x.den:Int)) (k:=j) (by rw[dR];exact xW.2)
   have w3:=zt iU.1
   have w4:=zt (z:=(y.den:Int)) (k:=k) (by rw[dR];exact iU.2)
   have w5:=zt zn.1
   have w6:=zt (z:=((jT a b t).den:Int)) (by rw[dR];exact zn.2)
   have w7:=zt RX.1
   have w8:=zt (z:=((x*y).den:Int)) (by rw[dR];exact RX.2)
   refine aA (ZB q5.fc p5.fc (by omega) (by omega) (by omega) (by omega)) ?_
   rintro x3 h3 n3 k3 hm3
   simp[]
   refine aA (Yf5 (uG.ae k3).fc hm3 (by omega) (by omega) (by omega) (by omega)) ?_
   rintro _ h4' n4 k4 Sh
   rw[<-ee]at Sh
   obtain⟨c4,rfl,hc4⟩:=Sh.c
   have B3:=k3.le
   have Ve:=k4.le
   have gp4:=(k4.get n1 (by omega)).trans ((k3.get n1 (by omega)).trans pw)
   have g04:=(k4.get N (by omega)).trans ((k3.get N (by omega)).trans sS)
   obtain⟨f1,f2⟩:=hc4.len
   have f3:=uG.len.1
   have zal:(V.agg c4).cells=c4:=rfl
   have e5:ad c0 0 c4=c4:=by unfold ad;rw[f1];simp[f3]
   simp[-V.cells, -V.one,hr,hf,fF,zal,f1,f2,f3,e5,gp4,bC]
   have d2:n1<n4:=by omega
   have d3:¬N=n1:=by omega
   have d4:¬n1<N:=by omega
   refine(IX (by simp[-ax,Pm,d2,Zzn,Ztt])).2 ?_
   simp(disch:=first|(simp;done)|omega|rfl) [hr,hf,fF,ay,bb,d2]
   exact⟨m,by omega,by simp[ax,hW,d4],((hK.trans k3).trans k4).set (by omega),t+1,c4,by omega,by simp,d2,by show T.get _ N=_;rw[T.ag,ak d3];exact g04,by show T.get _ n1=_;rw[T.ag,av rfl],hc4.aK gp4 uG.KH (by rw[f1,f3])⟩
 ·rintro _ r ⟨H,n2,W⟩ hr ⟨rfl,hW,hK,t,c0,ht,fF,Pm,sS,pw,uG⟩
  simp only at hW hK Pm sS pw uG
  obtain rfl:t=a.length:=by omega
  have s0:aF c0 0 4=some c0:=by unfold aF;rw[uG.len.1];simp;exact fe (by rw[uG.len.1];omega)
  have zam:(V.agg c0).cells=c0:=rfl
  have e5:ad zF 0 c0=c0:=by unfold ad;rw[uG.len.1];simp[uG.len.1,zF]
  have f1:=uG.len.1
  have f2:=uG.len.2
  unfold zF at e5 sS
  simp[-V.cells, -V.one,hr,pw,sS,s0,bC,zam,f1,f2,e5,aE]
  exact⟨hW,hK.set (aM N),(uG.aK sS BW (by rw[f1];rfl)).fc⟩
variable {N k:Nat} {h:T O} {m:List (List Rat)} {u v:V}
def A.b47:=A.q Tryz.f47
def A.k47:=@A.kk 47 11 [.tmp 4] A.b47 (by kernel_rfl) rfl
def A.b48:=A.q Tryz.f48
def A.k48:=@A.kk 48 8 [.tmp 4] A.b48 (by kernel_rfl) rfl
def A.b126:=A.q Tryz.f126
def A.k126:=@A.kk 126 8 [.cell 3 (some 4)] A.b126 (by kernel_rfl) rfl
def A.b42:=A.q Tryz.f42
def A.k42:=@A.kk 42 5 [.tmp 2] A.b42 (by kernel_rfl) rfl
def Ynf{a b:List Rat}{j:Nat}(hu:jz h N u a)(hv:jz h N v b)(gp:a.length<=b.length)(ha:∀q∈a,Qb j q)(hb:∀q∈b,Qb k q)(hj:1<=j)(hk:1<=k)(hl:a.length*(j+k+1)+j+k+1<=400000000):mJ A.C (.func 125 [v] []) [u] h N (fun x h' n'=>Fc h' n' x (de a b)):=by
 intro w
 have kB:ab h N (h.set N (.cells zF 89 true)) (N+1):=ab.refl.new _
 rw[aR,A.k125 (by simp)]
 simp[A.b125]
 refine aA (Yt2 (hu.ae kB) (hv.ae kB) gp ha hb hj hk hl) ?_
 rintro _ h1 n1 k1 hz
 obtain⟨c,rfl,hc⟩:=hz.c
 have sJ:=k1.le
 have g1:=k1.get N (by omega)
 rw[T.ag,av rfl]at g1
 obtain⟨e1,e2⟩:=hc.len
 have mA:(V.agg c).cells=c:=rfl
 have e4:ad zF 0 c=c:=by unfold ad;rw[e1];simp[e1,zF]
 have BW:tP zF:=by intro x hx m;simp[zF]at hx;rcases hx with rfl|rfl|rfl|rfl<;>simp
 have kk:=(kB.trans k1).set (h:=h) (n:=N) (i:=N) (o:=.cells c 89 true) (aM N)
 have oC:=(hc.aK (e1:=89) (w1:=true) (c1:=c) g1 BW (by rw[e1];rfl)).fc
 have s0:aF c 0 4=some c:=by unfold aF;rw[e1];simp;exact fe (by omega)
 have ay:N<n1:=by omega
 unfold zF at e4
 simp[-V.cells, -V.one,mA,e1,e2,e4,s0,g1,bC,aE,ct.cv]
 exact⟨kk,oC⟩
def lZ(h:T O)(N:Nat)(v:V)(m:List (List Rat)):Prop:=∃us:List V,Sl h N v us/\us.length=m.length/\∀(j:Nat) (l:List Rat),m[j]?=some l->∃u,us[j]?=some u/\fl h N u l
def lZ.ae{h':T O}{N':Nat}(s:lZ h N v m)(k:ab h N h' N'):lZ h' N' v m:=by
 obtain⟨us,h1,h2,h3⟩:=s
 refine⟨us,h1.ae k,h2,fun j l hl=>?_⟩
 obtain⟨u,g1,g2⟩:=h3 j l hl
 exact⟨u,g1,g2.ae k⟩
def lZ.len(s:lZ h N v m):pD v=some m.length:=by
 obtain⟨us,h1,h2,_⟩:=s
 rw[h1.len,h2]
def jz.form{l:List Rat}(s:jz h N v l):V.one v=true/\V.cells v=[v]/\NW v:=by
 obtain⟨cs,⟨_,rfl|rfl⟩|⟨i,o,cp,c,e,rw,rfl,_⟩,_⟩:=s
 ·exact⟨rfl,rfl,fun m=>by simp⟩
 ·exact⟨rfl,rfl,fun m=>by simp⟩
 ·exact⟨rfl,rfl,fun m=>by simp⟩
def Yix{k0:Nat}(hs:iw h N v m)(hl:m.length<1000000000)(hm:∀l∈m,l.length<1000000000/\∀q∈l,Qb k0 q)(uX:k0<=4000):Fn A.C 42 [v] h N (fun u h' n'=>lZ h' n' u m):=by
 intro w
 obtain⟨us,h1,h2,h3⟩:=hs
 rw[aR,A.k42 (by simp)]
 simp[A.b42]
 refine aA (Yju (Q:=fun j h n u=>∀l,m[j]?=some l->fl h n u l) NW (fun j h n h' n' c u hq k hd l hl=>(hq l hl).cE k hd (by simp)) h1 (by omega) ?_) ?_
 ·intro j x hx h' n' hk
  obtain⟨l,hl⟩:=bk (l:=m) (k:=j) (by have:=iY hx;omega)
  obtain⟨u,g1,g2⟩:=h3 j l hl
  rw[hx]at g1
  obtain rfl:x=u:=by simpa using g1
  obtain⟨b1,b2⟩:=hm l (cG hl)
  refine fun w=>(Zq2 (k0:=k0) (g2.ae hk) b1 b2 uX w).mono fun y st=>?_
  rintro⟨q1,q2,q3⟩
  obtain⟨f1,f2,f3⟩:=q3.1.form
  refine⟨q1,q2,y,rfl,rfl,by simp only[List.all_cons,List.all_nil,f1,Bool.and_true],by simpa using f3,fun l' i_=>?_⟩
  rw[hl]at i_
  obtain rfl:l=l':=by simpa using i_
  exact q3
 ·rintro u h4 n4 k4 ⟨out,o1,o2,o3⟩
  simp[aE]
  refine⟨k4,?_⟩
  have hx:∀x∈out,∃y,x=[y]:=fun x hx=>by
   have:=o1.1 x hx
   cases x with
   |nil=>simp at this
   |cons y t=>cases t with
    |nil=>exact⟨y,rfl⟩
    |cons a b=>simp at this
  obtain⟨ys,LI⟩:∃ys:List V,out=ys.map fun y=>[y]:=by
   clear o1 o2 o3
   induction out with
   |nil=>exact⟨[],rfl⟩
   |cons x t ih=>
    obtain⟨y,rfl⟩:=hx x (by simp)
    obtain⟨ys,rfl⟩:=ih fun x jn=>hx x (by simp[jn])
    exact⟨y::ys,rfl⟩
  subst LI
  refine⟨ys,Sn.one.1 o1.sn,by simpa[h2]using o2,fun j l hl=>?_⟩
  obtain⟨y,g1,g2⟩:=o3 j (by have:=iY hl;omega)
  refine⟨y,?_,g2 l hl⟩
  rw[eY]at g1
  cases hy:ys[j]? with
  |none=>rw[hy]at g1;simp at g1
  |some z=>rw[hy]at g1;simpa using g1
def Ye3{f:V}(F:List Rat->Rat)(hs:lZ h N v m)(hl:m.length<1000000000)(hf:∀l∈m,∀u h' n',ab h N h' n'->fl h' n' u l->mJ A.C f [u] h' n' (fun x h2 n2=>Fc h2 n2 x (F l))):Fn A.C 90 [v,f] h N (fun u h' n'=>fl h' n' u (m.map F)):=by
 obtain⟨us,h1,h2,h3⟩:=hs
 have key:=Yjx (f:=f) (Q:=fun j h n c=>∀q,(m.map F)[j]?=some q->fE h n c q) NW (fun j h n h' n' c u hq k hd q uL=>(hq q uL).cE k hd) h1 (by omega) ?_
 ·intro w
  refine(key w).mono fun u st=>?_
  rintro⟨q1,q2,out,o1,o2,o3⟩
  exact⟨q1,q2,Vl o1 (by simpa[h2]using o2) fun j hj=>o3 j (by simp at hj;omega)⟩
 ·intro j x hx h' n' hk
  obtain⟨l,hl⟩:=bk (l:=m) (k:=j) (by have:=iY hx;omega)
  obtain⟨u,g1,g2⟩:=h3 j l hl
  rw[hx]at g1
  obtain rfl:x=u:=by simpa using g1
  refine fun w=>(hf l (cG hl) x h' n' hk (g2.ae hk) w).mono fun y st=>?_
  rintro⟨q1,q2,q3⟩
  obtain⟨c,rfl,hc⟩:=q3.c
  refine⟨q1,q2,c,rfl,hc.len.1,hc.len.2,hc.KH,fun q hq=>?_⟩
  simp[hl]at hq
  rw[<-hq]
  exact hc
def Zoe{b:List Rat}{j n:Nat}(hu:lZ h N u m)(hv:jz h N v b)(hm:∀r∈m,r.length=n/\∀q∈r,Qb j q)(hn:n<=b.length)(hb:∀q∈b,Qb k q)(hj:1<=j)(hk:1<=k)(hl:n*(j+k+1)+j+k+1<=400000000)(mw:m.length<100000):Fn A.C 47 [u,v] h N (fun x h' n'=>fl h' n' x (m.map fun r=>de r b)):=by
 intro w
 rw[aR,A.k47 (by simp)]
 simp[A.b47]
 refine aA (Ye3 (fun r=>de r b) hu (by omega) fun l iD x h' n' er hx=>?_) ?_
 ·obtain⟨b1,b2⟩:=hm l iD
  exact Ynf hx.1 (hv.ae er) (by omega) b2 hb hj hk (by rw[b1];exact hl)
 ·rintro x h4 n4 k4 hx
  simp[aE]
  exact⟨k4,hx⟩
def Yq0{p:Nat}{l:List Rat}{e:TypeId}{rw:Bool}(hp:h.get p=some (.cells [.int .i64 k] e rw))(gw:p<N)(hu:jz h N u l)(hk:k<l.length):mJ A.C (.func 126 [] [.ptr p 0]) [u] h N (fun x h' n'=>Fc h' n' x (l[k]?.getD 0)):=by
 intro w
 have l1:=hu.len
 have gE:(k:Int)<(l.length:Int):=by omega
 obtain⟨q,hq⟩:=bk hk
 obtain⟨i,o,cc,e,rw,c,q1,q2,q3,q4,q5⟩:=hu.at hq
 obtain⟨e1,e2⟩:=q5.len
 have kB:ab h N (h.set N (.cells zF 89 true)) (N+1):=ab.refl.new _
 have mA:(V.agg c).cells=c:=rfl
 have e4:ad zF 0 c=c:=by unfold ad;rw[e1];simp[e1,zF]
 have BW:tP zF:=by intro x hx m;simp[zF]at hx;rcases hx with rfl|rfl|rfl|rfl<;>simp
 have s0:aF c 0 4=some c:=by unfold aF;rw[e1];simp;exact fe (by omega)
 have kk:=kB.set (h:=h) (n:=N) (i:=N) (o:=.cells c 89 true) (aM N)
 have oC:=((q5.ae kB).aK (i:=N) (e0:=89) (w0:=true) (e1:=89) (w1:=true) (c1:=c) (by rw[T.ag,av rfl]) BW (by rw[e1];rfl)).fc
 have d1:¬p=N:=by omega
 have d2:¬i=N:=by omega
 rw[hq]
 unfold zF at e4
 rw[aR,A.k126 (by simp)]
 simp[-V.cells, -V.one,A.b126,hp,d1,d2,l1,hk,gE,q1,q3,q4,mA,e1,e2,e4,s0,bC,aE,ct.cv]
 exact⟨kk,oC⟩
def Zy7{n:Nat}(hu:lZ h N u m)(mw:m.length<100000)(hm:∀r∈m,r.length=n)(hk:k<n):Fn A.C 48 [u,.int .i64 k] h N (fun x h' n'=>fl h' n' x (kf m k)):=by
 intro w
 rw[aR,A.k48 (by simp)]
 have kB:ab h N (h.set N (.cells [.int .i64 k] 3 true)) (N+1):=ab.refl.new _
 simp[A.b48]
 refine aA (Ye3 (fun r=>r[k]?.getD 0) (hu.ae kB) (by omega) fun l iD x h' n' er hx=>?_) ?_
 ·exact Yq0 (e:=3) (rw:=true) (by rw[er.get N (by omega)];simp) (by have:=er.le;omega) hx.1 (by rw[hm l iD];exact hk)
 ·rintro x h4 n4 k4 hx
  simp[aE]
  exact⟨kB.trans k4,hx⟩
variable {N:Nat} {h:T O} {l:List Rat} {m:List (List Rat)} {u v:V}
def A.Pn:=A.q Tryz.f165
def A.sF:=A.ql A.Pn 0 []
def A.b165:=(fun x0=>A.qb A.Pn [x0]) A.sF
def A.k165:=@A.kk 165 19 [.tmp 4] A.b165 (by kernel_rfl) rfl
def Yp9{f:V}(l:List (List V))(p:Nat->Bool)(hs:Sn 4 h N v l)(hl:l.length<1152921504606846976)(hf:∀(j:Nat) (x:List V),l[j]?=some x->∀h' n',ab h N h' n'->mJ A.C f [.agg x] h' n' (fun u _ _=>u=.bool (p j))):Fn A.C 165 [v,f] h N (fun u _ _=>u=.int .i64 (nR p 0 l.length)):=by
 intro w
 have hlen:=hs.len
 rw[aR,A.k165 (by simp)]
 simp[A.b165,hlen]
 refine bL [(4,5),(8,18)] (fun e r st=>ax N st.w=[]/\ab h N st.h st.n/\((e=.exit 0/\nR p 0 l.length= -1)\/(e=.ret/\r.get 4=some (.int .i64 (nR p 0 l.length))))) (fun m r st=>ax N st.w=[]/\ab h N st.h st.n/\∃k,k+m=l.length/\r.get 8=some (.int .i64 k)/\nR p 0 l.length=nR p k m) l.length ?_ ?_ ?_
 ·exact⟨by simp,ab.refl,0,by omega,by simp,rfl⟩
 ·rintro m r ⟨H,n1,W⟩ hr c9 ⟨hW,hK,k,hk,h8,hz⟩
  simp only at hW hK
  rw[bl]
  cases m with
  |zero=>
   have:k=l.length:=by omega
   subst this
   simp only[nR]at hz
   simp[A.sF,hr,c9,h8,hW,hK,hz]
  |succ m=>
   have ay:k<l.length:=by omega
   obtain⟨c,hc⟩:=bk ay
   obtain⟨i,o,cc,e,rw,q1,q2,q3,q4⟩:=hs.at hc
   have q3:=(hK.get _ q2).trans q3
   have bM:(k:Int)<(l.length:Int):=by omega
   simp only[nR]at hz
   simp[A.sF,hr,c9,h8,bM,ay,hlen,q1,q3,q4,hW]
   refine CL (hf k c hc _ _ hK) ?_
   rintro v h2 n2 k2 rfl
   have kk:=hK.trans k2
   cases hp:p k
   ·rw[hp]at hz
    simp(disch:=first|(simp;done)|omega|rfl) [hr,c9,h8,hW,kk]
    exact⟨m,by omega,k+1,by omega,by simp,by simpa using hz⟩
   ·rw[hp]at hz
    simp[hr,c9,h8,hW,kk]
    simpa using hz.symm
 ·rintro e r ⟨H,n1,W⟩ hr ⟨hW,hK,⟨rfl,hz⟩|⟨rfl,h4⟩⟩
  ·simp only at hW hK
   simp[hr,hz,aE,hW,hK]
  ·simp only at hW hK
   simp[hr,h4,aE,hW,hK]
def A.b108:=A.q Tryz.f108
def A.k108:=@A.kk 108 9 [.tmp 4] A.b108 (by kernel_rfl) rfl
def A.b49:=A.q Tryz.f49
def A.k49:=@A.kk 49 8 [.tmp 2,.tmp 3] A.b49 (by kernel_rfl) rfl
def A.w46:=A.q Tryz.f46
def A.wG:=A.ql A.w46 0 []
def A.b46:=(fun x0=>A.qb A.w46 [x0]) A.wG
def A.k46:=@A.kk 46 19 [.tmp 4] A.b46 (by kernel_rfl) rfl
def A.w50:=A.q Tryz.f50
def A.wH:=A.ql A.w50 0 []
def A.b50:=(fun x0=>A.qb A.w50 [x0]) A.wH
def A.k50:=@A.kk 50 32 [.tmp 6] A.b50 (by kernel_rfl) rfl
def Yk7{f:V}(l:List (List V))(p:Nat->Bool)(hs:Sn 4 h N v l)(hl:l.length<1152921504606846976)(hf:∀(j:Nat) (x:List V),l[j]?=some x->∀h' n',ab h N h' n'->mJ A.C f [.agg x] h' n' (fun u _ _=>u=.bool (p j))):Fn A.C 108 [v,f] h N (fun u _ _=>u=.bool (decide (0<=nR p 0 l.length))):=by
 intro w
 rw[aR,A.k108 (by simp)]
 simp[A.b108]
 refine aA (Yp9 l p hs hl hf) ?_
 rintro v h2 n2 k2 rfl
 simp[aE,k2]
def Ybp:decide (0<=nR (fun j=>A6 (l[j]?.getD 0)) 0 l.length)=fv l:=by
 rw[Bool.eq_iff_iff,decide_eq_true_eq,Zud]
 unfold fv
 rw[List.any_eq_true]
 constructor
 ·rintro⟨j,_,h2,h3⟩
  obtain⟨q,hq⟩:=bk (l:=l) (k:=j) (by omega)
  rw[hq]at h3
  exact⟨q,cG hq,h3⟩
 ·rintro⟨q,hq,h3⟩
  obtain⟨j,hj⟩:=tc hq
  exact⟨j,tX _,by have:=iY hj;omega,by rw[hj];exact h3⟩
def Yh3{h:T O}{N:Nat}{u:V}{l:List Rat}{k:Nat}(hu:jz h N u l)(hP:kZ h N)(hl:l.length<1000000000)(hq:∀q∈l,Qb k q)(hk:k<=400000000):Fn A.C 49 [u] h N (fun x h' n'=>(fv l=true/\x=.aX [.aa,.int .i64 4])\/(fv l=false/\∃v,x=.aX [v,.int .i64 0]/\tV h' n' v l)):=by
 intro w
 obtain⟨cs,s1,s2,s3⟩:=id hu
 have key:=Yk7 (f:=.func 83 [] []) cs (fun j=>A6 (l[j]?.getD 0)) s1 (by omega) (fun j x hx h' n' gE=>by
  obtain⟨q,hqj⟩:=bk (l:=l) (k:=j) (by have:=iY hx;omega)
  obtain⟨c,g1,g2⟩:=s3 j q hqj
  rw[hx]at g1
  obtain rfl:x=c:=by simpa using g1
  simp only[hqj,fX]
  exact Yf2 (g2.ae gE).fc (hP.ae gE) (hq q (cG hqj)) (by omega))
 rw[s2,Ybp]at key
 rw[aR,A.k49 (by simp)]
 simp[A.b49]
 refine aA key ?_
 rintro _ h2 n2 k2 rfl
 cases hb:fv l with
 |true=>
  simp[aE]
  exact k2
 |false=>
  simp[]
  refine aA (Yh7 (k0:=k) (hu.ae k2) (hP.ae k2) hl hq hk) ?_
  rintro v h3 n3 k3 t1
  simp[aE]
  exact⟨k2.trans k3,t1⟩
def Ycr{k:Nat}(hu:jz h N u l)(hP:kZ h N)(hl:l.length<1000000000)(hq:∀q∈l,Qb k q)(hk:k<=400000000):Fn A.C 49 [u] h N (fun x h' n'=>(fv l=true/\x=.aX [.aa,.int .i64 4])\/(fv l=false/\∃v,x=.aX [v,.int .i64 0]/\Tx h' n' v l)):=fun w=>(Yh3 hu hP hl hq hk w).mono fun x st ⟨a,b,c⟩=>⟨a,b,c.imp id fun ⟨e,v,r,t⟩=>⟨e,v,r,t.1⟩⟩
def sW(N0:Nat)(h:T O)(N:Nat)(v:V)(m:List (List Rat)):Prop:=∃us:List V,Own 1 70 N0 h N v (us.map fun y=>[y])/\(us=[]->v=.aa)/\us.length=m.length/\∀(j:Nat) (l:List Rat),m[j]?=some l->∃u,us[j]?=some u/\fl h N u l
def sW.nil{N0:Nat}:sW N0 h N .aa []:=⟨[],Own.nil,fun _=>rfl,rfl,fun j l hl=>by simp at hl⟩
def sW.ae{N0:Nat}{h':T O}{N':Nat}(s:sW N0 h N v m)(k:ab h N h' N'):sW N0 h' N' v m:=by
 obtain⟨us,h1,h2,h3,h4⟩:=s
 refine⟨us,h1.ae k,h2,h3,fun j l hl=>?_⟩
 obtain⟨u,g1,g2⟩:=h4 j l hl
 exact⟨u,g1,g2.ae k⟩
def sW.FJ{N0:Nat}(s:sW N0 h N v m):lZ h N v m:=by
 obtain⟨us,h1,h2,h3,h4⟩:=s
 exact⟨us,Sn.one.1 h1.sn,h3,h4⟩
def sW.push{N0:Nat}{x:V}{w:List Nat}(s:sW N0 h N v m)(hu:fl h N u l)(hN:N0<=N)(hx:eL ⟨h,N,w⟩ 1 x=some (1,[u]))(hm:m.length<100000):
  ∃v' h' w',fY ⟨h,N,w⟩ 1 24 70 v x=some (v',⟨h',N+1,w'⟩)/\ax N0 w'=ax N0 w/\ab h N0 h' (N+1)/\sW N0 h' (N+1) v' (m++[l]):=by
 obtain⟨us,h1,h2,h3,h4⟩:=s
 obtain⟨v',h',w',f1,f2,f3,f4,fD,f5⟩:=DN (Y:=NW) (x:=[u]) (u:=x) (bytes:=24) (w:=w) h1 (fun h0=>h2 (List.map_eq_nil_iff.1 h0)) (fun c hc y hy=>by
  obtain⟨z,hz,rfl⟩:=dt.1 hc
  obtain rfl:y=z:=by simpa using hy
  obtain⟨j,hj⟩:=tc hz
  obtain⟨r,hr⟩:=bk (l:=m) (k:=j) (by have:=iY hj;omega)
  obtain⟨u',g1,g2⟩:=h4 j r hr
  rw[hj]at g1
  obtain rfl:y=u':=by simpa using g1
  exact g2.1.form.2.2) hN (by decide) rfl hx (by rw[dL];omega)
 refine⟨v',h',w',f1,f2,f3,us++[u],by simpa using f5,by simp,by simp[h3],fun j r hr=>?_⟩
 by_cases hj:j<m.length
 ·rw[iM hj]at hr
  obtain⟨u',g1,g2⟩:=h4 j r hr
  exact⟨u',by rw[iM (by omega)];exact g1,g2.cE f4 fD (by simp)⟩
 ·rw[kY (by omega)]at hr
  cases hd:j-m.length with
  |zero=>
   rw[hd]at hr
   simp at hr
   subst hr
   exact⟨u,by rw[kY (by omega),h3,hd];rfl,hu.cE f4 fD (by simp)⟩
  |succ d=>rw[hd]at hr;simp at hr
def SE{n:Nat}(hu:lZ h N u m)(mw:m.length<100000)(hm:∀r∈m,r.length=n)(hn:n<1000):Fn A.C 46 [u,.int .i64 n] h N (fun x h' n'=>sW N h' n' x (eI m n)):=by
 intro w
 rw[aR,A.k46 (by simp)]
 simp[A.b46]
 refine bL [(5,6),(8,17)] (fun e r st=>e=.exit 0/\ax N st.w=[]/\ab h N st.h st.n/\∃x,r.get 5=some x/\sW N st.h st.n x (eI m n)) (fun i r st=>ax N st.w=[]/\ab h N st.h st.n/\∃k x,k+i=n/\r.get 8=some (.int .i64 k)/\r.get 5=some x/\sW N st.h st.n x (eI m k)) n ?_ ?_ ?_
 ·exact⟨by simp,ab.refl,0,.aa,by omega,by simp,by simp,sW.nil⟩
 ·rintro i r ⟨H,n1,W⟩ hr hf ⟨hW,hK,k,x,hk,h8,h5,ho⟩
  simp only at hW hK ho
  rw[bl]
  cases i with
  |zero=>
   obtain rfl:k=n:=by omega
   simp[A.wG,hr,hf,h8,h5,hW,hK]
   exact ho
  |succ i=>
   have ay:k<n:=by omega
   have bb:(k:Int)<(n:Int):=by omega
   simp[A.wG,hr,hf,h8,h5,ay,bb]
   refine aA (Zy7 (hu.ae hK) mw hm ay) ?_
   rintro y H2 n2 k2 hy
   have kX:=k2.le
   have fx:=hK.le
   obtain⟨y1,y2,y3⟩:=hy.1.form
   have e4:ad [V.aa] 0 [y]=[y]:=rfl
   have kN:ab H2 n2 (H2.set n2 (.cells [y] 70 true)) (n2+1):=ab.refl.new _
   obtain⟨v',h',w',f1,f2,f3,f5⟩:=(((ho.ae k2).ae kN).push (x:=.slice n2 0 1 (some 1) 1) (l:=kf m k) (w:=W) (hy.ae kN) (by omega) (by simp[eL,St.row,aF]) (by simp[eI];omega))
   have e7:eI m k++[kf m k]=eI m (k+1):=by simp[eI,List.range_succ]
   rw[e7]at f5
   have b1:V.one y=true:=y1
   simp(disch:=first|(simp;done)|omega|rfl) [-V.cells, -V.one,hr,hf,h8,h5,b1,y2,e4,f1]
   exact⟨i,by omega,by rw[f2];exact hW,((hK.trans k2).trans kN).then f3,k+1,by omega,by simp,f5⟩
 ·rintro _ r ⟨H,n1,W⟩ hr ⟨rfl,hW,hK,x,h5,ho⟩
  simp only at hW hK ho
  simp[hr,h5,aE,hW,hK]
  exact ho
variable {a b:List Rat}
set_option maxHeartbeats 2000000
def ks(F:Rat->Rat->Rat)(a b:List Rat)(n:Nat):List Rat:=(List.range n).map fun k=>F (a[k]?.getD 0) (b[k]?.getD 0)
def I4{F:Rat->Rat->Rat}{n j:Nat}(h:j<n):(ks F a b n)[j]?=some (F (a[j]?.getD 0) (b[j]?.getD 0)):=by
 simp[ks,h]
def zy{F:Rat->Rat->Rat}{n:Nat}:(ks F a b n).length=n:=by simp[ks]
structure JnI (F:Rat->Rat->Rat) (h:T O) (N:Nat) (a b:List Rat) (m:Nat) (r:T V) (st:St):Prop where
 w:ax N st.w=[]
 ae:ab h N st.h st.n
 ex:∃(k:Nat) (cs:List (List V)),k+m=a.length/\r.get 14=some (.int .i64 k)/\N<st.n/\st.h.get N=some (.cells (cs.flatten++cU zF m) 89 true)/\cs.length=k/\∀(j:Nat) (q:Rat),j<k->(ks F a b a.length)[j]?=some q->∃c,cs[j]?=some c/\fE st.h st.n c q
def Yfo{h:T O}{N:Nat}{u v f:V}(F:Rat->Rat->Rat)(hu:jz h N u a)(hv:jz h N v b)(gp:a.length<=b.length)(hF:∀x∈a,∀y∈b,∀(h':T O) (n':Nat) (ca cb:List V),ab h N h' n'->fE h' n' ca x->fE h' n' cb y->mJ A.C f [.agg ca,.agg cb] h' n' (fun z h2 n2=>Fc h2 n2 z (F x y)))(hl:a.length<1000000000):Fn A.C 50 [u,v,f] h N (fun x h' n'=>fl h' n' x (ks F a b a.length)):=by
 intro w
 have l1:=hu.len
 have l2:=hv.len
 have c1:(64:Int)*(a.length:Int)<=140737488355328:=by omega
 have c2:(a.length:Int)<4611686018427387904:=by omega
 have kB:ab h N (h.set N (.cells (cU zF a.length) 89 true)) (N+1):=ab.refl.new _
 rw[aR,A.k50 (by simp)]
 simp[A.b50,l1,c1,c2]
 refine bL [(8,8),(14,30)] (fun e r st=>e=.exit 0/\JnI F h N a b 0 r st) (JnI F h N a b) a.length ?_ ?_ ?_
 ·exact⟨by simp,kB,0,[],by omega,by simp,by show N<N+1;omega,by rw[T.ag,av rfl];rfl,rfl,fun j q hj=>by omega⟩
 ·rintro m r ⟨H,n1,W⟩ hr hf ⟨hW,hK,t,cs,ht,oG,pe,hM,cN,jA⟩
  simp only at hW hK hM pe jA
  rw[bl]
  cases m with
  |zero=>
   obtain rfl:t=a.length:=by omega
   simp[A.wH,hr,hf,oG]
   exact⟨hW,hK,a.length,cs,by omega,by simp[oG],pe,hM,cN,jA⟩
  |succ m=>
   have ay:t<a.length:=by omega
   have bb:(t:Int)<(a.length:Int):=by omega
   have js:t<b.length:=by omega
   have AS:(t:Int)<(b.length:Int):=by omega
   obtain⟨x,hx⟩:=bk ay
   obtain⟨y,hy⟩:=bk js
   obtain⟨i,o,cc,e,rw,ca,q1,q2,q3,q4,q5⟩:=(hu.ae hK).at hx
   obtain⟨i',o',cc',e',pO,cb,p1,p2,p3,p4,p5⟩:=(hv.ae hK).at hy
   have hi:i<N:=by
    obtain⟨i2,_,_,_,_,_,z1,z2,_⟩:=hu.at hx
    rw[q1]at z1
    simp at z1
    omega
   have iB:i'<N:=by
    obtain⟨i2,_,_,_,_,_,z1,z2,_⟩:=hv.at hy
    rw[p1]at z1
    simp at z1
    omega
   simp[A.wH,hr,hf,oG,l1,l2,ay,bb,js,AS,q1,q2,q3,q4,p1,p2,p3,p4]
   refine CL (hF x (cG hx) y (cG hy) _ _ _ _ hK q5 p5) ?_
   rintro _ H2 n2 k2 c9
   obtain⟨c,rfl,hc⟩:=c9.c
   have kX:=k2.le
   have fx:=hK.le
   have rQ:=(k2.get N pe).trans hM
   have Ie:∀(j:Nat) (q:Rat),j<cs.length->(ks F a b a.length)[j]?=some q->∃c,cs[j]?=some c/\fE H2 n2 c q:=fun j q hj hq=>by
    obtain⟨c,g1,g2⟩:=jA j q (by omega) hq
    exact⟨c,g1,g2.ae k2⟩
   obtain⟨f1,f2,f3⟩:=NC (l:=ks F a b a.length) (by rw[zy];omega) Ie
   have ky:=zK f1
   obtain⟨e1,e2⟩:=hc.len
   have f_:ad (cs.flatten++cU zF (m+1)) (t*4) c=(cs++[c]).flatten++cU zF m:=by
    rw[Fh,RY (n:=4) (by rw[ky,cN]) rfl e1,J6,td]
   have hb4:t*4+4<=(cs.flatten++cU zF (m+1)).length:=by
    rw[iI,ky,ZH];omega
   have mA:(V.agg c).cells=c:=rfl
   have Fi:tP (cs.flatten++cU zF (m+1)):=f2.app RZ
   have oL:((cs++[c]).flatten++cU zF m).length=(cs.flatten++cU zF (m+1)).length:=by
    rw[Fh,J6];simp[e1,zF];omega
   generalize cs.flatten++cU zF (m+1)=X at*
   obtain⟨Y,hY⟩:∃Y,(cs++[c]).flatten++cU zF m=Y:=⟨_,rfl⟩
   rw[hY]at f_ oL
   have d1:N<n2:=by omega
   have d2:¬i=N:=by omega
   have d3:¬i'=N:=by omega
   simp(disch:=first|(simp;done)|omega|rfl) [-V.cells, -V.one,hr,hf,oG,ay,bb,rQ,bC,mA,e1,e2,hb4,f_]
   have ij:¬N<N:=by omega
   refine⟨m,by omega,⟨by simp[d1,ax,hW],(hK.trans k2).set (aM N),t+1,cs++[c],by omega,by simp,d1,by show T.get _ N=_;rw[T.ag,av rfl,hY],by simp[cN],fun j q' hj uL=>?_⟩⟩
   by_cases pR:j<t
   ·obtain⟨c',g1,g2⟩:=jA j q' pR uL
    exact⟨c',by rw[iM (by omega)];exact g1,(g2.ae k2).aK rQ Fi oL⟩
   ·obtain rfl:j=t:=by omega
    rw[I4 ay,hx,hy]at uL
    simp only[fX,al]at uL
    subst uL
    exact⟨c,by rw[kY (by omega),cN];simp,hc.aK rQ Fi oL⟩
 ·rintro _ r ⟨H,n1,W⟩ hr ⟨rfl,hW,hK,t,cs,ht,oG,pe,hM,cN,jA⟩
  simp only at hW hK hM pe jA
  obtain rfl:t=a.length:=by omega
  simp[hr,aE,hW,hK]
  have hz:cU zF 0=[]:=by simp[cU]
  obtain⟨f1,_,_⟩:=NC (l:=ks F a b a.length) (by rw[zy];omega) (fun j q hj hq=>jA j q (by omega) hq)
  have ky:=zK f1
  rw[hz,wU]at hM
  refine⟨⟨cs,.inr ⟨N,0,some a.length,cs.flatten,_,true,by rw[cN],pe,hM,fun j x hx=>by rw[xg];exact MF f1 hx,by omega,fun k hk=>by simp at hk;omega⟩,by rw[zy];exact cN,fun j q hq=>jA j q (by have:=iY hq;rw[zy]at this;omega) hq⟩,fun i hi=>?_⟩
  simp[dh]at hi
  subst hi
  exact⟨_,_,hM⟩
end
end Go.Mx
