/-reconstruct-/
import Derived.Test.YtlfdeoomaccciaaGreatDoorVaC
set_option linter.all false
namespace Go.Mx
noncomputable section
open Go Go.Proofs
variable {N n n':Nat} {h h':T O} {l:List Rat} {u v:V}
set_option maxHeartbeats 2000000
set_option maxRecDepth 1000000
def A.Pb:=A.q Tryz.f115
def A.sI:=A.ql A.Pb 0 []
def A.b115:=(fun x0=>A.qb A.Pb [x0]) A.sI
def A.k115:=@A.kk 115 22 [.tmp 4] A.b115 (by kernel_rfl) rfl
def Yie{f:V}{l:List V}{Q:Nat->T O->Nat->V->Prop}(Y:V->Prop)(hQ:∀j h n h' n' c u,Q j h n c->dG (fun i=>i∈bZ u) h n h' n'->kl 73 Y h u->Q j h' n' c)(hs:Sl h N v l)(hl:l.length<1000000000)(hf:∀(j:Nat) (x:V),l[j]?=some x->∀h' n',ab h N h' n'->jg A.C f [x] h' n' (fun u h2 n2=>∃y,u=y/\[y].length=1/\[y].all V.one=true/\(∀q∈[y],Y q)/\Q j h2 n2 y)):Fn A.C 115 [v,f] h N (fun u h' n'=>∃out,Own 1 73 N h' n' u out/\out.length=l.length/\∀(j:Nat),j<l.length->∃y,out[j]?=some [y]/\Q j h' n' y):=by
 intro w
 have hlen:=hs.len
 rw[aN,A.k115 (by simp)]
 simp[A.b115,hlen]
 refine bG [(5,5),(7,7),(10,20)] (fun e r st=>e=.exit 0/\av N st.w=[]/\ab h N st.h st.n/\∃u out,r.get 5=some u/\Own 1 73 N st.h st.n u out/\out.length=l.length/\∀(j:Nat),j<l.length->∃y,out[j]?=some [y]/\Q j st.h st.n y) (fun m r st=>av N st.w=[]/\ab h N st.h st.n/\∃k u out,k+m=l.length/\r.get 10=some (.int .i64 k)/\r.get 5=some u/\Own 1 73 N st.h st.n u out/\out.length=k/\(out=[]->u=.aa)/\(∀c∈out,∀y∈c,Y y)/\∀(j:Nat),j<k->∃y,out[j]?=some [y]/\Q j st.h st.n y) l.length ?_ ?_ ?_
 ·exact⟨by simp,ab.refl,0,.aa,[],by omega,by simp,by simp,Own.nil,rfl,fun _=>rfl,by simp,fun j hj=>by omega⟩
 ·rintro m r ⟨H,n1,W⟩ hr cU ⟨hW,hK,k,u,out,hk,fx,h5,ho,fy,qS,hY,cJ⟩
  simp only at hW hK ho cJ
  rw[bk]
  cases m with
  |zero=>
   have qT:k=l.length:=by omega
   subst qT
   simp[A.sI,hr,cU,fx,hW,hK]
   exact⟨u,h5,out,ho,fy,cJ⟩
  |succ m=>
   have ax:k<l.length:=by omega
   obtain⟨x,hx⟩:=bh ax
   obtain⟨i,o,cc,e,rw,q1,q2,q3,q4⟩:=(hs.ae hK).at hx
   have bL:(k:Int)<(l.length:Int):=by omega
   have kA:=hK
   simp[A.sI,hr,cU,fx,h5,bL,ax,hlen,q1,q3,q4]
   refine zz (hf k x hx _ _ kA) ?_
   rintro y h3 n3 k3 ⟨_,rfl,c1,c2,cY,c3⟩
   have iN:=k3.le
   have kn:=hK.le
   have kB:=kA.trans k3
   have b1:V.one y=true:=by simpa using c2
   have b2:V.cells y=[y]:=by cases y<;>first|rfl|cases b1
   simp[-V.cells, -V.one,hr,cU,fx,h5,b1,b2,ad]
   have sZ:Own 1 73 N (h3.set n3 (.cells [y] 73 true)) (n3+1) u out:=(ho.ae ((ab.refl).trans k3)).ae (ab.refl.new _)
   obtain⟨v',h',w',f1,f2,f3,f4,fD,f5⟩:=Cf (Y:=Y) (x:=[y]) (u:=.slice n3 0 1 (some 1) 1) (bytes:=24) (w:=W) sZ qS hY (by omega) (by decide) c1 (by simp[eA,St.row,aD]) (by omega)
   rw[f1]
   have fH:¬n1<N:=by omega
   have f6:av N w'=[]:=by rw[f2];simp[av,hW,fH]
   have kz:=(kB.new (.cells [y] 73 true)).then f3
   have k4:ab h3 n3 (h3.set n3 (.cells [y] 73 true)) (n3+1):=ab.refl.new _
   have xc:Q k (h3.set n3 (.cells [y] 73 true)) (n3+1) y:=hQ _ _ _ _ _ _ .aa c3 k4.upd kl.nil
   simp(disch:=first|(simp;done)|omega|rfl) [hr,cU,fx,f6]
   refine⟨m,by omega,kz,k+1,by omega,by simp,out++[[y]],f5,by simp[fy],by simp,fun c' hc z hz=>?_,fun j hj=>?_⟩
   ·rcases kh.1 hc with hc|hc
    ·exact hY c' hc z hz
    ·simp only[uz]at hc;subst hc;exact cY z hz
   by_cases p_:j<k
   ·obtain⟨y,g1,g2⟩:=cJ j p_
    exact⟨y,by rw[kJ (by omega)];exact g1,hQ _ _ _ _ _ _ _ (hQ _ _ _ _ _ _ .aa g2 (((ab.refl).trans k3).trans k4).upd kl.nil) f4 fD⟩
   ·obtain rfl:j=k:=by omega
    exact⟨y,by rw[nU (by omega),fy];simp,hQ _ _ _ _ _ _ _ xc f4 fD⟩
 ·rintro _ r ⟨H,n1,W⟩ hr ⟨rfl,hW,hK,u,out,h5,ho,fy,cJ⟩
  simp only at hW hK ho cJ
  simp[hr,h5,aA,hW,hK]
  exact⟨out,ho,fy,cJ⟩
def A.w88:=A.q Tryz.f88
def A.wH:=A.ql A.w88 0 []
def A.b88:=(fun x0=>A.qb A.w88 [x0]) A.wH
def A.k88:=@A.kk 88 22 [.tmp 4] A.b88 (by kernel_rfl) rfl
def Zxh{f:V}{l:List V}{Q:Nat->T O->Nat->List V->Prop}(Y:V->Prop)(hQ:∀j h n h' n' c u,Q j h n c->dG (fun i=>i∈bZ u) h n h' n'->kl 80 Y h u->Q j h' n' c)(hs:Sl h N v l)(hl:l.length<1000000000)(hf:∀(j:Nat) (x:V),l[j]?=some x->∀h' n',ab h N h' n'->jg A.C f [x] h' n' (fun u h2 n2=>∃c,u=(.agg c)/\c.length=4/\c.all V.one=true/\(∀q∈c,Y q)/\Q j h2 n2 c)):Fn A.C 88 [v,f] h N (fun u h' n'=>∃out,Own 4 80 N h' n' u out/\out.length=l.length/\∀(j:Nat),j<l.length->∃c,out[j]?=some c/\Q j h' n' c):=by
 intro w
 have hlen:=hs.len
 rw[aN,A.k88 (by simp)]
 simp[A.b88,hlen]
 refine bG [(5,5),(7,7),(10,20)] (fun e r st=>e=.exit 0/\av N st.w=[]/\ab h N st.h st.n/\∃u out,r.get 5=some u/\Own 4 80 N st.h st.n u out/\out.length=l.length/\∀(j:Nat),j<l.length->∃c,out[j]?=some c/\Q j st.h st.n c) (fun m r st=>av N st.w=[]/\ab h N st.h st.n/\∃k u out,k+m=l.length/\r.get 10=some (.int .i64 k)/\r.get 5=some u/\Own 4 80 N st.h st.n u out/\out.length=k/\(out=[]->u=.aa)/\(∀c∈out,∀y∈c,Y y)/\∀(j:Nat),j<k->∃c,out[j]?=some c/\Q j st.h st.n c) l.length ?_ ?_ ?_
 ·exact⟨by simp,ab.refl,0,.aa,[],by omega,by simp,by simp,Own.nil,rfl,fun _=>rfl,by simp,fun j hj=>by omega⟩
 ·rintro m r ⟨H,n1,W⟩ hr cU ⟨hW,hK,k,u,out,hk,fx,h5,ho,fy,qS,hY,cJ⟩
  simp only at hW hK ho cJ
  rw[bk]
  cases m with
  |zero=>
   have qT:k=l.length:=by omega
   subst qT
   simp[A.wH,hr,cU,fx,hW,hK]
   exact⟨u,h5,out,ho,fy,cJ⟩
  |succ m=>
   have ax:k<l.length:=by omega
   obtain⟨x,hx⟩:=bh ax
   obtain⟨i,o,cc,e,rw,q1,q2,q3,q4⟩:=(hs.ae hK).at hx
   have bL:(k:Int)<(l.length:Int):=by omega
   have kA:=hK
   simp[A.wH,hr,cU,fx,h5,bL,ax,hlen,q1,q3,q4]
   refine zz (hf k x hx _ _ kA) ?_
   rintro _ h3 n3 k3 ⟨c,rfl,c1,c2,cY,c3⟩
   have iN:=k3.le
   have kn:=hK.le
   have kB:=kA.trans k3
   have b1:∀v:List V,(V.agg v).cells=v:=fun _=>rfl
   have b2:ad [(.int .i64 0),.aa,(.int .i64 0),.aa] 0 c=c:=by unfold ad;rw[c1];simp[c1]
   simp[-V.cells, -V.one,hr,cU,fx,h5,b1,b2,c1,c2]
   have sZ:Own 4 80 N (h3.set n3 (.cells c 80 true)) (n3+1) u out:=(ho.ae ((ab.refl).trans k3)).ae (ab.refl.new _)
   obtain⟨v',h',w',f1,f2,f3,f4,fD,f5⟩:=Cf (Y:=Y) (x:=c) (u:=.slice n3 0 1 (some 1) 4) (bytes:=64) (w:=W) sZ qS hY (by omega) (by decide) c1 (by simp only[eA,St.row,T.ag,if_true];unfold aD;simp[c1];exact eZ (by omega)) (by omega)
   rw[f1]
   have fH:¬n1<N:=by omega
   have f6:av N w'=[]:=by rw[f2];simp[av,hW,fH]
   have kz:=(kB.new (.cells c 80 true)).then f3
   have k4:ab h3 n3 (h3.set n3 (.cells c 80 true)) (n3+1):=ab.refl.new _
   have xc:Q k (h3.set n3 (.cells c 80 true)) (n3+1) c:=hQ _ _ _ _ _ _ .aa c3 k4.upd kl.nil
   simp(disch:=first|(simp;done)|omega|rfl) [hr,cU,fx,f6]
   refine⟨m,by omega,kz,k+1,by omega,by simp,out++[c],f5,by simp[fy],by simp,fun c' hc z hz=>?_,fun j hj=>?_⟩
   ·rcases kh.1 hc with hc|hc
    ·exact hY c' hc z hz
    ·simp only[uz]at hc;subst hc;exact cY z hz
   by_cases p_:j<k
   ·obtain⟨c,g1,g2⟩:=cJ j p_
    exact⟨c,by rw[kJ (by omega)];exact g1,hQ _ _ _ _ _ _ _ (hQ _ _ _ _ _ _ .aa g2 (((ab.refl).trans k3).trans k4).upd kl.nil) f4 fD⟩
   ·obtain rfl:j=k:=by omega
    exact⟨c,by rw[nU (by omega),fy];simp,hQ _ _ _ _ _ _ _ xc f4 fD⟩
 ·rintro _ r ⟨H,n1,W⟩ hr ⟨rfl,hW,hK,u,out,h5,ho,fy,cJ⟩
  simp only at hW hK ho cJ
  simp[hr,h5,aA,hW,hK]
  exact⟨out,ho,fy,cJ⟩
def A.w79:=A.q Tryz.f79
def A.wI:=A.ql A.w79 0 []
def A.b79:=(fun x0=>A.qb A.w79 [x0]) A.wI
def A.k79:=@A.kk 79 26 [.cell 4 (some 4)] A.b79 (by kernel_rfl) rfl
def A.b151:=A.q Tryz.f151
def A.k151:=@A.kk 151 8 [.cell 4 (some 4)] A.b151 (by kernel_rfl) rfl
abbrev NW(y:V):Prop:=∀m,y≠.int .u64 m
def In.bz{x:V}{z:Int}{e:TypeId}(s:In h n x z)(k:dG (fun i=>i∈bZ v) h n h' n')(hd:kl e NW h v):In h' n' x z:=by
 rcases s with s|⟨i,o,l,c,s1,s2,s3⟩
 ·exact .inl s
 ·refine .inr ⟨i,o,l,c,s1,Sl.bz s2 k fun j hj hjv=>?_,s3⟩
  simp[bZ]at hj
  subst hj
  obtain⟨z2,g1,_,g3⟩:=hd j hjv
  unfold Wn at s2
  have aW:aH z.natAbs≠[]:=fun h0=>by
   have:=mY z.natAbs
   rw[h0]at this
   simp[val]at this
   omega
  obtain⟨d,ds,qg⟩:=List.exists_cons_of_ne_nil aW
  have B0:(dg (aH z.natAbs))[0]?=some (.int .u64 d):=by rw[qg];simp[dg]
  obtain⟨i2,o2,c2,e2,IP,q1,q2,q3,q4⟩:=Sl.at s2 B0
  simp[w_]at q1
  obtain⟨rfl,rfl⟩:=q1
  rw[g1]at q3
  simp only[aq,O.cells.injEq]at q3
  obtain⟨rfl,_⟩:=q3
  exact g3 _ (bU q4) _ rfl
def fj.bz{c:List V}{q:Rat}{e:TypeId}(s:fj h n c q)(k:dG (fun i=>i∈bZ v) h n h' n')(hd:kl e NW h v):fj h' n' c q:=by
 obtain⟨n1,u1,n2,u2,rfl,s1,s2⟩:=s
 exact⟨n1,u1,n2,u2,rfl,s1.bz k hd,s2.bz k hd⟩
def Sn.AX{z:Nat}{l:List (List V)}(s:Sn z h N v l):∀i∈bZ v,i<N:=fun i hi=>by
 rcases s with⟨_,rfl|rfl⟩|⟨j,o,cp,c,e,rw,rfl,hj,_⟩
 ·simp[bZ]at hi
 ·simp[bZ]at hi
 ·simp[bZ]at hi;omega
def Sn.bz{z:Nat}{D:Nat->Prop}{N':Nat}{l:List (List V)}(s:Sn z h N v l)(k:dG D h N h' N')(hd:∀i∈bZ v,¬D i):Sn z h' N' v l:=by
 rcases s with s|⟨i,o,cp,c,e,rw,rfl,h2,h3,h4⟩
 ·exact .inl s
 ·exact .inr ⟨i,o,cp,c,e,rw,rfl,eY h2 k.le,(k.get i h2 (hd i (by simp[bZ]))).trans h3,h4⟩
def ec.ae{N':Nat}(s:ec h N u l)(k:ab h N h' N'):ec h' N' u l:=⟨s.1.ae k,fun i hi=>by
 obtain⟨cs,h1,_⟩:=s.1
 rw[k.get i (h1.AX i hi)]
 exact s.2 i hi⟩
def ec.bz{e:TypeId}(s:ec h n u l)(k:dG (fun i=>i∈bZ v) h n h' n')(hd:kl e NW h v)(he:e≠80):ec h' n' u l:=by
 obtain⟨⟨cs,h1,h2,h3⟩,h4⟩:=s
 have hn:∀i∈bZ u,i∉bZ v:=fun i hi hc=>by
  obtain⟨z,w,hz⟩:=h4 i hi
  obtain⟨z2,dL,_⟩:=hd i hc
  rw[hz]at dL
  simp at dL
  exact he dL.2.1.symm
 refine⟨⟨cs,h1.bz k hn,h2,fun j q hq=>?_⟩,fun i hi=>by rw[k.get i (h1.AX i hi) (hn i hi)];exact h4 i hi⟩
 obtain⟨c,g1,g2⟩:=h3 j q hq
 exact⟨c,g1,g2.bz k hd⟩
def QU{N0:Nat}{out:List (List V)}(s:Own 4 80 N0 h N v out)(hl:out.length=l.length)(hc:∀(j:Nat),j<l.length->∃c,out[j]?=some c/\∀q,l[j]?=some q->fj h N c q):ec h N v l:=by
 refine⟨⟨out,s.sn,hl,fun j q hq=>?_⟩,fun i hi=>?_⟩
 ·obtain⟨c,g1,g2⟩:=hc j (f_ hq)
  exact⟨c,g1,g2 q hq⟩
 ·obtain⟨_,⟨_,rfl⟩|⟨j,rfl,_,_,hg⟩⟩:=s
  ·simp[bZ]at hi
  ·simp[bZ]at hi;subst hi;exact⟨_,_,hg⟩
structure DtI (h:T O) (N p:Nat) (a b:List Rat) (m:Nat) (r:T V) (st:St):Prop where
 w:av N st.w=[]
 ae:ab h N st.h st.n
 ex:∃(t:Nat) (c:List V),t+m=a.length/\r.get 10=some (.int .i64 t)/\p<st.n/\st.h.get N=some (.cells zF 80 true)/\st.h.get p=some (.cells c 80 true)/\fj st.h st.n c (kR a b t)
def Ysb{a b:List Rat}{j k:Nat}(hu:lV h N u a)(hv:lV h N v b)(fU:a.length<=b.length)(ha:∀q∈a,Qb j q)(hb:∀q∈b,Qb k q)(hj:1<=j)(hk:1<=k)(hl:a.length*(j+k+1)+j+k+1<=400000000):Fn A.C 79 [u,v] h N (fun x h' n'=>Fc h' n' x (mm a b)):=by
 intro w
 have l1:=hu.len
 have l2:=hv.len
 have hal:a.length<=400000000:=by have:=Nat.le_mul_of_pos_right a.length (show 0<j+k+1 by omega);omega
 rw[aN,A.k79 (by simp)]
 simp[A.b79]
 refine aB (Yuj (by omega) (by omega)) ?_
 rintro _ h1 n1 k1 hz
 obtain⟨c,rfl,hc⟩:=hz.c
 have kB:ab h N (h.set N (.cells zF 80 true)) (N+1):=ab.refl.new _
 have uT:=k1.le
 have g1:=k1.get N (by omega)
 rw[T.ag,ay rfl]at g1
 obtain⟨e1,e2⟩:=hc.len
 have mI:(V.agg c).cells=c:=rfl
 have e4:ad zF 0 c=c:=by unfold ad;rw[e1];simp[e1,zF]
 have BW:uJ zF:=by intro x hx m;simp[zF]at hx;rcases hx with rfl|rfl|rfl|rfl<;>simp
 unfold zF at e4
 simp[-V.cells, -V.one,mI,e1,e2,e4,bD,l1]
 generalize hH:(h1.set n1 (.cells [.int .i64 0,.aa,.int .i64 0,.aa] 80 true)).set n1 (.cells c 80 true)=H1
 have kA:ab h1 n1 H1 (n1+1):=by rw[<-hH];exact(ab.refl.new _).set (aQ _)
 have kC:ab h N H1 (n1+1):=(kB.trans k1).trans kA
 have g2:H1.get n1=some (.cells c 80 true):=by rw[<-hH];simp
 have g3:=(kA.get N (by omega)).trans g1
 clear hH
 refine bG [(6,6),(10,24)] (fun e r st=>e=.exit 0/\DtI h N n1 a b 0 r st) (DtI h N n1 a b) a.length ?_ ?_ ?_
 ·exact⟨by simp;omega,kC,0,c,by omega,by simp,by show n1<n1+1;omega,g3,g2,by simpa[kR]using hc.ae kA⟩
 ·rintro m r ⟨H,n2,W⟩ hr hf ⟨hW,hK,t,c0,ht,fx,Pc,td,nX,uN⟩
  simp only at hW hK Pc td nX uN
  rw[bk]
  cases m with
  |zero=>
   obtain rfl:t=a.length:=by omega
   simp[A.wI,hr,hf,fx]
   exact⟨hW,hK,a.length,c0,by omega,by simp[fx],Pc,td,nX,uN⟩
  |succ m=>
   have ax:t<a.length:=by omega
   have a_:(t:Int)<(a.length:Int):=by omega
   have jz:t<b.length:=by omega
   have AN:(t:Int)<(b.length:Int):=by omega
   obtain⟨x,hx⟩:=bh ax
   obtain⟨y,hy⟩:=bh jz
   have uv:=ha x (bU hx)
   have gF:=hb y (bU hy)
   have zh:=RO ha hb hj hk t
   have RK:=uv.mul gF
   have hmul:t*(j+k+1)<=a.length*(j+k+1):=mr _ (by omega)
   have ee:kR a b (t+1)=kR a b t+x*y:=by simp[kR,hx,hy]
   obtain⟨i,o,cc,e,rw,ca,q1,q2,q3,q4,q5⟩:=(hu.ae hK).at hx
   obtain⟨i',o',Zv,e',pn,cb,p1,p2,p3,p4,p5⟩:=(hv.ae hK).at hy
   have s0:aD c0 0 4=some c0:=by unfold aD;rw[uN.len.1];simp;exact eZ (by rw[uN.len.1];omega)
   simp[A.wI,hr,hf,fx,l1,l2,ax,a_,jz,AN,nX,s0,q1,q2,q3,q4,p1,p2,p3,p4]
   have w1:=uK uv.1
   have w2:=uK (z:=(x.den:Int)) (k:=j) (by rw[dC];exact uv.2)
   have w3:=uK gF.1
   have w4:=uK (z:=(y.den:Int)) (k:=k) (by rw[dC];exact gF.2)
   have w5:=uK zh.1
   have w6:=uK (z:=((kR a b t).den:Int)) (by rw[dC];exact zh.2)
   have w7:=uK RK.1
   have w8:=uK (z:=((x*y).den:Int)) (by rw[dC];exact RK.2)
   refine aB (RJ q5.fc p5.fc (by omega) (by omega) (by omega) (by omega)) ?_
   rintro x3 h3 n3 k3 hm3
   simp[]
   refine aB (Vd (uN.ae k3).fc hm3 (by omega) (by omega) (by omega) (by omega)) ?_
   rintro _ h4' n4 k4 R5
   rw[<-ee]at R5
   obtain⟨c4,rfl,hc4⟩:=R5.c
   have yM:=k3.le
   have FW:=k4.le
   have gp4:=(k4.get n1 (by omega)).trans ((k3.get n1 (by omega)).trans nX)
   have g04:=(k4.get N (by omega)).trans ((k3.get N (by omega)).trans td)
   obtain⟨f1,f2⟩:=hc4.len
   have f3:=uN.len.1
   have zab:(V.agg c4).cells=c4:=rfl
   have e5:ad c0 0 c4=c4:=by unfold ad;rw[f1];simp[f3]
   simp[-V.cells, -V.one,hr,hf,fx,zab,f1,f2,f3,e5,gp4,bD]
   have d2:n1<n4:=by omega
   have d3:¬N=n1:=by omega
   have d4:¬n1<N:=by omega
   refine(G9 (by simp[-av,Pc,d2,ZM,ZN])).2 ?_
   simp(disch:=first|(simp;done)|omega|rfl) [hr,hf,fx,ax,a_,d2]
   exact⟨m,by omega,by simp[av,hW,d4],((hK.trans k3).trans k4).set (by omega),t+1,c4,by omega,by simp,d2,by show T.get _ N=_;rw[T.ag,ak d3];exact g04,by show T.get _ n1=_;rw[T.ag,ay rfl],hc4.aI gp4 uN.Hn (by rw[f1,f3])⟩
 ·rintro _ r ⟨H,n2,W⟩ hr ⟨rfl,hW,hK,t,c0,ht,fx,Pc,td,nX,uN⟩
  simp only at hW hK Pc td nX uN
  obtain rfl:t=a.length:=by omega
  have s0:aD c0 0 4=some c0:=by unfold aD;rw[uN.len.1];simp;exact eZ (by rw[uN.len.1];omega)
  have zac:(V.agg c0).cells=c0:=rfl
  have e5:ad zF 0 c0=c0:=by unfold ad;rw[uN.len.1];simp[uN.len.1,zF]
  have f1:=uN.len.1
  have f2:=uN.len.2
  unfold zF at e5 td
  simp[-V.cells, -V.one,hr,nX,td,s0,bD,zac,f1,f2,e5,aA]
  exact⟨hW,hK.set (aQ N),(uN.aI td BW (by rw[f1];rfl)).fc⟩
variable {N k:Nat} {h:T O} {m:List (List Rat)} {u v:V}
def A.b65:=A.q Tryz.f65
def A.k65:=@A.kk 65 11 [.tmp 4] A.b65 (by kernel_rfl) rfl
def A.b66:=A.q Tryz.f66
def A.k66:=@A.kk 66 8 [.tmp 4] A.b66 (by kernel_rfl) rfl
def A.b152:=A.q Tryz.f152
def A.k152:=@A.kk 152 8 [.cell 3 (some 4)] A.b152 (by kernel_rfl) rfl
def A.b40:=A.q Tryz.f40
def A.k40:=@A.kk 40 5 [.tmp 2] A.b40 (by kernel_rfl) rfl
def Ylx{a b:List Rat}{j:Nat}(hu:lV h N u a)(hv:lV h N v b)(fU:a.length<=b.length)(ha:∀q∈a,Qb j q)(hb:∀q∈b,Qb k q)(hj:1<=j)(hk:1<=k)(hl:a.length*(j+k+1)+j+k+1<=400000000):jg A.C (.func 151 [v] []) [u] h N (fun x h' n'=>Fc h' n' x (mm a b)):=by
 intro w
 have kB:ab h N (h.set N (.cells zF 80 true)) (N+1):=ab.refl.new _
 rw[aN,A.k151 (by simp)]
 simp[A.b151]
 refine aB (Ysb (hu.ae kB) (hv.ae kB) fU ha hb hj hk hl) ?_
 rintro _ h1 n1 k1 hz
 obtain⟨c,rfl,hc⟩:=hz.c
 have uT:=k1.le
 have g1:=k1.get N (by omega)
 rw[T.ag,ay rfl]at g1
 obtain⟨e1,e2⟩:=hc.len
 have mI:(V.agg c).cells=c:=rfl
 have e4:ad zF 0 c=c:=by unfold ad;rw[e1];simp[e1,zF]
 have BW:uJ zF:=by intro x hx m;simp[zF]at hx;rcases hx with rfl|rfl|rfl|rfl<;>simp
 have kk:=(kB.trans k1).set (h:=h) (n:=N) (i:=N) (o:=.cells c 80 true) (aQ N)
 have oM:=(hc.aI (e1:=80) (w1:=true) (c1:=c) g1 BW (by rw[e1];rfl)).fc
 have s0:aD c 0 4=some c:=by unfold aD;rw[e1];simp;exact eZ (by omega)
 have ax:N<n1:=by omega
 unfold zF at e4
 simp[-V.cells, -V.one,mI,e1,e2,e4,s0,g1,bD,aA,ct.cv]
 exact⟨kk,oM⟩
def gh(h:T O)(N:Nat)(v:V)(m:List (List Rat)):Prop:=∃us:List V,Sl h N v us/\us.length=m.length/\∀(j:Nat) (l:List Rat),m[j]?=some l->∃u,us[j]?=some u/\ec h N u l
def gh.ae{h':T O}{N':Nat}(s:gh h N v m)(k:ab h N h' N'):gh h' N' v m:=by
 obtain⟨us,h1,h2,h3⟩:=s
 refine⟨us,h1.ae k,h2,fun j l hl=>?_⟩
 obtain⟨u,g1,g2⟩:=h3 j l hl
 exact⟨u,g1,g2.ae k⟩
def gh.len(s:gh h N v m):pw v=some m.length:=by
 obtain⟨us,h1,h2,_⟩:=s
 rw[h1.len,h2]
def lV.form{l:List Rat}(s:lV h N v l):V.one v=true/\V.cells v=[v]/\NW v:=by
 obtain⟨cs,⟨_,rfl|rfl⟩|⟨i,o,cp,c,e,rw,rfl,_⟩,_⟩:=s
 ·exact⟨rfl,rfl,fun m=>by simp⟩
 ·exact⟨rfl,rfl,fun m=>by simp⟩
 ·exact⟨rfl,rfl,fun m=>by simp⟩
def Yhb{k0:Nat}(hs:gj h N v m)(hl:m.length<1000000000)(hm:∀l∈m,l.length<1000000000/\∀q∈l,Qb k0 q)(qH:k0<=4000):Fn A.C 40 [v] h N (fun u h' n'=>gh h' n' u m):=by
 intro w
 obtain⟨us,h1,h2,h3⟩:=hs
 rw[aN,A.k40 (by simp)]
 simp[A.b40]
 refine aB (Yie (Q:=fun j h n u=>∀l,m[j]?=some l->ec h n u l) NW (fun j h n h' n' c u hq k hd l hl=>(hq l hl).bz k hd (by simp)) h1 (by omega) ?_) ?_
 ·intro j x hx h' n' hk
  obtain⟨l,hl⟩:=bh (l:=m) (k:=j) (by have:=f_ hx;omega)
  obtain⟨u,g1,g2⟩:=h3 j l hl
  rw[hx]at g1
  obtain rfl:x=u:=by simpa using g1
  obtain⟨b1,b2⟩:=hm l (bU hl)
  refine fun w=>(Zp8 (k0:=k0) (g2.ae hk) b1 b2 qH w).mono fun y st=>?_
  rintro⟨q1,q2,q3⟩
  obtain⟨f1,f2,f3⟩:=q3.1.form
  refine⟨q1,q2,y,rfl,rfl,by simp only[List.all_cons,List.all_nil,f1,Bool.and_true],by simpa using f3,fun l' jj=>?_⟩
  rw[hl]at jj
  obtain rfl:l=l':=by simpa using jj
  exact q3
 ·rintro u h4 n4 k4 ⟨out,o1,o2,o3⟩
  simp[aA]
  refine⟨k4,?_⟩
  have hx:∀x∈out,∃y,x=[y]:=fun x hx=>by
   have:=o1.1 x hx
   cases x with
   |nil=>simp at this
   |cons y t=>cases t with
    |nil=>exact⟨y,rfl⟩
    |cons a b=>simp at this
  obtain⟨ys,LA⟩:∃ys:List V,out=ys.map fun y=>[y]:=by
   clear o1 o2 o3
   induction out with
   |nil=>exact⟨[],rfl⟩
   |cons x t ih=>
    obtain⟨y,rfl⟩:=hx x (by simp)
    obtain⟨ys,rfl⟩:=ih fun x jx=>hx x (by simp[jx])
    exact⟨y::ys,rfl⟩
  subst LA
  refine⟨ys,Sn.one.1 o1.sn,by simpa[h2]using o2,fun j l hl=>?_⟩
  obtain⟨y,g1,g2⟩:=o3 j (by have:=f_ hl;omega)
  refine⟨y,?_,g2 l hl⟩
  rw[fV]at g1
  cases hy:ys[j]? with
  |none=>rw[hy]at g1;simp at g1
  |some z=>rw[hy]at g1;simpa using g1
def Yn0{f:V}(F:List Rat->Rat)(hs:gh h N v m)(hl:m.length<1000000000)(hf:∀l∈m,∀u h' n',ab h N h' n'->ec h' n' u l->jg A.C f [u] h' n' (fun x h2 n2=>Fc h2 n2 x (F l))):Fn A.C 88 [v,f] h N (fun u h' n'=>ec h' n' u (m.map F)):=by
 obtain⟨us,h1,h2,h3⟩:=hs
 have key:=Zxh (f:=f) (Q:=fun j h n c=>∀q,(m.map F)[j]?=some q->fj h n c q) NW (fun j h n h' n' c u hq k hd q kO=>(hq q kO).bz k hd) h1 (by omega) ?_
 ·intro w
  refine(key w).mono fun u st=>?_
  rintro⟨q1,q2,out,o1,o2,o3⟩
  exact⟨q1,q2,QU o1 (by simpa[h2]using o2) fun j hj=>o3 j (by simp at hj;omega)⟩
 ·intro j x hx h' n' hk
  obtain⟨l,hl⟩:=bh (l:=m) (k:=j) (by have:=f_ hx;omega)
  obtain⟨u,g1,g2⟩:=h3 j l hl
  rw[hx]at g1
  obtain rfl:x=u:=by simpa using g1
  refine fun w=>(hf l (bU hl) x h' n' hk (g2.ae hk) w).mono fun y st=>?_
  rintro⟨q1,q2,q3⟩
  obtain⟨c,rfl,hc⟩:=q3.c
  refine⟨q1,q2,c,rfl,hc.len.1,hc.len.2,hc.Hn,fun q hq=>?_⟩
  simp[hl]at hq
  rw[<-hq]
  exact hc
def Ypi{p:Nat}{l:List Rat}{e:TypeId}{rw:Bool}(hp:h.get p=some (.cells [.int .i64 k] e rw))(iH:p<N)(hu:lV h N u l)(hk:k<l.length):jg A.C (.func 152 [] [.ptr p 0]) [u] h N (fun x h' n'=>Fc h' n' x (l[k]?.getD 0)):=by
 intro w
 have l1:=hu.len
 have gH:(k:Int)<(l.length:Int):=by omega
 obtain⟨q,hq⟩:=bh hk
 obtain⟨i,o,cc,e,rw,c,q1,q2,q3,q4,q5⟩:=hu.at hq
 obtain⟨e1,e2⟩:=q5.len
 have kB:ab h N (h.set N (.cells zF 80 true)) (N+1):=ab.refl.new _
 have mI:(V.agg c).cells=c:=rfl
 have e4:ad zF 0 c=c:=by unfold ad;rw[e1];simp[e1,zF]
 have BW:uJ zF:=by intro x hx m;simp[zF]at hx;rcases hx with rfl|rfl|rfl|rfl<;>simp
 have s0:aD c 0 4=some c:=by unfold aD;rw[e1];simp;exact eZ (by omega)
 have kk:=kB.set (h:=h) (n:=N) (i:=N) (o:=.cells c 80 true) (aQ N)
 have oM:=((q5.ae kB).aI (i:=N) (e0:=80) (w0:=true) (e1:=80) (w1:=true) (c1:=c) (by rw[T.ag,ay rfl]) BW (by rw[e1];rfl)).fc
 have d1:¬p=N:=by omega
 have d2:¬i=N:=by omega
 rw[hq]
 unfold zF at e4
 rw[aN,A.k152 (by simp)]
 simp[-V.cells, -V.one,A.b152,hp,d1,d2,l1,hk,gH,q1,q3,q4,mI,e1,e2,e4,s0,bD,aA,ct.cv]
 exact⟨kk,oM⟩
def Zx4{n:Nat}(hu:gh h N u m)(kg:m.length<100000)(hm:∀r∈m,r.length=n)(hk:k<n):Fn A.C 66 [u,.int .i64 k] h N (fun x h' n'=>ec h' n' x (jy m k)):=by
 intro w
 rw[aN,A.k66 (by simp)]
 have kB:ab h N (h.set N (.cells [.int .i64 k] 3 true)) (N+1):=ab.refl.new _
 simp[A.b66]
 refine aB (Yn0 (fun r=>r[k]?.getD 0) (hu.ae kB) (by omega) fun l iV x h' n' eF hx=>?_) ?_
 ·exact Ypi (e:=3) (rw:=true) (by rw[eF.get N (by omega)];simp) (by have:=eF.le;omega) hx.1 (by rw[hm l iV];exact hk)
 ·rintro x h4 n4 k4 hx
  simp[aA]
  exact⟨kB.trans k4,hx⟩
variable {N:Nat} {h:T O} {l:List Rat} {m:List (List Rat)} {u v:V}
def A.Pd:=A.q Tryz.f169
def A.sJ:=A.ql A.Pd 0 []
def A.b169:=(fun x0=>A.qb A.Pd [x0]) A.sJ
def A.k169:=@A.kk 169 19 [.tmp 4] A.b169 (by kernel_rfl) rfl
def Yoi{f:V}(l:List (List V))(p:Nat->Bool)(hs:Sn 4 h N v l)(hl:l.length<1152921504606846976)(hf:∀(j:Nat) (x:List V),l[j]?=some x->∀h' n',ab h N h' n'->jg A.C f [.agg x] h' n' (fun u _ _=>u=.bool (p j))):Fn A.C 169 [v,f] h N (fun u _ _=>u=.int .i64 (og p 0 l.length)):=by
 intro w
 have hlen:=hs.len
 rw[aN,A.k169 (by simp)]
 simp[A.b169,hlen]
 refine bG [(4,5),(8,18)] (fun e r st=>av N st.w=[]/\ab h N st.h st.n/\((e=.exit 0/\og p 0 l.length= -1)\/(e=.ret/\r.get 4=some (.int .i64 (og p 0 l.length))))) (fun m r st=>av N st.w=[]/\ab h N st.h st.n/\∃k,k+m=l.length/\r.get 8=some (.int .i64 k)/\og p 0 l.length=og p k m) l.length ?_ ?_ ?_
 ·exact⟨by simp,ab.refl,0,by omega,by simp,rfl⟩
 ·rintro m r ⟨H,n1,W⟩ hr cU ⟨hW,hK,k,hk,h8,hz⟩
  simp only at hW hK
  rw[bk]
  cases m with
  |zero=>
   have:k=l.length:=by omega
   subst this
   simp only[og]at hz
   simp[A.sJ,hr,cU,h8,hW,hK,hz]
  |succ m=>
   have ax:k<l.length:=by omega
   obtain⟨c,hc⟩:=bh ax
   obtain⟨i,o,cc,e,rw,q1,q2,q3,q4⟩:=hs.at hc
   have q3:=(hK.get _ q2).trans q3
   have bL:(k:Int)<(l.length:Int):=by omega
   simp only[og]at hz
   simp[A.sJ,hr,cU,h8,bL,ax,hlen,q1,q3,q4,hW]
   refine zz (hf k c hc _ _ hK) ?_
   rintro v h2 n2 k2 rfl
   have kk:=hK.trans k2
   cases hp:p k
   ·rw[hp]at hz
    simp(disch:=first|(simp;done)|omega|rfl) [hr,cU,h8,hW,kk]
    exact⟨m,by omega,k+1,by omega,by simp,by simpa using hz⟩
   ·rw[hp]at hz
    simp[hr,cU,h8,hW,kk]
    simpa using hz.symm
 ·rintro e r ⟨H,n1,W⟩ hr ⟨hW,hK,⟨rfl,hz⟩|⟨rfl,h4⟩⟩
  ·simp only at hW hK
   simp[hr,hz,aA,hW,hK]
  ·simp only at hW hK
   simp[hr,h4,aA,hW,hK]
def A.b106:=A.q Tryz.f106
def A.k106:=@A.kk 106 9 [.tmp 4] A.b106 (by kernel_rfl) rfl
def A.b67:=A.q Tryz.f67
def A.k67:=@A.kk 67 8 [.tmp 2,.tmp 3] A.b67 (by kernel_rfl) rfl
def A.w64:=A.q Tryz.f64
def A.wJ:=A.ql A.w64 0 []
def A.b64:=(fun x0=>A.qb A.w64 [x0]) A.wJ
def A.k64:=@A.kk 64 19 [.tmp 4] A.b64 (by kernel_rfl) rfl
def A.w68:=A.q Tryz.f68
def A.wK:=A.ql A.w68 0 []
def A.b68:=(fun x0=>A.qb A.w68 [x0]) A.wK
def A.k68:=@A.kk 68 32 [.tmp 6] A.b68 (by kernel_rfl) rfl
def Yjq{f:V}(l:List (List V))(p:Nat->Bool)(hs:Sn 4 h N v l)(hl:l.length<1152921504606846976)(hf:∀(j:Nat) (x:List V),l[j]?=some x->∀h' n',ab h N h' n'->jg A.C f [.agg x] h' n' (fun u _ _=>u=.bool (p j))):Fn A.C 106 [v,f] h N (fun u _ _=>u=.bool (decide (0<=og p 0 l.length))):=by
 intro w
 rw[aN,A.k106 (by simp)]
 simp[A.b106]
 refine aB (Yoi l p hs hl hf) ?_
 rintro v h2 n2 k2 rfl
 simp[aA,k2]
def Yal:decide (0<=og (fun j=>BJ (l[j]?.getD 0)) 0 l.length)=pO l:=by
 rw[Bool.eq_iff_iff,decide_eq_true_eq,Ztq]
 unfold pO
 rw[List.any_eq_true]
 constructor
 ·rintro⟨j,_,h2,h3⟩
  obtain⟨q,hq⟩:=bh (l:=l) (k:=j) (by omega)
  rw[hq]at h3
  exact⟨q,bU hq,h3⟩
 ·rintro⟨q,hq,h3⟩
  obtain⟨j,hj⟩:=xW hq
  exact⟨j,uw _,by have:=f_ hj;omega,by rw[hj];exact h3⟩
def Ygk{h:T O}{N:Nat}{u:V}{l:List Rat}{k:Nat}(hu:lV h N u l)(hP:l_ h N)(hl:l.length<1000000000)(hq:∀q∈l,Qb k q)(hk:k<=400000000):Fn A.C 67 [u] h N (fun x h' n'=>(pO l=true/\x=.aV [.aa,.int .i64 4])\/(pO l=false/\∃v,x=.aV [v,.int .i64 0]/\tQ h' n' v l)):=by
 intro w
 obtain⟨cs,s1,s2,s3⟩:=id hu
 have key:=Yjq (f:=.func 81 [] []) cs (fun j=>BJ (l[j]?.getD 0)) s1 (by omega) (fun j x hx h' n' gH=>by
  obtain⟨q,hqj⟩:=bh (l:=l) (k:=j) (by have:=f_ hx;omega)
  obtain⟨c,g1,g2⟩:=s3 j q hqj
  rw[hx]at g1
  obtain rfl:x=c:=by simpa using g1
  simp only[hqj,pd]
  exact Yef (g2.ae gH).fc (hP.ae gH) (hq q (bU hqj)) (by omega))
 rw[s2,Yal]at key
 rw[aN,A.k67 (by simp)]
 simp[A.b67]
 refine aB key ?_
 rintro _ h2 n2 k2 rfl
 cases hb:pO l with
 |true=>
  simp[aA]
  exact k2
 |false=>
  simp[]
  refine aB (Ygo (k0:=k) (hu.ae k2) (hP.ae k2) hl hq hk) ?_
  rintro v h3 n3 k3 t1
  simp[aA]
  exact⟨k2.trans k3,t1⟩
def iI(N0:Nat)(h:T O)(N:Nat)(v:V)(m:List (List Rat)):Prop:=∃us:List V,Own 1 73 N0 h N v (us.map fun y=>[y])/\(us=[]->v=.aa)/\us.length=m.length/\∀(j:Nat) (l:List Rat),m[j]?=some l->∃u,us[j]?=some u/\ec h N u l
def iI.nil{N0:Nat}:iI N0 h N .aa []:=⟨[],Own.nil,fun _=>rfl,rfl,fun j l hl=>by simp at hl⟩
def iI.ae{N0:Nat}{h':T O}{N':Nat}(s:iI N0 h N v m)(k:ab h N h' N'):iI N0 h' N' v m:=by
 obtain⟨us,h1,h2,h3,h4⟩:=s
 refine⟨us,h1.ae k,h2,h3,fun j l hl=>?_⟩
 obtain⟨u,g1,g2⟩:=h4 j l hl
 exact⟨u,g1,g2.ae k⟩
def iI.DL{N0:Nat}(s:iI N0 h N v m):gh h N v m:=by
 obtain⟨us,h1,h2,h3,h4⟩:=s
 exact⟨us,Sn.one.1 h1.sn,h3,h4⟩
def iI.push{N0:Nat}{x:V}{w:List Nat}(s:iI N0 h N v m)(hu:ec h N u l)(hN:N0<=N)(hx:eA ⟨h,N,w⟩ 1 x=some (1,[u]))(hm:m.length<100000):
  ∃v' h' w',gJ ⟨h,N,w⟩ 1 24 73 v x=some (v',⟨h',N+1,w'⟩)/\av N0 w'=av N0 w/\ab h N0 h' (N+1)/\iI N0 h' (N+1) v' (m++[l]):=by
 obtain⟨us,h1,h2,h3,h4⟩:=s
 obtain⟨v',h',w',f1,f2,f3,f4,fD,f5⟩:=Cf (Y:=NW) (x:=[u]) (u:=x) (bytes:=24) (w:=w) h1 (fun h0=>h2 (List.map_eq_nil_iff.1 h0)) (fun c hc y hy=>by
  obtain⟨z,hz,rfl⟩:=fv.1 hc
  obtain rfl:y=z:=by simpa using hy
  obtain⟨j,hj⟩:=xW hz
  obtain⟨r,hr⟩:=bh (l:=m) (k:=j) (by have:=f_ hj;omega)
  obtain⟨u',g1,g2⟩:=h4 j r hr
  rw[hj]at g1
  obtain rfl:y=u':=by simpa using g1
  exact g2.1.form.2.2) hN (by decide) rfl hx (by rw[je];omega)
 refine⟨v',h',w',f1,f2,f3,us++[u],by simpa using f5,by simp,by simp[h3],fun j r hr=>?_⟩
 by_cases hj:j<m.length
 ·rw[kJ hj]at hr
  obtain⟨u',g1,g2⟩:=h4 j r hr
  exact⟨u',by rw[kJ (by omega)];exact g1,g2.bz f4 fD (by simp)⟩
 ·rw[nU (by omega)]at hr
  cases hd:j-m.length with
  |zero=>
   rw[hd]at hr
   simp at hr
   subst hr
   exact⟨u,by rw[nU (by omega),h3,hd];rfl,hu.bz f4 fD (by simp)⟩
  |succ d=>rw[hd]at hr;simp at hr
def Yhg{n:Nat}(hu:gh h N u m)(kg:m.length<100000)(hm:∀r∈m,r.length=n)(hn:n<1000):Fn A.C 64 [u,.int .i64 n] h N (fun x h' n'=>iI N h' n' x (eE m n)):=by
 intro w
 rw[aN,A.k64 (by simp)]
 simp[A.b64]
 refine bG [(5,6),(8,17)] (fun e r st=>e=.exit 0/\av N st.w=[]/\ab h N st.h st.n/\∃x,r.get 5=some x/\iI N st.h st.n x (eE m n)) (fun i r st=>av N st.w=[]/\ab h N st.h st.n/\∃k x,k+i=n/\r.get 8=some (.int .i64 k)/\r.get 5=some x/\iI N st.h st.n x (eE m k)) n ?_ ?_ ?_
 ·exact⟨by simp,ab.refl,0,.aa,by omega,by simp,by simp,iI.nil⟩
 ·rintro i r ⟨H,n1,W⟩ hr hf ⟨hW,hK,k,x,hk,h8,h5,ho⟩
  simp only at hW hK ho
  rw[bk]
  cases i with
  |zero=>
   obtain rfl:k=n:=by omega
   simp[A.wJ,hr,hf,h8,h5,hW,hK]
   exact ho
  |succ i=>
   have ax:k<n:=by omega
   have a_:(k:Int)<(n:Int):=by omega
   simp[A.wJ,hr,hf,h8,h5,ax,a_]
   refine aB (Zx4 (hu.ae hK) kg hm ax) ?_
   rintro y H2 n2 k2 hy
   have kK:=k2.le
   have fh:=hK.le
   obtain⟨y1,y2,y3⟩:=hy.1.form
   have e4:ad [V.aa] 0 [y]=[y]:=rfl
   have kN:ab H2 n2 (H2.set n2 (.cells [y] 73 true)) (n2+1):=ab.refl.new _
   obtain⟨v',h',w',f1,f2,f3,f5⟩:=(((ho.ae k2).ae kN).push (x:=.slice n2 0 1 (some 1) 1) (l:=jy m k) (w:=W) (hy.ae kN) (by omega) (by simp[eA,St.row,aD]) (by simp[eE];omega))
   have e7:eE m k++[jy m k]=eE m (k+1):=by simp[eE,List.range_succ]
   rw[e7]at f5
   have b1:V.one y=true:=y1
   simp(disch:=first|(simp;done)|omega|rfl) [-V.cells, -V.one,hr,hf,h8,h5,b1,y2,e4,f1]
   exact⟨i,by omega,by rw[f2];exact hW,((hK.trans k2).trans kN).then f3,k+1,by omega,by simp,f5⟩
 ·rintro _ r ⟨H,n1,W⟩ hr ⟨rfl,hW,hK,x,h5,ho⟩
  simp only at hW hK ho
  simp[hr,h5,aA,hW,hK]
  exact ho
variable {a b:List Rat} {j n:Nat}
set_option maxHeartbeats 2000000
def oa(F:Rat->Rat->Rat)(a b:List Rat)(n:Nat):List Rat:=(List.range n).map fun k=>F (a[k]?.getD 0) (b[k]?.getD 0)
def PS{F:Rat->Rat->Rat}(h:j<n):(oa F a b n)[j]?=some (F (a[j]?.getD 0) (b[j]?.getD 0)):=by
 simp[oa,h]
def Ix{F:Rat->Rat->Rat}:(oa F a b n).length=n:=by simp[oa]
structure JnI (F:Rat->Rat->Rat) (h:T O) (N:Nat) (a b:List Rat) (m:Nat) (r:T V) (st:St):Prop where
 w:av N st.w=[]
 ae:ab h N st.h st.n
 ex:∃(k:Nat) (cs:List (List V)),k+m=a.length/\r.get 14=some (.int .i64 k)/\N<st.n/\st.h.get N=some (.cells (cs.flatten++dp zF m) 80 true)/\cs.length=k/\∀(j:Nat) (q:Rat),j<k->(oa F a b a.length)[j]?=some q->∃c,cs[j]?=some c/\fj st.h st.n c q
def Yd4{h:T O}{N:Nat}{u v f:V}(F:Rat->Rat->Rat)(hu:lV h N u a)(hv:lV h N v b)(fU:a.length<=b.length)(hF:∀x∈a,∀y∈b,∀(h':T O) (n':Nat) (ca cb:List V),ab h N h' n'->fj h' n' ca x->fj h' n' cb y->jg A.C f [.agg ca,.agg cb] h' n' (fun z h2 n2=>Fc h2 n2 z (F x y)))(hl:a.length<1000000000):Fn A.C 68 [u,v,f] h N (fun x h' n'=>ec h' n' x (oa F a b a.length)):=by
 intro w
 have l1:=hu.len
 have l2:=hv.len
 have c1:(64:Int)*(a.length:Int)<=140737488355328:=by omega
 have c2:(a.length:Int)<4611686018427387904:=by omega
 have kB:ab h N (h.set N (.cells (dp zF a.length) 80 true)) (N+1):=ab.refl.new _
 rw[aN,A.k68 (by simp)]
 simp[A.b68,l1,c1,c2]
 refine bG [(8,8),(14,30)] (fun e r st=>e=.exit 0/\JnI F h N a b 0 r st) (JnI F h N a b) a.length ?_ ?_ ?_
 ·exact⟨by simp,kB,0,[],by omega,by simp,by show N<N+1;omega,by rw[T.ag,ay rfl];rfl,rfl,fun j q hj=>by omega⟩
 ·rintro m r ⟨H,n1,W⟩ hr hf ⟨hW,hK,t,cs,ht,oQ,pz,hM,cO,kI⟩
  simp only at hW hK hM pz kI
  rw[bk]
  cases m with
  |zero=>
   obtain rfl:t=a.length:=by omega
   simp[A.wK,hr,hf,oQ]
   exact⟨hW,hK,a.length,cs,by omega,by simp[oQ],pz,hM,cO,kI⟩
  |succ m=>
   have ax:t<a.length:=by omega
   have a_:(t:Int)<(a.length:Int):=by omega
   have jz:t<b.length:=by omega
   have AN:(t:Int)<(b.length:Int):=by omega
   obtain⟨x,hx⟩:=bh ax
   obtain⟨y,hy⟩:=bh jz
   obtain⟨i,o,cc,e,rw,ca,q1,q2,q3,q4,q5⟩:=(hu.ae hK).at hx
   obtain⟨i',o',Zv,e',pn,cb,p1,p2,p3,p4,p5⟩:=(hv.ae hK).at hy
   have hi:i<N:=by
    obtain⟨i2,_,_,_,_,_,z1,z2,_⟩:=hu.at hx
    rw[q1]at z1
    simp at z1
    omega
   have iK:i'<N:=by
    obtain⟨i2,_,_,_,_,_,z1,z2,_⟩:=hv.at hy
    rw[p1]at z1
    simp at z1
    omega
   simp[A.wK,hr,hf,oQ,l1,l2,ax,a_,jz,AN,q1,q2,q3,q4,p1,p2,p3,p4]
   refine zz (hF x (bU hx) y (bU hy) _ _ _ _ hK q5 p5) ?_
   rintro _ H2 n2 k2 cU
   obtain⟨c,rfl,hc⟩:=cU.c
   have kK:=k2.le
   have fh:=hK.le
   have rO:=(k2.get N pz).trans hM
   have Ih:∀(j:Nat) (q:Rat),j<cs.length->(oa F a b a.length)[j]?=some q->∃c,cs[j]?=some c/\fj H2 n2 c q:=fun j q hj hq=>by
    obtain⟨c,g1,g2⟩:=kI j q (by omega) hq
    exact⟨c,g1,g2.ae k2⟩
   obtain⟨f1,f2,f3⟩:=RL (l:=oa F a b a.length) (by rw[Ix];omega) Ih
   have mA:=zj f1
   obtain⟨e1,e2⟩:=hc.len
   have ix:ad (cs.flatten++dp zF (m+1)) (t*4) c=(cs++[c]).flatten++dp zF m:=by
    rw[Kb,Zs (n:=4) (by rw[mA,cO]) rfl e1,RN,tv]
   have hb4:t*4+4<=(cs.flatten++dp zF (m+1)).length:=by
    rw[i_,mA,Ykc];omega
   have mI:(V.agg c).cells=c:=rfl
   have NC:uJ (cs.flatten++dp zF (m+1)):=f2.app Zt
   have oV:((cs++[c]).flatten++dp zF m).length=(cs.flatten++dp zF (m+1)).length:=by
    rw[Kb,RN];simp[e1,zF];omega
   generalize cs.flatten++dp zF (m+1)=X at*
   obtain⟨Y,hY⟩:∃Y,(cs++[c]).flatten++dp zF m=Y:=⟨_,rfl⟩
   rw[hY]at ix oV
   have d1:N<n2:=by omega
   have d2:¬i=N:=by omega
   have d3:¬i'=N:=by omega
   simp(disch:=first|(simp;done)|omega|rfl) [-V.cells, -V.one,hr,hf,oQ,ax,a_,rO,bD,mI,e1,e2,hb4,ix]
   have fH:¬N<N:=by omega
   refine⟨m,by omega,⟨by simp[d1,av,hW],(hK.trans k2).set (aQ N),t+1,cs++[c],by omega,by simp,d1,by show T.get _ N=_;rw[T.ag,ay rfl,hY],by simp[cO],fun j q' hj kO=>?_⟩⟩
   by_cases p_:j<t
   ·obtain⟨c',g1,g2⟩:=kI j q' p_ kO
    exact⟨c',by rw[kJ (by omega)];exact g1,(g2.ae k2).aI rO NC oV⟩
   ·obtain rfl:j=t:=by omega
    rw[PS ax,hx,hy]at kO
    simp only[pd,aq]at kO
    subst kO
    exact⟨c,by rw[nU (by omega),cO];simp,hc.aI rO NC oV⟩
 ·rintro _ r ⟨H,n1,W⟩ hr ⟨rfl,hW,hK,t,cs,ht,oQ,pz,hM,cO,kI⟩
  simp only at hW hK hM pz kI
  obtain rfl:t=a.length:=by omega
  simp[hr,aA,hW,hK]
  have hz:dp zF 0=[]:=by simp[dp]
  obtain⟨f1,_,_⟩:=RL (l:=oa F a b a.length) (by rw[Ix];omega) (fun j q hj hq=>kI j q (by omega) hq)
  have mA:=zj f1
  rw[hz,zy]at hM
  refine⟨⟨cs,.inr ⟨N,0,some a.length,cs.flatten,_,true,by rw[cO],pz,hM,fun j x hx=>by rw[wX];exact Mt f1 hx,by omega,fun k hk=>by simp at hk;omega⟩,by rw[Ix];exact cO,fun j q hq=>kI j q (by have:=f_ hq;rw[Ix]at this;omega) hq⟩,fun i hi=>?_⟩
  simp[bZ]at hi
  subst hi
  exact⟨_,_,hM⟩
def Yip{h:T O}{N:Nat}{u v:V}{k:Nat}(hu:lV h N u a)(hv:lV h N v b)(fU:a.length<=b.length)(ha:∀q∈a,Qb j q)(hb:∀q∈b,Qb k q)(hj:j<=400000000)(hk:k<=400000000)(hl:a.length<1000000000):Fn A.C 68 [u,v,.func 80 [] []] h N (fun x h' n'=>ec h' n' x (wN a b a.length)):=
 Yd4 (fun x y=>x*y) hu hv fU (fun x hx y hy h' n' ca cb _ q5 p5=>by
  have uv:=ha x hx
  have gF:=hb y hy
  have w1:=uK uv.1
  have w2:=uK (z:=(x.den:Int)) (k:=j) (by rw[dC];exact uv.2)
  have w3:=uK gF.1
  have w4:=uK (z:=(y.den:Int)) (k:=k) (by rw[dC];exact gF.2)
  exact(RJ q5.fc p5.fc (by omega) (by omega) (by omega) (by omega))) hl
def Yqg{k:Nat}(ha:∀q∈a,Qb j q)(hb:∀q∈b,Qb k q)(hj:1<=j)(hk:1<=k):∀q∈wN a b n,Qb (j+k) q:=fun q hq=>by
 unfold wN at hq
 obtain⟨i,_,rfl⟩:=fv.1 hq
 exact(FM ha hj i).mul (FM hb hk i)
end
end Go.Mx
