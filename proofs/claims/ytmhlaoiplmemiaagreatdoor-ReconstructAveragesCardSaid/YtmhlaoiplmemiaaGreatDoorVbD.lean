/-reconstruct-/
import Derived.Test.YtmhlaoiplmemiaaGreatDoorVaC
set_option linter.all false
namespace Go.Mx
open Go Go.Proofs
variable {N n n':Nat} {h h':T O} {l:List Rat} {u v:V}
set_option maxHeartbeats 2000000
set_option maxRecDepth 1000000
noncomputable def A.w130:=A.q Tryz.f130
noncomputable def A.lb130_0:=A.ql A.w130 0 []
noncomputable def A.b130:=(fun x0=>A.qb A.w130 [x0]) A.lb130_0
def A.k130:=@A.kk 130 22 [.tmp 4] A.b130 (by kernel_rfl) rfl
def Yhh{f:V}{l:List V}{Q:Nat→T O→Nat→V→Prop}(Y:V→Prop)(hQ:∀j h n h' n' c u,Q j h n c→Upd (fun i=>i∈Zci u) h n h' n'→Zos 79 Y h u→Q j h' n' c)(hs:Sl h N v l)(hl:l.length<1000000000)(hf:∀(j:Nat) (x:V),l[j]?=some x→∀h' n',Keeps h N h' n'→FnV A.C f [x] h' n' (fun u h2 n2=>∃y,u=y∧[y].length=1∧[y].all V.one=true∧(∀q∈[y],Y q)∧Q j h2 n2 y)):Fn A.C 130 [v,f] h N (fun u h' n'=>∃out,Own 1 79 N h' n' u out∧out.length=l.length∧∀(j:Nat),j<l.length→∃y,out[j]?=some [y]∧Q j h' n' y):=by
 intro w
 have hlen:=hs.len
 rw[Zaa,A.k130 (by simp)]
 simp[A.b130,hlen]
 refine Zag [(5,5),(7,7),(10,20)] (fun e r st=>e=.exit 0∧oldIds N st.w=[]∧Keeps h N st.h st.n∧∃u out,r.get 5=some u∧Own 1 79 N st.h st.n u out∧out.length=l.length∧∀(j:Nat),j<l.length→∃y,out[j]?=some [y]∧Q j st.h st.n y) (fun m r st=>oldIds N st.w=[]∧Keeps h N st.h st.n∧∃k u out,k+m=l.length∧r.get 10=some (.int .i64 k)∧r.get 5=some u∧Own 1 79 N st.h st.n u out∧out.length=k∧(out=[]→u=.nilslice)∧(∀c∈out,∀y∈c,Y y)∧∀(j:Nat),j<k→∃y,out[j]?=some [y]∧Q j st.h st.n y) l.length ?_ ?_ ?_
 ·exact⟨by simp,Keeps.refl,0,.nilslice,[],by omega,by simp,by simp,Own.nil,rfl,fun _=>rfl,by simp,fun j hj=>by omega⟩
 ·rintro m r ⟨H,n1,W⟩ hr hf2 ⟨hW,hK,k,u,out,hk,h10,h5,ho,hol,hnil,hY,hout⟩
  simp only at hW hK ho hout
  rw[Zah]
  cases m with
  |zero=>
   have hkk:k=l.length:=by omega
   subst hkk
   simp[A.lb130_0,hr,hf2,h10,hW,hK]
   exact⟨u,h5,out,ho,hol,hout⟩
  |succ m=>
   have hlt:k<l.length:=by omega
   obtain⟨x,hx⟩:=Zaf hlt
   obtain⟨i,o,cc,e,rw,q1,q2,q3,q4⟩:=(hs.keep hK).at hx
   have hk1:(k:Int)<(l.length:Int):=by omega
   have kA:=hK
   simp[A.lb130_0,hr,hf2,h10,h5,hk1,hlt,hlen,q1,q3,q4]
   refine Zgh (hf k x hx _ _ kA) ?_
   rintro y h3 n3 k3 ⟨_,rfl,c1,c2,cY,c3⟩
   have kle3:=k3.le
   have kn:=hK.le
   have kB:=kA.trans k3
   have b1:V.one y=true:=by simpa using c2
   have b2:V.cells y=[y]:=by cases y<;>first|rfl|cases b1
   simp[-V.cells, -V.one,hr,hf2,h10,h5,b1,b2,splice]
   have ho3:Own 1 79 N (h3.set n3 (.cells [y] 79 true)) (n3+1) u out:=(ho.keep ((Keeps.refl).trans k3)).keep (Keeps.refl.new _)
   obtain⟨v',h',w',f1,f2,f3,f4,fD,f5⟩:=Zco (Y:=Y) (x:=[y]) (u:=.slice n3 0 1 (some 1) 1) (bytes:=24) (w:=W) ho3 hnil hY (by omega) (by decide) c1 (by simp[Zat,St.row,slc]) (by omega)
   rw[f1]
   have wok:¬n1<N:=by omega
   have f6:oldIds N w'=[]:=by rw[f2];simp[oldIds,hW,wok]
   have kz:=(kB.new (.cells [y] 79 true)).then f3
   have k4:Keeps h3 n3 (h3.set n3 (.cells [y] 79 true)) (n3+1):=Keeps.refl.new _
   have hq4:Q k (h3.set n3 (.cells [y] 79 true)) (n3+1) y:=hQ _ _ _ _ _ _ .nilslice c3 k4.upd Zos.nil
   simp(disch:=first|(simp;done)|omega|rfl) [hr,hf2,h10,f6]
   refine⟨m,by omega,kz,k+1,by omega,by simp,out++[[y]],f5,by simp[hol],by simp,fun c' hc z hz=>?_,fun j hj=>?_⟩
   ·rcases Yv1.1 hc with hc|hc
    ·exact hY c' hc z hz
    ·simp only[Ywj]at hc;subst hc;exact cY z hz
   by_cases hjk:j<k
   ·obtain⟨y,g1,g2⟩:=hout j hjk
    exact⟨y,by rw[Yu7 (by omega)];exact g1,hQ _ _ _ _ _ _ _ (hQ _ _ _ _ _ _ .nilslice g2 (((Keeps.refl).trans k3).trans k4).upd Zos.nil) f4 fD⟩
   ·obtain rfl:j=k:=by omega
    exact⟨y,by rw[Yvj (by omega),hol];simp,hQ _ _ _ _ _ _ _ hq4 f4 fD⟩
 ·rintro _ r ⟨H,n1,W⟩ hr ⟨rfl,hW,hK,u,out,h5,ho,hol,hout⟩
  simp only at hW hK ho hout
  simp[hr,h5,Ret,hW,hK]
  exact⟨out,ho,hol,hout⟩
noncomputable def A.w106:=A.q Tryz.f106
noncomputable def A.lb106_0:=A.ql A.w106 0 []
noncomputable def A.b106:=(fun x0=>A.qb A.w106 [x0]) A.lb106_0
def A.k106:=@A.kk 106 22 [.tmp 4] A.b106 (by kernel_rfl) rfl
def Yhj{f:V}{l:List V}{Q:Nat→T O→Nat→List V→Prop}(Y:V→Prop)(hQ:∀j h n h' n' c u,Q j h n c→Upd (fun i=>i∈Zci u) h n h' n'→Zos 95 Y h u→Q j h' n' c)(hs:Sl h N v l)(hl:l.length<1000000000)(hf:∀(j:Nat) (x:V),l[j]?=some x→∀h' n',Keeps h N h' n'→FnV A.C f [x] h' n' (fun u h2 n2=>∃c,u=(.agg c)∧c.length=4∧c.all V.one=true∧(∀q∈c,Y q)∧Q j h2 n2 c)):Fn A.C 106 [v,f] h N (fun u h' n'=>∃out,Own 4 95 N h' n' u out∧out.length=l.length∧∀(j:Nat),j<l.length→∃c,out[j]?=some c∧Q j h' n' c):=by
 intro w
 have hlen:=hs.len
 rw[Zaa,A.k106 (by simp)]
 simp[A.b106,hlen]
 refine Zag [(5,5),(7,7),(10,20)] (fun e r st=>e=.exit 0∧oldIds N st.w=[]∧Keeps h N st.h st.n∧∃u out,r.get 5=some u∧Own 4 95 N st.h st.n u out∧out.length=l.length∧∀(j:Nat),j<l.length→∃c,out[j]?=some c∧Q j st.h st.n c) (fun m r st=>oldIds N st.w=[]∧Keeps h N st.h st.n∧∃k u out,k+m=l.length∧r.get 10=some (.int .i64 k)∧r.get 5=some u∧Own 4 95 N st.h st.n u out∧out.length=k∧(out=[]→u=.nilslice)∧(∀c∈out,∀y∈c,Y y)∧∀(j:Nat),j<k→∃c,out[j]?=some c∧Q j st.h st.n c) l.length ?_ ?_ ?_
 ·exact⟨by simp,Keeps.refl,0,.nilslice,[],by omega,by simp,by simp,Own.nil,rfl,fun _=>rfl,by simp,fun j hj=>by omega⟩
 ·rintro m r ⟨H,n1,W⟩ hr hf2 ⟨hW,hK,k,u,out,hk,h10,h5,ho,hol,hnil,hY,hout⟩
  simp only at hW hK ho hout
  rw[Zah]
  cases m with
  |zero=>
   have hkk:k=l.length:=by omega
   subst hkk
   simp[A.lb106_0,hr,hf2,h10,hW,hK]
   exact⟨u,h5,out,ho,hol,hout⟩
  |succ m=>
   have hlt:k<l.length:=by omega
   obtain⟨x,hx⟩:=Zaf hlt
   obtain⟨i,o,cc,e,rw,q1,q2,q3,q4⟩:=(hs.keep hK).at hx
   have hk1:(k:Int)<(l.length:Int):=by omega
   have kA:=hK
   simp[A.lb106_0,hr,hf2,h10,h5,hk1,hlt,hlen,q1,q3,q4]
   refine Zgh (hf k x hx _ _ kA) ?_
   rintro _ h3 n3 k3 ⟨c,rfl,c1,c2,cY,c3⟩
   have kle3:=k3.le
   have kn:=hK.le
   have kB:=kA.trans k3
   have b1:∀v:List V,(V.agg v).cells=v:=fun _=>rfl
   have b2:splice [(.int .i64 0),.nilslice,(.int .i64 0),.nilslice] 0 c=c:=by unfold splice;rw[c1];simp[c1]
   simp[-V.cells, -V.one,hr,hf2,h10,h5,b1,b2,c1,c2]
   have ho3:Own 4 95 N (h3.set n3 (.cells c 95 true)) (n3+1) u out:=(ho.keep ((Keeps.refl).trans k3)).keep (Keeps.refl.new _)
   obtain⟨v',h',w',f1,f2,f3,f4,fD,f5⟩:=Zco (Y:=Y) (x:=c) (u:=.slice n3 0 1 (some 1) 4) (bytes:=64) (w:=W) ho3 hnil hY (by omega) (by decide) c1 (by simp only[Zat,St.row,T.get_set,if_true];unfold slc;simp[c1];exact Yuy (by omega)) (by omega)
   rw[f1]
   have wok:¬n1<N:=by omega
   have f6:oldIds N w'=[]:=by rw[f2];simp[oldIds,hW,wok]
   have kz:=(kB.new (.cells c 95 true)).then f3
   have k4:Keeps h3 n3 (h3.set n3 (.cells c 95 true)) (n3+1):=Keeps.refl.new _
   have hq4:Q k (h3.set n3 (.cells c 95 true)) (n3+1) c:=hQ _ _ _ _ _ _ .nilslice c3 k4.upd Zos.nil
   simp(disch:=first|(simp;done)|omega|rfl) [hr,hf2,h10,f6]
   refine⟨m,by omega,kz,k+1,by omega,by simp,out++[c],f5,by simp[hol],by simp,fun c' hc z hz=>?_,fun j hj=>?_⟩
   ·rcases Yv1.1 hc with hc|hc
    ·exact hY c' hc z hz
    ·simp only[Ywj]at hc;subst hc;exact cY z hz
   by_cases hjk:j<k
   ·obtain⟨c,g1,g2⟩:=hout j hjk
    exact⟨c,by rw[Yu7 (by omega)];exact g1,hQ _ _ _ _ _ _ _ (hQ _ _ _ _ _ _ .nilslice g2 (((Keeps.refl).trans k3).trans k4).upd Zos.nil) f4 fD⟩
   ·obtain rfl:j=k:=by omega
    exact⟨c,by rw[Yvj (by omega),hol];simp,hQ _ _ _ _ _ _ _ hq4 f4 fD⟩
 ·rintro _ r ⟨H,n1,W⟩ hr ⟨rfl,hW,hK,u,out,h5,ho,hol,hout⟩
  simp only at hW hK ho hout
  simp[hr,h5,Ret,hW,hK]
  exact⟨out,ho,hol,hout⟩
noncomputable def A.w63:=A.q Tryz.f63
noncomputable def A.lb63_0:=A.ql A.w63 0 []
noncomputable def A.b63:=(fun x0=>A.qb A.w63 [x0]) A.lb63_0
def A.k63:=@A.kk 63 26 [.cell 4 (some 4)] A.b63 (by kernel_rfl) rfl
noncomputable def A.b129:=A.q Tryz.f129
def A.k129:=@A.kk 129 8 [.cell 4 (some 4)] A.b129 (by kernel_rfl) rfl
abbrev NW(y:V):Prop:=∀m,y≠.int .u64 m
def In.moved{x:V}{z:Int}{e:TypeId}(s:In h n x z)(k:Upd (fun i=>i∈Zci v) h n h' n')(hd:Zos e NW h v):In h' n' x z:=by
 rcases s with s|⟨i,o,l,c,s1,s2,s3⟩
 ·exact .inl s
 ·refine .inr ⟨i,o,l,c,s1,Sl.moved s2 k fun j hj hjv=>?_,s3⟩
  simp[Zci]at hj
  subst hj
  obtain⟨z2,g1,_,g3⟩:=hd j hjv
  unfold Wn at s2
  have hne:wds z.natAbs≠[]:=fun h0=>by
   have:=Zbq z.natAbs
   rw[h0]at this
   simp[val]at this
   omega
  obtain⟨d,ds,hds⟩:=List.exists_cons_of_ne_nil hne
  have hat:(dg (wds z.natAbs))[0]?=some (.int .u64 d):=by rw[hds];simp[dg]
  obtain⟨i2,o2,c2,e2,rw2,q1,q2,q3,q4⟩:=Sl.at s2 hat
  simp[Zlb]at q1
  obtain⟨rfl,rfl⟩:=q1
  rw[g1]at q3
  simp only[Yup,O.cells.injEq]at q3
  obtain⟨rfl,_⟩:=q3
  exact g3 _ (Yux q4) _ rfl
def FcC.moved{c:List V}{q:Rat}{e:TypeId}(s:FcC h n c q)(k:Upd (fun i=>i∈Zci v) h n h' n')(hd:Zos e NW h v):FcC h' n' c q:=by
 obtain⟨n1,u1,n2,u2,rfl,s1,s2⟩:=s
 exact⟨n1,u1,n2,u2,rfl,s1.moved k hd,s2.moved k hd⟩
def Sn.row_lt{z:Nat}{l:List (List V)}(s:Sn z h N v l):∀i∈Zci v,i<N:=fun i hi=>by
 rcases s with⟨_,rfl|rfl⟩|⟨j,o,cp,c,e,rw,rfl,hj,_⟩
 ·simp[Zci]at hi
 ·simp[Zci]at hi
 ·simp[Zci]at hi;omega
def Sn.moved{z:Nat}{D:Nat→Prop}{N':Nat}{l:List (List V)}(s:Sn z h N v l)(k:Upd D h N h' N')(hd:∀i∈Zci v,¬D i):Sn z h' N' v l:=by
 rcases s with s|⟨i,o,cp,c,e,rw,rfl,h2,h3,h4⟩
 ·exact .inl s
 ·exact .inr ⟨i,o,cp,c,e,rw,rfl,Yu0 h2 k.le,(k.get i h2 (hd i (by simp[Zci]))).trans h3,h4⟩
def FrT.keep{N':Nat}(s:FrT h N u l)(k:Keeps h N h' N'):FrT h' N' u l:=⟨s.1.keep k,fun i hi=>by
 obtain⟨cs,h1,_⟩:=s.1
 rw[k.get i (h1.row_lt i hi)]
 exact s.2 i hi⟩
def FrT.moved{e:TypeId}(s:FrT h n u l)(k:Upd (fun i=>i∈Zci v) h n h' n')(hd:Zos e NW h v)(he:e≠95):FrT h' n' u l:=by
 obtain⟨⟨cs,h1,h2,h3⟩,h4⟩:=s
 have hn:∀i∈Zci u,i∉Zci v:=fun i hi hc=>by
  obtain⟨z,w,hz⟩:=h4 i hi
  obtain⟨z2,hz2,_⟩:=hd i hc
  rw[hz]at hz2
  simp at hz2
  exact he hz2.2.1.symm
 refine⟨⟨cs,h1.moved k hn,h2,fun j q hq=>?_⟩,fun i hi=>by rw[k.get i (h1.row_lt i hi) (hn i hi)];exact h4 i hi⟩
 obtain⟨c,g1,g2⟩:=h3 j q hq
 exact⟨c,g1,g2.moved k hd⟩
def Ybx{N0:Nat}{out:List (List V)}(s:Own 4 95 N0 h N v out)(hl:out.length=l.length)(hc:∀(j:Nat),j<l.length→∃c,out[j]?=some c∧∀q,l[j]?=some q→FcC h N c q):FrT h N v l:=by
 refine⟨⟨out,s.sn,hl,fun j q hq=>?_⟩,fun i hi=>?_⟩
 ·obtain⟨c,g1,g2⟩:=hc j (Zaz hq)
  exact⟨c,g1,g2 q hq⟩
 ·obtain⟨_,⟨_,rfl⟩|⟨j,rfl,_,_,hg⟩⟩:=s
  ·simp[Zci]at hi
  ·simp[Zci]at hi;subst hi;exact⟨_,_,hg⟩
structure DtI (h:T O) (N p:Nat) (a b:List Rat) (m:Nat) (r:T V) (st:St):Prop where
 w:oldIds N st.w=[]
 keep:Keeps h N st.h st.n
 ex:∃(t:Nat) (c:List V),t+m=a.length∧r.get 10=some (.int .i64 t)∧p<st.n∧st.h.get N=some (.cells zF 95 true)∧st.h.get p=some (.cells c 95 true)∧FcC st.h st.n c (Yab a b t)
def Yj5{a b:List Rat}{j k:Nat}(hu:FrS h N u a)(hv:FrS h N v b)(hab:a.length≤b.length)(ha:∀q∈a,Qb j q)(hb:∀q∈b,Qb k q)(hj:1≤j)(hk:1≤k)(hl:a.length*(j+k+1)+j+k+1≤400000000):Fn A.C 63 [u,v] h N (fun x h' n'=>Fc h' n' x (Zsq a b)):=by
 intro w
 have l1:=hu.len
 have l2:=hv.len
 have hal:a.length≤400000000:=by have:=Nat.le_mul_of_pos_right a.length (show 0<j+k+1 by omega);omega
 rw[Zaa,A.k63 (by simp)]
 simp[A.b63]
 refine Zab (Yh2 (by omega) (by omega)) ?_
 rintro _ h1 n1 k1 hz
 obtain⟨c,rfl,hc⟩:=hz.c
 have kB:Keeps h N (h.set N (.cells zF 95 true)) (N+1):=Keeps.refl.new _
 have le1:=k1.le
 have g1:=k1.get N (by omega)
 rw[T.get_set,Yuu rfl]at g1
 obtain⟨e1,e2⟩:=hc.len
 have hcc:(V.agg c).cells=c:=rfl
 have e4:splice zF 0 c=c:=by unfold splice;rw[e1];simp[e1,zF]
 have hnz:NoU zF:=by intro x hx m;simp[zF]at hx;rcases hx with rfl|rfl|rfl|rfl<;>simp
 unfold zF at e4
 simp[-V.cells, -V.one,hcc,e1,e2,e4,Zak,l1]
 generalize hH:(h1.set n1 (.cells [.int .i64 0,.nilslice,.int .i64 0,.nilslice] 95 true)).set n1 (.cells c 95 true)=H1
 have kA:Keeps h1 n1 H1 (n1+1):=by rw[←hH];exact(Keeps.refl.new _).set (Yus _)
 have kC:Keeps h N H1 (n1+1):=(kB.trans k1).trans kA
 have g2:H1.get n1=some (.cells c 95 true):=by rw[←hH];simp
 have g3:=(kA.get N (by omega)).trans g1
 clear hH
 refine Zag [(6,6),(10,24)] (fun e r st=>e=.exit 0∧DtI h N n1 a b 0 r st) (DtI h N n1 a b) a.length ?_ ?_ ?_
 ·exact⟨by simp;omega,kC,0,c,by omega,by simp,by show n1<n1+1;omega,g3,g2,by simpa[Yab]using hc.keep kA⟩
 ·rintro m r ⟨H,n2,W⟩ hr hf ⟨hW,hK,t,c0,ht,h10,hpn,hg0,hgp,hcp⟩
  simp only at hW hK hpn hg0 hgp hcp
  rw[Zah]
  cases m with
  |zero=>
   obtain rfl:t=a.length:=by omega
   simp[A.lb63_0,hr,hf,h10]
   exact⟨hW,hK,a.length,c0,by omega,by simp[h10],hpn,hg0,hgp,hcp⟩
  |succ m=>
   have hlt:t<a.length:=by omega
   have hlt':(t:Int)<(a.length:Int):=by omega
   have hlb:t<b.length:=by omega
   have hlb':(t:Int)<(b.length:Int):=by omega
   obtain⟨x,hx⟩:=Zaf hlt
   obtain⟨y,hy⟩:=Zaf hlb
   have hpb:=ha x (Yux hx)
   have hqb:=hb y (Yux hy)
   have hsb:=Zu7 ha hb hj hk t
   have hpq:=hpb.mul hqb
   have hmul:t*(j+k+1)≤a.length*(j+k+1):=Yve _ (by omega)
   have ee:Yab a b (t+1)=Yab a b t+x*y:=by simp[Yab,hx,hy]
   obtain⟨i,o,cc,e,rw,ca,q1,q2,q3,q4,q5⟩:=(hu.keep hK).at hx
   obtain⟨i',o',cc',e',rw',cb,p1,p2,p3,p4,p5⟩:=(hv.keep hK).at hy
   have s0:slc c0 0 4=some c0:=by unfold slc;rw[hcp.len.1];simp;exact Yuy (by rw[hcp.len.1];omega)
   simp[A.lb63_0,hr,hf,h10,l1,l2,hlt,hlt',hlb,hlb',hgp,s0,q1,q2,q3,q4,p1,p2,p3,p4]
   have w1:=Zlr hpb.1
   have w2:=Zlr (z:=(x.den:Int)) (k:=j) (by rw[Yuw];exact hpb.2)
   have w3:=Zlr hqb.1
   have w4:=Zlr (z:=(y.den:Int)) (k:=k) (by rw[Yuw];exact hqb.2)
   have w5:=Zlr hsb.1
   have w6:=Zlr (z:=((Yab a b t).den:Int)) (by rw[Yuw];exact hsb.2)
   have w7:=Zlr hpq.1
   have w8:=Zlr (z:=((x*y).den:Int)) (by rw[Yuw];exact hpq.2)
   refine Zab (Ydp q5.fc p5.fc (by omega) (by omega) (by omega) (by omega)) ?_
   rintro x3 h3 n3 k3 hm3
   simp[]
   refine Zab (Zqo (hcp.keep k3).fc hm3 (by omega) (by omega) (by omega) (by omega)) ?_
   rintro _ h4' n4 k4 hs4
   rw[←ee]at hs4
   obtain⟨c4,rfl,hc4⟩:=hs4.c
   have le3:=k3.le
   have le4:=k4.le
   have gp4:=(k4.get n1 (by omega)).trans ((k3.get n1 (by omega)).trans hgp)
   have g04:=(k4.get N (by omega)).trans ((k3.get N (by omega)).trans hg0)
   obtain⟨f1,f2⟩:=hc4.len
   have f3:=hcp.len.1
   have hcc4:(V.agg c4).cells=c4:=rfl
   have e5:splice c0 0 c4=c4:=by unfold splice;rw[f1];simp[f3]
   simp[-V.cells, -V.one,hr,hf,h10,hcc4,f1,f2,f3,e5,gp4,Zak]
   have d2:n1<n4:=by omega
   have d3:¬N=n1:=by omega
   have d4:¬n1<N:=by omega
   refine(Zij (by simp[-oldIds,hpn,d2,Zid,Zfx])).2 ?_
   simp(disch:=first|(simp;done)|omega|rfl) [hr,hf,h10,hlt,hlt',d2]
   exact⟨m,by omega,by simp[oldIds,hW,d4],((hK.trans k3).trans k4).set (by omega),t+1,c4,by omega,by simp,d2,by show T.get _ N=_;rw[T.get_set,Yur d3];exact g04,by show T.get _ n1=_;rw[T.get_set,Yuu rfl],hc4.setNU gp4 hcp.noU (by rw[f1,f3])⟩
 ·rintro _ r ⟨H,n2,W⟩ hr ⟨rfl,hW,hK,t,c0,ht,h10,hpn,hg0,hgp,hcp⟩
  simp only at hW hK hpn hg0 hgp hcp
  obtain rfl:t=a.length:=by omega
  have s0:slc c0 0 4=some c0:=by unfold slc;rw[hcp.len.1];simp;exact Yuy (by rw[hcp.len.1];omega)
  have hcc0:(V.agg c0).cells=c0:=rfl
  have e5:splice zF 0 c0=c0:=by unfold splice;rw[hcp.len.1];simp[hcp.len.1,zF]
  have f1:=hcp.len.1
  have f2:=hcp.len.2
  unfold zF at e5 hg0
  simp[-V.cells, -V.one,hr,hgp,hg0,s0,Zak,hcc0,f1,f2,e5,Ret]
  exact⟨hW,hK.set (Yus N),(hcp.setNU hg0 hnz (by rw[f1];rfl)).fc⟩
variable {N k:Nat} {h:T O} {m:List (List Rat)} {u v:V}
noncomputable def A.b50:=A.q Tryz.f50
def A.k50:=@A.kk 50 11 [.tmp 4] A.b50 (by kernel_rfl) rfl
noncomputable def A.b85:=A.q Tryz.f85
def A.k85:=@A.kk 85 8 [.tmp 4] A.b85 (by kernel_rfl) rfl
noncomputable def A.b168:=A.q Tryz.f168
def A.k168:=@A.kk 168 8 [.cell 3 (some 4)] A.b168 (by kernel_rfl) rfl
noncomputable def A.b51:=A.q Tryz.f51
def A.k51:=@A.kk 51 5 [.tmp 2] A.b51 (by kernel_rfl) rfl
def Ykq{a b:List Rat}{j:Nat}(hu:FrS h N u a)(hv:FrS h N v b)(hab:a.length≤b.length)(ha:∀q∈a,Qb j q)(hb:∀q∈b,Qb k q)(hj:1≤j)(hk:1≤k)(hl:a.length*(j+k+1)+j+k+1≤400000000):FnV A.C (.func 129 [v] []) [u] h N (fun x h' n'=>Fc h' n' x (Zsq a b)):=by
 intro w
 have kB:Keeps h N (h.set N (.cells zF 95 true)) (N+1):=Keeps.refl.new _
 rw[Zaa,A.k129 (by simp)]
 simp[A.b129]
 refine Zab (Yj5 (hu.keep kB) (hv.keep kB) hab ha hb hj hk hl) ?_
 rintro _ h1 n1 k1 hz
 obtain⟨c,rfl,hc⟩:=hz.c
 have le1:=k1.le
 have g1:=k1.get N (by omega)
 rw[T.get_set,Yuu rfl]at g1
 obtain⟨e1,e2⟩:=hc.len
 have hcc:(V.agg c).cells=c:=rfl
 have e4:splice zF 0 c=c:=by unfold splice;rw[e1];simp[e1,zF]
 have hnz:NoU zF:=by intro x hx m;simp[zF]at hx;rcases hx with rfl|rfl|rfl|rfl<;>simp
 have kk:=(kB.trans k1).set (h:=h) (n:=N) (i:=N) (o:=.cells c 95 true) (Yus N)
 have hfin:=(hc.setNU (e1:=95) (w1:=true) (c1:=c) g1 hnz (by rw[e1];rfl)).fc
 have s0:slc c 0 4=some c:=by unfold slc;rw[e1];simp;exact Yuy (by omega)
 have hlt:N<n1:=by omega
 unfold zF at e4
 simp[-V.cells, -V.one,hcc,e1,e2,e4,s0,g1,Zak,Ret,Zam.chk]
 exact⟨kk,hfin⟩
def MfS(h:T O)(N:Nat)(v:V)(m:List (List Rat)):Prop:=∃us:List V,Sl h N v us∧us.length=m.length∧∀(j:Nat) (l:List Rat),m[j]?=some l→∃u,us[j]?=some u∧FrT h N u l
def MfS.keep{h':T O}{N':Nat}(s:MfS h N v m)(k:Keeps h N h' N'):MfS h' N' v m:=by
 obtain⟨us,h1,h2,h3⟩:=s
 refine⟨us,h1.keep k,h2,fun j l hl=>?_⟩
 obtain⟨u,g1,g2⟩:=h3 j l hl
 exact⟨u,g1,g2.keep k⟩
def MfS.len(s:MfS h N v m):Zom v=some m.length:=by
 obtain⟨us,h1,h2,_⟩:=s
 rw[h1.len,h2]
def FrS.form{l:List Rat}(s:FrS h N v l):V.one v=true∧V.cells v=[v]∧NW v:=by
 obtain⟨cs,⟨_,rfl|rfl⟩|⟨i,o,cp,c,e,rw,rfl,_⟩,_⟩:=s
 ·exact⟨rfl,rfl,fun m=>by simp⟩
 ·exact⟨rfl,rfl,fun m=>by simp⟩
 ·exact⟨rfl,rfl,fun m=>by simp⟩
def Ygf{k0:Nat}(hs:TxM h N v m)(hl:m.length<1000000000)(hm:∀l∈m,l.length<1000000000∧∀q∈l,Qb k0 q)(hk0:k0≤4000):Fn A.C 51 [v] h N (fun u h' n'=>MfS h' n' u m):=by
 intro w
 obtain⟨us,h1,h2,h3⟩:=hs
 rw[Zaa,A.k51 (by simp)]
 simp[A.b51]
 refine Zab (Yhh (Q:=fun j h n u=>∀l,m[j]?=some l→FrT h n u l) NW (fun j h n h' n' c u hq k hd l hl=>(hq l hl).moved k hd (by simp)) h1 (by omega) ?_) ?_
 ·intro j x hx h' n' hk
  obtain⟨l,hl⟩:=Zaf (l:=m) (k:=j) (by have:=Zaz hx;omega)
  obtain⟨u,g1,g2⟩:=h3 j l hl
  rw[hx]at g1
  obtain rfl:x=u:=by simpa using g1
  obtain⟨b1,b2⟩:=hm l (Yux hl)
  refine fun w=>(Zpm (k0:=k0) (g2.keep hk) b1 b2 hk0 w).mono fun y st=>?_
  rintro⟨q1,q2,q3⟩
  obtain⟨f1,f2,f3⟩:=q3.1.form
  refine⟨q1,q2,y,rfl,rfl,by simp only[List.all_cons,List.all_nil,f1,Bool.and_true],by simpa using f3,fun l' hl'=>?_⟩
  rw[hl]at hl'
  obtain rfl:l=l':=by simpa using hl'
  exact q3
 ·rintro u h4 n4 k4 ⟨out,o1,o2,o3⟩
  simp[Ret]
  refine⟨k4,?_⟩
  have hx:∀x∈out,∃y,x=[y]:=fun x hx=>by
   have:=o1.1 x hx
   cases x with
   |nil=>simp at this
   |cons y t=>cases t with
    |nil=>exact⟨y,rfl⟩
    |cons a b=>simp at this
  obtain⟨ys,hys⟩:∃ys:List V,out=ys.map fun y=>[y]:=by
   clear o1 o2 o3
   induction out with
   |nil=>exact⟨[],rfl⟩
   |cons x t ih=>
    obtain⟨y,rfl⟩:=hx x (by simp)
    obtain⟨ys,rfl⟩:=ih fun x hx'=>hx x (by simp[hx'])
    exact⟨y::ys,rfl⟩
  subst hys
  refine⟨ys,Sn.one.1 o1.sn,by simpa[h2]using o2,fun j l hl=>?_⟩
  obtain⟨y,g1,g2⟩:=o3 j (by have:=Zaz hl;omega)
  refine⟨y,?_,g2 l hl⟩
  rw[Yvd]at g1
  cases hy:ys[j]? with
  |none=>rw[hy]at g1;simp at g1
  |some z=>rw[hy]at g1;simpa using g1
def Ycw{f:V}(F:List Rat→Rat)(hs:MfS h N v m)(hl:m.length<1000000000)(hf:∀l∈m,∀u h' n',Keeps h N h' n'→FrT h' n' u l→FnV A.C f [u] h' n' (fun x h2 n2=>Fc h2 n2 x (F l))):Fn A.C 106 [v,f] h N (fun u h' n'=>FrT h' n' u (m.map F)):=by
 obtain⟨us,h1,h2,h3⟩:=hs
 have key:=Yhj (f:=f) (Q:=fun j h n c=>∀q,(m.map F)[j]?=some q→FcC h n c q) NW (fun j h n h' n' c u hq k hd q hq'=>(hq q hq').moved k hd) h1 (by omega) ?_
 ·intro w
  refine(key w).mono fun u st=>?_
  rintro⟨q1,q2,out,o1,o2,o3⟩
  exact⟨q1,q2,Ybx o1 (by simpa[h2]using o2) fun j hj=>o3 j (by simp at hj;omega)⟩
 ·intro j x hx h' n' hk
  obtain⟨l,hl⟩:=Zaf (l:=m) (k:=j) (by have:=Zaz hx;omega)
  obtain⟨u,g1,g2⟩:=h3 j l hl
  rw[hx]at g1
  obtain rfl:x=u:=by simpa using g1
  refine fun w=>(hf l (Yux hl) x h' n' hk (g2.keep hk) w).mono fun y st=>?_
  rintro⟨q1,q2,q3⟩
  obtain⟨c,rfl,hc⟩:=q3.c
  refine⟨q1,q2,c,rfl,hc.len.1,hc.len.2,hc.noU,fun q hq=>?_⟩
  simp[hl]at hq
  rw[←hq]
  exact hc
def Ybu{b:List Rat}{j n:Nat}(hu:MfS h N u m)(hv:FrS h N v b)(hm:∀r∈m,r.length=n∧∀q∈r,Qb j q)(hn:n≤b.length)(hb:∀q∈b,Qb k q)(hj:1≤j)(hk:1≤k)(hl:n*(j+k+1)+j+k+1≤400000000)(hml:m.length<100000):Fn A.C 50 [u,v] h N (fun x h' n'=>FrT h' n' x (m.map fun r=>Zsq r b)):=by
 intro w
 rw[Zaa,A.k50 (by simp)]
 simp[A.b50]
 refine Zab (Ycw (fun r=>Zsq r b) hu (by omega) fun l hl2 x h' n' hk2 hx=>?_) ?_
 ·obtain⟨b1,b2⟩:=hm l hl2
  exact Ykq hx.1 (hv.keep hk2) (by omega) b2 hb hj hk (by rw[b1];exact hl)
 ·rintro x h4 n4 k4 hx
  simp[Ret]
  exact⟨k4,hx⟩
def Ynn{p:Nat}{l:List Rat}{e:TypeId}{rw:Bool}(hp:h.get p=some (.cells [.int .i64 k] e rw))(hpl:p<N)(hu:FrS h N u l)(hk:k<l.length):FnV A.C (.func 168 [] [.ptr p 0]) [u] h N (fun x h' n'=>Fc h' n' x (l[k]?.getD 0)):=by
 intro w
 have l1:=hu.len
 have hk':(k:Int)<(l.length:Int):=by omega
 obtain⟨q,hq⟩:=Zaf hk
 obtain⟨i,o,cc,e,rw,c,q1,q2,q3,q4,q5⟩:=hu.at hq
 obtain⟨e1,e2⟩:=q5.len
 have kB:Keeps h N (h.set N (.cells zF 95 true)) (N+1):=Keeps.refl.new _
 have hcc:(V.agg c).cells=c:=rfl
 have e4:splice zF 0 c=c:=by unfold splice;rw[e1];simp[e1,zF]
 have hnz:NoU zF:=by intro x hx m;simp[zF]at hx;rcases hx with rfl|rfl|rfl|rfl<;>simp
 have s0:slc c 0 4=some c:=by unfold slc;rw[e1];simp;exact Yuy (by omega)
 have kk:=kB.set (h:=h) (n:=N) (i:=N) (o:=.cells c 95 true) (Yus N)
 have hfin:=((q5.keep kB).setNU (i:=N) (e0:=95) (w0:=true) (e1:=95) (w1:=true) (c1:=c) (by rw[T.get_set,Yuu rfl]) hnz (by rw[e1];rfl)).fc
 have d1:¬p=N:=by omega
 have d2:¬i=N:=by omega
 rw[hq]
 unfold zF at e4
 rw[Zaa,A.k168 (by simp)]
 simp[-V.cells, -V.one,A.b168,hp,d1,d2,l1,hk,hk',q1,q3,q4,hcc,e1,e2,e4,s0,Zak,Ret,Zam.chk]
 exact⟨kk,hfin⟩
def Yip{n:Nat}(hu:MfS h N u m)(hml:m.length<100000)(hm:∀r∈m,r.length=n)(hk:k<n):Fn A.C 85 [u,.int .i64 k] h N (fun x h' n'=>FrT h' n' x (Zib m k)):=by
 intro w
 rw[Zaa,A.k85 (by simp)]
 have kB:Keeps h N (h.set N (.cells [.int .i64 k] 3 true)) (N+1):=Keeps.refl.new _
 simp[A.b85]
 refine Zab (Ycw (fun r=>r[k]?.getD 0) (hu.keep kB) (by omega) fun l hl2 x h' n' hk2 hx=>?_) ?_
 ·exact Ynn (e:=3) (rw:=true) (by rw[hk2.get N (by omega)];simp) (by have:=hk2.le;omega) hx.1 (by rw[hm l hl2];exact hk)
 ·rintro x h4 n4 k4 hx
  simp[Ret]
  exact⟨kB.trans k4,hx⟩
variable {N:Nat} {h:T O} {l:List Rat} {m:List (List Rat)} {u v:V}
noncomputable def A.w179:=A.q Tryz.f179
noncomputable def A.lb179_0:=A.ql A.w179 0 []
noncomputable def A.b179:=(fun x0=>A.qb A.w179 [x0]) A.lb179_0
def A.k179:=@A.kk 179 19 [.tmp 4] A.b179 (by kernel_rfl) rfl
def Ymv{f:V}(l:List (List V))(p:Nat→Bool)(hs:Sn 4 h N v l)(hl:l.length<1152921504606846976)(hf:∀(j:Nat) (x:List V),l[j]?=some x→∀h' n',Keeps h N h' n'→FnV A.C f [.agg x] h' n' (fun u _ _=>u=.bool (p j))):Fn A.C 179 [v,f] h N (fun u _ _=>u=.int .i64 (Zct p 0 l.length)):=by
 intro w
 have hlen:=hs.len
 rw[Zaa,A.k179 (by simp)]
 simp[A.b179,hlen]
 refine Zag [(4,5),(8,18)] (fun e r st=>oldIds N st.w=[]∧Keeps h N st.h st.n∧((e=.exit 0∧Zct p 0 l.length= -1)∨(e=.ret∧r.get 4=some (.int .i64 (Zct p 0 l.length))))) (fun m r st=>oldIds N st.w=[]∧Keeps h N st.h st.n∧∃k,k+m=l.length∧r.get 8=some (.int .i64 k)∧Zct p 0 l.length=Zct p k m) l.length ?_ ?_ ?_
 ·exact⟨by simp,Keeps.refl,0,by omega,by simp,rfl⟩
 ·rintro m r ⟨H,n1,W⟩ hr hf2 ⟨hW,hK,k,hk,h8,hz⟩
  simp only at hW hK
  rw[Zah]
  cases m with
  |zero=>
   have:k=l.length:=by omega
   subst this
   simp only[Zct]at hz
   simp[A.lb179_0,hr,hf2,h8,hW,hK,hz]
  |succ m=>
   have hlt:k<l.length:=by omega
   obtain⟨c,hc⟩:=Zaf hlt
   obtain⟨i,o,cc,e,rw,q1,q2,q3,q4⟩:=hs.at hc
   have q3:=(hK.get _ q2).trans q3
   have hk1:(k:Int)<(l.length:Int):=by omega
   simp only[Zct]at hz
   simp[A.lb179_0,hr,hf2,h8,hk1,hlt,hlen,q1,q3,q4,hW]
   refine Zgh (hf k c hc _ _ hK) ?_
   rintro v h2 n2 k2 rfl
   have kk:=hK.trans k2
   cases hp:p k
   ·rw[hp]at hz
    simp(disch:=first|(simp;done)|omega|rfl) [hr,hf2,h8,hW,kk]
    exact⟨m,by omega,k+1,by omega,by simp,by simpa using hz⟩
   ·rw[hp]at hz
    simp[hr,hf2,h8,hW,kk]
    simpa using hz.symm
 ·rintro e r ⟨H,n1,W⟩ hr ⟨hW,hK,⟨rfl,hz⟩|⟨rfl,h4⟩⟩
  ·simp only at hW hK
   simp[hr,hz,Ret,hW,hK]
  ·simp only at hW hK
   simp[hr,h4,Ret,hW,hK]
noncomputable def A.b120:=A.q Tryz.f120
def A.k120:=@A.kk 120 9 [.tmp 4] A.b120 (by kernel_rfl) rfl
noncomputable def A.b49:=A.q Tryz.f49
def A.k49:=@A.kk 49 8 [.tmp 2,.tmp 3] A.b49 (by kernel_rfl) rfl
noncomputable def A.w58:=A.q Tryz.f58
noncomputable def A.lb58_0:=A.ql A.w58 0 []
noncomputable def A.b58:=(fun x0=>A.qb A.w58 [x0]) A.lb58_0
def A.k58:=@A.kk 58 19 [.tmp 4] A.b58 (by kernel_rfl) rfl
noncomputable def A.w60:=A.q Tryz.f60
noncomputable def A.lb60_0:=A.ql A.w60 0 []
noncomputable def A.b60:=(fun x0=>A.qb A.w60 [x0]) A.lb60_0
def A.k60:=@A.kk 60 32 [.tmp 6] A.b60 (by kernel_rfl) rfl
def Yin{f:V}(l:List (List V))(p:Nat→Bool)(hs:Sn 4 h N v l)(hl:l.length<1152921504606846976)(hf:∀(j:Nat) (x:List V),l[j]?=some x→∀h' n',Keeps h N h' n'→FnV A.C f [.agg x] h' n' (fun u _ _=>u=.bool (p j))):Fn A.C 120 [v,f] h N (fun u _ _=>u=.bool (decide (0≤Zct p 0 l.length))):=by
 intro w
 rw[Zaa,A.k120 (by simp)]
 simp[A.b120]
 refine Zab (Ymv l p hs hl hf) ?_
 rintro v h2 n2 k2 rfl
 simp[Ret,k2]
def Zzm:decide (0≤Zct (fun j=>Zxf (l[j]?.getD 0)) 0 l.length)=Zdw l:=by
 rw[Bool.eq_iff_iff,decide_eq_true_eq,Zns]
 unfold Zdw
 rw[List.any_eq_true]
 constructor
 ·rintro⟨j,_,h2,h3⟩
  obtain⟨q,hq⟩:=Zaf (l:=l) (k:=j) (by omega)
  rw[hq]at h3
  exact⟨q,Yux hq,h3⟩
 ·rintro⟨q,hq,h3⟩
  obtain⟨j,hj⟩:=Ywg hq
  exact⟨j,Yxe _,by have:=Zaz hj;omega,by rw[hj];exact h3⟩
def Zvr{h:T O}{N:Nat}{u:V}{l:List Rat}{k:Nat}(hu:FrS h N u l)(hP:P10 h N)(hl:l.length<1000000000)(hq:∀q∈l,Qb k q)(hk:k≤400000000):Fn A.C 49 [u] h N (fun x h' n'=>(Zdw l=true∧x=.tup [.nilslice,.int .i64 4])∨(Zdw l=false∧∃v,x=.tup [v,.int .i64 0]∧TxT h' n' v l)):=by
 intro w
 obtain⟨cs,s1,s2,s3⟩:=id hu
 have key:=Yin (f:=.func 99 [] []) cs (fun j=>Zxf (l[j]?.getD 0)) s1 (by omega) (fun j x hx h' n' hk'=>by
  obtain⟨q,hqj⟩:=Zaf (l:=l) (k:=j) (by have:=Zaz hx;omega)
  obtain⟨c,g1,g2⟩:=s3 j q hqj
  rw[hx]at g1
  obtain rfl:x=c:=by simpa using g1
  simp only[hqj,Yxj]
  exact Ydq (g2.keep hk').fc (hP.keep hk') (hq q (Yux hqj)) (by omega))
 rw[s2,Zzm]at key
 rw[Zaa,A.k49 (by simp)]
 simp[A.b49]
 refine Zab key ?_
 rintro _ h2 n2 k2 rfl
 cases hb:Zdw l with
 |true=>
  simp[Ret]
  exact k2
 |false=>
  simp[]
  refine Zab (Yfs (k0:=k) (hu.keep k2) (hP.keep k2) hl hq hk) ?_
  rintro v h3 n3 k3 t1
  simp[Ret]
  exact⟨k2.trans k3,t1⟩
def Yas{k:Nat}(hu:FrS h N u l)(hP:P10 h N)(hl:l.length<1000000000)(hq:∀q∈l,Qb k q)(hk:k≤400000000):Fn A.C 49 [u] h N (fun x h' n'=>(Zdw l=true∧x=.tup [.nilslice,.int .i64 4])∨(Zdw l=false∧∃v,x=.tup [v,.int .i64 0]∧Tx h' n' v l)):=fun w=>(Zvr hu hP hl hq hk w).mono fun x st ⟨a,b,c⟩=>⟨a,b,c.imp id fun ⟨e,v,r,t⟩=>⟨e,v,r,t.1⟩⟩
def MfO(N0:Nat)(h:T O)(N:Nat)(v:V)(m:List (List Rat)):Prop:=∃us:List V,Own 1 79 N0 h N v (us.map fun y=>[y])∧(us=[]→v=.nilslice)∧us.length=m.length∧∀(j:Nat) (l:List Rat),m[j]?=some l→∃u,us[j]?=some u∧FrT h N u l
def MfO.nil{N0:Nat}:MfO N0 h N .nilslice []:=⟨[],Own.nil,fun _=>rfl,rfl,fun j l hl=>by simp at hl⟩
def MfO.keep{N0:Nat}{h':T O}{N':Nat}(s:MfO N0 h N v m)(k:Keeps h N h' N'):MfO N0 h' N' v m:=by
 obtain⟨us,h1,h2,h3,h4⟩:=s
 refine⟨us,h1.keep k,h2,h3,fun j l hl=>?_⟩
 obtain⟨u,g1,g2⟩:=h4 j l hl
 exact⟨u,g1,g2.keep k⟩
def MfO.mfs{N0:Nat}(s:MfO N0 h N v m):MfS h N v m:=by
 obtain⟨us,h1,h2,h3,h4⟩:=s
 exact⟨us,Sn.one.1 h1.sn,h3,h4⟩
def MfO.push{N0:Nat}{x:V}{w:List Nat}(s:MfO N0 h N v m)(hu:FrT h N u l)(hN:N0≤N)(hx:Zat ⟨h,N,w⟩ 1 x=some (1,[u]))(hm:m.length<100000):
  ∃v' h' w',Za6 ⟨h,N,w⟩ 1 24 79 v x=some (v',⟨h',N+1,w'⟩)∧oldIds N0 w'=oldIds N0 w∧Keeps h N0 h' (N+1)∧MfO N0 h' (N+1) v' (m++[l]):=by
 obtain⟨us,h1,h2,h3,h4⟩:=s
 obtain⟨v',h',w',f1,f2,f3,f4,fD,f5⟩:=Zco (Y:=NW) (x:=[u]) (u:=x) (bytes:=24) (w:=w) h1 (fun h0=>h2 (List.map_eq_nil_iff.1 h0)) (fun c hc y hy=>by
  obtain⟨z,hz,rfl⟩:=Yvb.1 hc
  obtain rfl:y=z:=by simpa using hy
  obtain⟨j,hj⟩:=Ywg hz
  obtain⟨r,hr⟩:=Zaf (l:=m) (k:=j) (by have:=Zaz hj;omega)
  obtain⟨u',g1,g2⟩:=h4 j r hr
  rw[hj]at g1
  obtain rfl:y=u':=by simpa using g1
  exact g2.1.form.2.2) hN (by decide) rfl hx (by rw[Yvn];omega)
 refine⟨v',h',w',f1,f2,f3,us++[u],by simpa using f5,by simp,by simp[h3],fun j r hr=>?_⟩
 by_cases hj:j<m.length
 ·rw[Yu7 hj]at hr
  obtain⟨u',g1,g2⟩:=h4 j r hr
  exact⟨u',by rw[Yu7 (by omega)];exact g1,g2.moved f4 fD (by simp)⟩
 ·rw[Yvj (by omega)]at hr
  cases hd:j-m.length with
  |zero=>
   rw[hd]at hr
   simp at hr
   subst hr
   exact⟨u,by rw[Yvj (by omega),h3,hd];rfl,hu.moved f4 fD (by simp)⟩
  |succ d=>rw[hd]at hr;simp at hr
def Ygk{n:Nat}(hu:MfS h N u m)(hml:m.length<100000)(hm:∀r∈m,r.length=n)(hn:n<1000):Fn A.C 58 [u,.int .i64 n] h N (fun x h' n'=>MfO N h' n' x (Ze5 m n)):=by
 intro w
 rw[Zaa,A.k58 (by simp)]
 simp[A.b58]
 refine Zag [(5,6),(8,17)] (fun e r st=>e=.exit 0∧oldIds N st.w=[]∧Keeps h N st.h st.n∧∃x,r.get 5=some x∧MfO N st.h st.n x (Ze5 m n)) (fun i r st=>oldIds N st.w=[]∧Keeps h N st.h st.n∧∃k x,k+i=n∧r.get 8=some (.int .i64 k)∧r.get 5=some x∧MfO N st.h st.n x (Ze5 m k)) n ?_ ?_ ?_
 ·exact⟨by simp,Keeps.refl,0,.nilslice,by omega,by simp,by simp,MfO.nil⟩
 ·rintro i r ⟨H,n1,W⟩ hr hf ⟨hW,hK,k,x,hk,h8,h5,ho⟩
  simp only at hW hK ho
  rw[Zah]
  cases i with
  |zero=>
   obtain rfl:k=n:=by omega
   simp[A.lb58_0,hr,hf,h8,h5,hW,hK]
   exact ho
  |succ i=>
   have hlt:k<n:=by omega
   have hlt':(k:Int)<(n:Int):=by omega
   simp[A.lb58_0,hr,hf,h8,h5,hlt,hlt']
   refine Zab (Yip (hu.keep hK) hml hm hlt) ?_
   rintro y H2 n2 k2 hy
   have le2:=k2.le
   have nle:=hK.le
   obtain⟨y1,y2,y3⟩:=hy.1.form
   have e4:splice [V.nilslice] 0 [y]=[y]:=rfl
   have kN:Keeps H2 n2 (H2.set n2 (.cells [y] 79 true)) (n2+1):=Keeps.refl.new _
   obtain⟨v',h',w',f1,f2,f3,f5⟩:=(((ho.keep k2).keep kN).push (x:=.slice n2 0 1 (some 1) 1) (l:=Zib m k) (w:=W) (hy.keep kN) (by omega) (by simp[Zat,St.row,slc]) (by simp[Ze5];omega))
   have e7:Ze5 m k++[Zib m k]=Ze5 m (k+1):=by simp[Ze5,List.range_succ]
   rw[e7]at f5
   have b1:V.one y=true:=y1
   simp(disch:=first|(simp;done)|omega|rfl) [-V.cells, -V.one,hr,hf,h8,h5,b1,y2,e4,f1]
   exact⟨i,by omega,by rw[f2];exact hW,((hK.trans k2).trans kN).then f3,k+1,by omega,by simp,f5⟩
 ·rintro _ r ⟨H,n1,W⟩ hr ⟨rfl,hW,hK,x,h5,ho⟩
  simp only at hW hK ho
  simp[hr,h5,Ret,hW,hK]
  exact ho
variable {a b:List Rat}
set_option maxHeartbeats 2000000
def Zta(F:Rat→Rat→Rat)(a b:List Rat)(n:Nat):List Rat:=(List.range n).map fun k=>F (a[k]?.getD 0) (b[k]?.getD 0)
def Yfd{F:Rat→Rat→Rat}{n j:Nat}(h:j<n):(Zta F a b n)[j]?=some (F (a[j]?.getD 0) (b[j]?.getD 0)):=by
 simp[Zta,h]
def Zf5{F:Rat→Rat→Rat}{n:Nat}:(Zta F a b n).length=n:=by simp[Zta]
structure JnI (F:Rat→Rat→Rat) (h:T O) (N:Nat) (a b:List Rat) (m:Nat) (r:T V) (st:St):Prop where
 w:oldIds N st.w=[]
 keep:Keeps h N st.h st.n
 ex:∃(k:Nat) (cs:List (List V)),k+m=a.length∧r.get 14=some (.int .i64 k)∧N<st.n∧st.h.get N=some (.cells (cs.flatten++Zc2 zF m) 95 true)∧cs.length=k∧∀(j:Nat) (q:Rat),j<k→(Zta F a b a.length)[j]?=some q→∃c,cs[j]?=some c∧FcC st.h st.n c q
def Yda{h:T O}{N:Nat}{u v f:V}(F:Rat→Rat→Rat)(hu:FrS h N u a)(hv:FrS h N v b)(hab:a.length≤b.length)(hF:∀x∈a,∀y∈b,∀(h':T O) (n':Nat) (ca cb:List V),Keeps h N h' n'→FcC h' n' ca x→FcC h' n' cb y→FnV A.C f [.agg ca,.agg cb] h' n' (fun z h2 n2=>Fc h2 n2 z (F x y)))(hl:a.length<1000000000):Fn A.C 60 [u,v,f] h N (fun x h' n'=>FrT h' n' x (Zta F a b a.length)):=by
 intro w
 have l1:=hu.len
 have l2:=hv.len
 have c1:(64:Int)*(a.length:Int)≤140737488355328:=by omega
 have c2:(a.length:Int)<4611686018427387904:=by omega
 have kB:Keeps h N (h.set N (.cells (Zc2 zF a.length) 95 true)) (N+1):=Keeps.refl.new _
 rw[Zaa,A.k60 (by simp)]
 simp[A.b60,l1,c1,c2]
 refine Zag [(8,8),(14,30)] (fun e r st=>e=.exit 0∧JnI F h N a b 0 r st) (JnI F h N a b) a.length ?_ ?_ ?_
 ·exact⟨by simp,kB,0,[],by omega,by simp,by show N<N+1;omega,by rw[T.get_set,Yuu rfl];rfl,rfl,fun j q hj=>by omega⟩
 ·rintro m r ⟨H,n1,W⟩ hr hf ⟨hW,hK,t,cs,ht,h14,hN1,hM,hcl,hcs⟩
  simp only at hW hK hM hN1 hcs
  rw[Zah]
  cases m with
  |zero=>
   obtain rfl:t=a.length:=by omega
   simp[A.lb60_0,hr,hf,h14]
   exact⟨hW,hK,a.length,cs,by omega,by simp[h14],hN1,hM,hcl,hcs⟩
  |succ m=>
   have hlt:t<a.length:=by omega
   have hlt':(t:Int)<(a.length:Int):=by omega
   have hlb:t<b.length:=by omega
   have hlb':(t:Int)<(b.length:Int):=by omega
   obtain⟨x,hx⟩:=Zaf hlt
   obtain⟨y,hy⟩:=Zaf hlb
   obtain⟨i,o,cc,e,rw,ca,q1,q2,q3,q4,q5⟩:=(hu.keep hK).at hx
   obtain⟨i',o',cc',e',rw',cb,p1,p2,p3,p4,p5⟩:=(hv.keep hK).at hy
   have hi:i<N:=by
    obtain⟨i2,_,_,_,_,_,z1,z2,_⟩:=hu.at hx
    rw[q1]at z1
    simp at z1
    omega
   have hi':i'<N:=by
    obtain⟨i2,_,_,_,_,_,z1,z2,_⟩:=hv.at hy
    rw[p1]at z1
    simp at z1
    omega
   simp[A.lb60_0,hr,hf,h14,l1,l2,hlt,hlt',hlb,hlb',q1,q2,q3,q4,p1,p2,p3,p4]
   refine Zgh (hF x (Yux hx) y (Yux hy) _ _ _ _ hK q5 p5) ?_
   rintro _ H2 n2 k2 hf2
   obtain⟨c,rfl,hc⟩:=hf2.c
   have le2:=k2.le
   have nle:=hK.le
   have hM2:=(k2.get N hN1).trans hM
   have hcs2:∀(j:Nat) (q:Rat),j<cs.length→(Zta F a b a.length)[j]?=some q→∃c,cs[j]?=some c∧FcC H2 n2 c q:=fun j q hj hq=>by
    obtain⟨c,g1,g2⟩:=hcs j q (by omega) hq
    exact⟨c,g1,g2.keep k2⟩
   obtain⟨f1,f2,f3⟩:=Znu (l:=Zta F a b a.length) (by rw[Zf5];omega) hcs2
   have hfl:=Za8 f1
   obtain⟨e1,e2⟩:=hc.len
   have hsp:splice (cs.flatten++Zc2 zF (m+1)) (t*4) c=(cs++[c]).flatten++Zc2 zF m:=by
    rw[Zfc,Zhy (n:=4) (by rw[hfl,hcl]) rfl e1,Zh7,Yvz]
   have hb4:t*4+4≤(cs.flatten++Zc2 zF (m+1)).length:=by
    rw[Yu8,hfl,Yae];omega
   have hcc:(V.agg c).cells=c:=rfl
   have hnu:NoU (cs.flatten++Zc2 zF (m+1)):=f2.app Zl0
   have hlen4:((cs++[c]).flatten++Zc2 zF m).length=(cs.flatten++Zc2 zF (m+1)).length:=by
    rw[Zfc,Zh7];simp[e1,zF];omega
   generalize cs.flatten++Zc2 zF (m+1)=X at*
   obtain⟨Y,hY⟩:∃Y,(cs++[c]).flatten++Zc2 zF m=Y:=⟨_,rfl⟩
   rw[hY]at hsp hlen4
   have d1:N<n2:=by omega
   have d2:¬i=N:=by omega
   have d3:¬i'=N:=by omega
   simp(disch:=first|(simp;done)|omega|rfl) [-V.cells, -V.one,hr,hf,h14,hlt,hlt',hM2,Zak,hcc,e1,e2,hb4,hsp]
   have wok:¬N<N:=by omega
   refine⟨m,by omega,⟨by simp[d1,oldIds,hW],(hK.trans k2).set (Yus N),t+1,cs++[c],by omega,by simp,d1,by show T.get _ N=_;rw[T.get_set,Yuu rfl,hY],by simp[hcl],fun j q' hj hq'=>?_⟩⟩
   by_cases hjk:j<t
   ·obtain⟨c',g1,g2⟩:=hcs j q' hjk hq'
    exact⟨c',by rw[Yu7 (by omega)];exact g1,(g2.keep k2).setNU hM2 hnu hlen4⟩
   ·obtain rfl:j=t:=by omega
    rw[Yfd hlt,hx,hy]at hq'
    simp only[Yxj,Yup]at hq'
    subst hq'
    exact⟨c,by rw[Yvj (by omega),hcl];simp,hc.setNU hM2 hnu hlen4⟩
 ·rintro _ r ⟨H,n1,W⟩ hr ⟨rfl,hW,hK,t,cs,ht,h14,hN1,hM,hcl,hcs⟩
  simp only at hW hK hM hN1 hcs
  obtain rfl:t=a.length:=by omega
  simp[hr,Ret,hW,hK]
  have hz:Zc2 zF 0=[]:=by simp[Zc2]
  obtain⟨f1,_,_⟩:=Znu (l:=Zta F a b a.length) (by rw[Zf5];omega) (fun j q hj hq=>hcs j q (by omega) hq)
  have hfl:=Za8 f1
  rw[hz,Ywo]at hM
  refine⟨⟨cs,.inr ⟨N,0,some a.length,cs.flatten,_,true,by rw[hcl],hN1,hM,fun j x hx=>by rw[Ywn];exact Zc8 f1 hx,by omega,fun k hk=>by simp at hk;omega⟩,by rw[Zf5];exact hcl,fun j q hq=>hcs j q (by have:=Zaz hq;rw[Zf5]at this;omega) hq⟩,fun i hi=>?_⟩
  simp[Zci]at hi
  subst hi
  exact⟨_,_,hM⟩
end Go.Mx
