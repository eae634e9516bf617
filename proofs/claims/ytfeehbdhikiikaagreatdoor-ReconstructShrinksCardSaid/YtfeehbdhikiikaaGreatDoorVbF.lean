/-reconstruct-/
import Derived.Test.YtfeehbdhikiikaaGreatDoorVaE
set_option linter.all false
set_option maxHeartbeats 4000000
namespace Go.Mx
variable{rw:Bool}{y z:Int}{w:List Nat}{f x:V}
noncomputable section
open Go Go.Proofs
variable {N:Nat} {h:T O} {l:List Rat} {m:List (List Rat)} {u v:V}
set_option maxRecDepth 1000000
def A.SB:=A.q Tryz.f183
def A.uz:=A.ql A.SB 0 []
def A.b183:=(fun x0=>A.qb A.SB [x0]) A.uz
def A.k183:=@A.kk 183 19 [.tmp 4] A.b183 (by kernel_rfl) rfl
def Ys2(l:List (List V))(p:Nat->Bool)(hs:Sn 4 h N v l)(hl:l.length<1152921504606846976)(hf:∀(j:Nat) (x:List V),l[j]?=some x->∀h' n',ab h N h' n'->fW A.C f [.agg x] h' n' (fun u _ _=>u=.bool (p j))):Fn A.C 183 [v,f] h N (fun u _ _=>u=.int .i64 (pL p 0 l.length)):=by
 intro w;have hlen:=hs.len;rw[aP,A.k183 (by simp)];simp[A.b183,hlen];refine cB [(4,5),(8,18)] (fun e r st=>az N st.w=[]/\ab h N st.h st.n/\((e=.exit 0/\pL p 0 l.length= -1)\/(e=.ret/\r.get 4=some (.int .i64 (pL p 0 l.length))))) (fun m r st=>az N st.w=[]/\ab h N st.h st.n/\∃k,k+m=l.length/\r.get 8=some (.int .i64 k)/\pL p 0 l.length=pL p k m) l.length ?_ ?_ ?_
 ·exact⟨by simp,ab.refl,0,by omega,by simp,rfl⟩
 ·rintro m r ⟨H,n1,W⟩ hr eI ⟨hW,hK,k,hk,h8,hz⟩;simp only at hW hK;rw[bG];cases m with
  |zero=>
   have:k=l.length:=by omega
   subst this;simp only[pL]at hz;simp[A.uz,hr,eI,h8,hW,hK,hz]
  |succ m=>
   have aD:k<l.length:=by omega
   obtain⟨c,hc⟩:=bs aD;obtain⟨i,o,cc,e,rw,q1,q2,q3,q4⟩:=hs.at hc;have q3:=(hK.get _ q2).trans q3;have dj:(k:Int)<(l.length:Int):=by omega
   simp only[pL]at hz;simp[A.uz,hr,h8,dj,hlen,q1,q3,q4];refine Bo (hf k c hc _ _ hK) ?_;rintro v h2 n2 k2 rfl;have kk:=hK.trans k2;cases hp:p k
   ·rw[hp]at hz;simp(disch:=first|(simp;done)|omega|rfl) [eI,h8,hW,kk];exact⟨m,by omega,k+1,by omega,by simp,by simpa using hz⟩
   rw[hp]at hz;simp[eI,hW,kk];simpa using hz.symm
 rintro e r ⟨H,n1,W⟩ hr ⟨hW,hK,⟨rfl,hz⟩|⟨rfl,h4⟩⟩
 ·simp only at hW hK;simp[hz,ay,hW,hK]
 simp only at hW hK;simp[h4,ay,hW,hK]
def A.b121:=A.q Tryz.f121
def A.k121:=@A.kk 121 9 [.tmp 4] A.b121 (by kernel_rfl) rfl
def A.b71:=A.q Tryz.f71
def A.k71:=@A.kk 71 8 [.tmp 2,.tmp 3] A.b71 (by kernel_rfl) rfl
def A.SC:=A.q Tryz.f101
def A.uA:=A.ql A.SC 0 []
def A.b101:=(fun x0=>A.qb A.SC [x0]) A.uA
def A.k101:=@A.kk 101 19 [.tmp 4] A.b101 (by kernel_rfl) rfl
def A.w78:=A.q Tryz.f78
def A.yx:=A.ql A.w78 0 []
def A.b78:=(fun x0=>A.qb A.w78 [x0]) A.yx
def A.k78:=@A.kk 78 32 [.tmp 6] A.b78 (by kernel_rfl) rfl
def A.b88:=A.q Tryz.f88
def A.k88:=@A.kk 88 9 [.cell 3 (some 4)] A.b88 (by kernel_rfl) rfl
def Yba(l:List (List V))(p:Nat->Bool)(hs:Sn 4 h N v l)(hl:l.length<1152921504606846976)(hf:∀(j:Nat) (x:List V),l[j]?=some x->∀h' n',ab h N h' n'->fW A.C f [.agg x] h' n' (fun u _ _=>u=.bool (p j))):Fn A.C 121 [v,f] h N (fun u _ _=>u=.bool (decide (0<=pL p 0 l.length))):=by intro w;rw[aP,A.k121 (by simp)];simp[A.b121];refine au (Ys2 l p hs hl hf) ?_;rintro v h2 n2 k2 rfl;simp[ay,k2]
def Zrx:decide (0<=pL (fun j=>vV (l[j]?.getD 0)) 0 l.length)=uE l:=by
 rw[Bool.eq_iff_iff,decide_eq_true_eq,Zvk];unfold uE;rw[List.any_eq_true];constructor
 ·rintro⟨j,_,h2,h3⟩;obtain⟨q,hq⟩:=bs (l:=l) (k:=j) (by omega);rw[hq]at h3;exact⟨q,cP hq,h3⟩
 rintro⟨q,hq,h3⟩;obtain⟨j,hj⟩:=nP hq;exact⟨j,wX _,by have:=fv hj;omega,by rw[hj];exact h3⟩
def Zza{k:Nat}(hu:iM h N u l)(hP:iT h N)(hl:l.length<1000000000)(hq:∀q∈l,Qb k q)(hk:k<=400000000):Fn A.C 71 [u] h N (fun x h' n'=>(uE l=true/\x=.aU [.aa,.int .i64 4])\/(uE l=false/\∃v,x=.aU [v,.int .i64 0]/\By h' n' v l)):=by
 intro w;obtain⟨cs,s1,s2,s3⟩:=id hu;have key:=Yba (f:=.func 80 [] []) cs (fun j=>vV (l[j]?.getD 0)) s1 (by omega) (fun j x hx h' n' gW=>by
  obtain⟨q,Iv⟩:=bs (l:=l) (k:=j) (by have:=fv hx;omega)
  obtain⟨c,g1,g2⟩:=s3 j q Iv
  rw[hx]at g1
  obtain rfl:x=c:=by simpa using g1
  simp only[Iv,iL]
  exact YO (g2.ad gW).fc (hP.ad gW) (hq q (cP Iv)) (by omega));rw[s2,Zrx]at key;rw[aP,A.k71 (by simp)];simp[A.b71];refine au key ?_;rintro _ h2 n2 k2 rfl;cases hb:uE l with
 |true=> simp[ay];exact k2
 |false=> simp[];refine au (Ykb (k0:=k) (hu.ad k2) (hP.ad k2) hl hq hk) ?_;rintro v h3 n3 k3 t1;simp[ay];exact⟨k2.trans k3,t1⟩
def Yp6{k:Nat}(hu:iM h N u l)(hP:iT h N)(hl:l.length<1000000000)(hq:∀q∈l,Qb k q)(hk:k<=400000000):Fn A.C 71 [u] h N (fun x h' n'=>(uE l=true/\x=.aU [.aa,.int .i64 4])\/(uE l=false/\∃v,x=.aU [v,.int .i64 0]/\Tx h' n' v l)):=fun w=>(Zza hu hP hl hq hk w).mono fun x st ⟨a,b,c⟩=>⟨a,b,c.imp id fun ⟨e,v,r,t⟩=>⟨e,v,r,t.1⟩⟩
def iF(N0:Nat)(h:T O)(N:Nat)(v:V)(m:List (List Rat)):Prop:=∃us:List V,Own 1 90 N0 h N v (us.map fun y=>[y])/\(us=[]->v=.aa)/\us.length=m.length/\∀(j:Nat) (l:List Rat),m[j]?=some l->∃u,us[j]?=some u/\dR h N u l
def iF.nil{N0:Nat}:iF N0 h N .aa []:=⟨[],Own.nil,fun _=>rfl,rfl,fun j l hl=>by simp at hl⟩
def iF.ad{N0:Nat}{h':T O}{N':Nat}(s:iF N0 h N v m)(k:ab h N h' N'):iF N0 h' N' v m:=by obtain⟨us,h1,h2,h3,h4⟩:=s;refine⟨us,h1.ad k,h2,h3,fun j l hl=>?_⟩;obtain⟨u,g1,g2⟩:=h4 j l hl;exact⟨u,g1,g2.ad k⟩
def iF.AA{N0:Nat}(s:iF N0 h N v m):fj h N v m:=by obtain⟨us,h1,h2,h3,h4⟩:=s;exact⟨us,Sn.one.1 h1.sn,h3,h4⟩
def iF.push{N0:Nat}(s:iF N0 h N v m)(hu:dR h N u l)(hN:N0<=N)(hx:fO ⟨h,N,w⟩ 1 x=some (1,[u]))(hm:m.length<100000):
  ∃v' h' w',mR ⟨h,N,w⟩ 1 24 90 v x=some (v',⟨h',N+1,w'⟩)/\az N0 w'=az N0 w/\ab h N0 h' (N+1)/\iF N0 h' (N+1) v' (m++[l]):=by
 obtain⟨us,h1,h2,h3,h4⟩:=s;obtain⟨v',h',w',f1,f2,f3,f4,fD,f5⟩:=D9 (Y:=NW) (x:=[u]) (u:=x) (bytes:=24) (w:=w) h1 (fun h0=>h2 (List.map_eq_nil_iff.1 h0)) (fun c hc y hy=>by
  obtain⟨z,hz,rfl⟩:=bO.1 hc
  obtain rfl:y=z:=by simpa using hy
  obtain⟨j,hj⟩:=nP hz
  obtain⟨r,hr⟩:=bs (l:=m) (k:=j) (by have:=fv hj;omega)
  obtain⟨u',g1,g2⟩:=h4 j r hr
  rw[hj]at g1
  obtain rfl:y=u':=by simpa using g1
  exact g2.1.form.2.2) hN (by decide) rfl hx (by rw[dL];omega);refine⟨v',h',w',f1,f2,f3,us++[u],by simpa using f5,by simp,by simp[h3],fun j r hr=>?_⟩;by_cases hj:j<m.length
 ·rw[k_ hj]at hr;obtain⟨u',g1,g2⟩:=h4 j r hr;exact⟨u',by rw[k_ (by omega)];exact g1,g2.bE f4 fD (by simp)⟩
 rw[pC (by omega)]at hr;cases hd:j-m.length with
 |zero=> rw[hd]at hr;simp at hr;subst hr;exact⟨u,by rw[pC (by omega),h3,hd];rfl,hu.bE f4 fD (by simp)⟩
 |succ d=>rw[hd]at hr;simp at hr
def TH{n:Nat}(hu:fj h N u m)(jR:m.length<100000)(hm:∀r∈m,r.length=n)(hn:n<1000):Fn A.C 101 [u,.int .i64 n] h N (fun x h' n'=>iF N h' n' x (dm m n)):=by
 intro w;rw[aP,A.k101 (by simp)];simp[A.b101];refine cB [(5,6),(8,17)] (fun e r st=>e=.exit 0/\az N st.w=[]/\ab h N st.h st.n/\∃x,r.get 5=some x/\iF N st.h st.n x (dm m n)) (fun i r st=>az N st.w=[]/\ab h N st.h st.n/\∃k x,k+i=n/\r.get 8=some (.int .i64 k)/\r.get 5=some x/\iF N st.h st.n x (dm m k)) n ?_ ?_ ?_
 ·exact⟨by simp,ab.refl,0,.aa,by omega,by simp,by simp,iF.nil⟩
 ·rintro i r ⟨H,n1,W⟩ hr hf ⟨hW,hK,k,x,hk,h8,h5,ho⟩;simp only at hW hK ho;rw[bG];cases i with
  |zero=>
   obtain rfl:k=n:=by omega
   simp[A.uA,hr,hf,h8,h5,hW,hK];exact ho
  |succ i=>
   have aD:k<n:=by omega
   have bV:(k:Int)<(n:Int):=by omega
   simp[A.uA,hr,h8,h5,bV];refine au (Ybb (hu.ad hK) jR hm aD) ?_;rintro y H2 n2 k2 hy;have lf:=k2.le;have iy:=hK.le;obtain⟨y1,y2,y3⟩:=hy.1.form;have e4:ae [V.aa] 0 [y]=[y]:=rfl;have kN:ab H2 n2 (H2.set n2 (.cells [y] 90 true)) (n2+1):=ab.refl.new _;obtain⟨v',h',w',f1,f2,f3,f5⟩:=(((ho.ad k2).ad kN).push (x:=.slice n2 0 1 (some 1) 1) (l:=qL m k) (w:=W) (hy.ad kN) (by omega) (by simp[fO,St.row,aO]) (by simp[dm];omega));have e7:dm m k++[qL m k]=dm m (k+1):=by simp[dm,List.range_succ]
   rw[e7]at f5;have b1:V.one y=true:=y1;simp(disch:=first|(simp;done)|omega|rfl) [-V.cells, -V.one,hf,h8,b1,y2,e4,f1];exact⟨i,by omega,by rw[f2];exact hW,((hK.trans k2).trans kN).then f3,k+1,by omega,by simp,f5⟩
 rintro _ r ⟨H,n1,W⟩ hr ⟨rfl,hW,hK,x,h5,ho⟩;simp only at hW hK ho;simp[h5,ay,hW,hK];exact ho
variable {N j k n:Nat} {a b:List Rat} {h:T O} {u v:V}
def wW(F:Rat->Rat->Rat)(a b:List Rat)(n:Nat):List Rat:=(List.range n).map fun k=>F (a[k]?.getD 0) (b[k]?.getD 0)
def Tn{F:Rat->Rat->Rat}(h:j<n):(wW F a b n)[j]?=some (F (a[j]?.getD 0) (b[j]?.getD 0)):=by simp[wW,h]
def IJ{F:Rat->Rat->Rat}:(wW F a b n).length=n:=by simp[wW]
def OH:(yD a b n).length=n:=by simp[yD]
structure JnI (F:Rat->Rat->Rat) (h:T O) (N:Nat) (a b:List Rat) (m:Nat) (r:T V) (st:St):Prop where
 w:az N st.w=[]
 ad:ab h N st.h st.n
 ex:∃(k:Nat) (cs:List (List V)),k+m=a.length/\r.get 14=some (.int .i64 k)/\N<st.n/\st.h.get N=some (.cells (cs.flatten++du zF m) 101 true)/\cs.length=k/\∀(j:Nat) (q:Rat),j<k->(wW F a b a.length)[j]?=some q->∃c,cs[j]?=some c/\fI st.h st.n c q
def ZO(F:Rat->Rat->Rat)(hu:iM h N u a)(hv:iM h N v b)(eF:a.length<=b.length)(hF:∀x∈a,∀y∈b,∀(h':T O) (n':Nat) (ca cb:List V),ab h N h' n'->fI h' n' ca x->fI h' n' cb y->fW A.C f [.agg ca,.agg cb] h' n' (fun z h2 n2=>Fc h2 n2 z (F x y)))(hl:a.length<1000000000):Fn A.C 78 [u,v,f] h N (fun x h' n'=>dR h' n' x (wW F a b a.length)):=by
 intro w;have l1:=hu.len;have l2:=hv.len;have c1:(64:Int)*(a.length:Int)<=140737488355328:=by omega
 have c2:(a.length:Int)<4611686018427387904:=by omega
 have kB:ab h N (h.set N (.cells (du zF a.length) 101 true)) (N+1):=ab.refl.new _;rw[aP,A.k78 (by simp)];simp[A.b78,l1,c1,c2];refine cB [(8,8),(14,30)] (fun e r st=>e=.exit 0/\JnI F h N a b 0 r st) (JnI F h N a b) a.length ?_ ?_ ?_
 ·exact⟨by simp,kB,0,[],by omega,by simp,by show N<N+1;omega,by rw[T.ag,av rfl];rfl,rfl,fun j q hj=>by omega⟩
 ·rintro m r ⟨H,n1,W⟩ hr hf ⟨hW,hK,t,cs,ht,ri,lE,hM,cy,kZ⟩;simp only at hW hK hM lE kZ;rw[bG];cases m with
  |zero=>
   obtain rfl:t=a.length:=by omega
   simp[A.yx,hr,hf,ri];exact⟨hW,hK,a.length,cs,by omega,by simp[ri],lE,hM,cy,kZ⟩
  |succ m=>
   have aD:t<a.length:=by omega
   have bV:(t:Int)<(a.length:Int):=by omega
   have nt:t<b.length:=by omega
   have CE:(t:Int)<(b.length:Int):=by omega
   obtain⟨x,hx⟩:=bs aD;obtain⟨y,hy⟩:=bs nt;obtain⟨i,o,cc,e,rw,ca,q1,q2,q3,q4,q5⟩:=(hu.ad hK).at hx;obtain⟨i',o',cc',e',sO,cb,p1,p2,p3,p4,p5⟩:=(hv.ad hK).at hy;have hi:i<N:=by obtain⟨i2,_,_,_,_,_,z1,z2,_⟩:=hu.at hx;rw[q1]at z1;simp at z1;omega
   have kl:i'<N:=by obtain⟨i2,_,_,_,_,_,z1,z2,_⟩:=hv.at hy;rw[p1]at z1;simp at z1;omega
   simp[A.yx,hr,ri,l1,l2,bV,CE,q1,q2,q3,q4,p1,p2,p3,p4];refine Bo (hF x (cP hx) y (cP hy) _ _ _ _ hK q5 p5) ?_;rintro _ H2 n2 k2 eI;obtain⟨c,rfl,hc⟩:=eI.c;have lf:=k2.le;have iy:=hK.le;have rz:=(k2.get N lE).trans hM;have KK:∀(j:Nat) (q:Rat),j<cs.length->(wW F a b a.length)[j]?=some q->∃c,cs[j]?=some c/\fI H2 n2 c q:=fun j q hj hq=>by obtain⟨c,g1,g2⟩:=kZ j q (by omega) hq;exact⟨c,g1,g2.ad k2⟩
   obtain⟨f1,f2,f3⟩:=OC (l:=wW F a b a.length) (by rw[IJ];omega) KK;have lG:=wQ f1;obtain⟨e1,e2⟩:=hc.len;have iw:ae (cs.flatten++du zF (m+1)) (t*4) c=(cs++[c]).flatten++du zF m:=by rw[Gh,NN (n:=4) (by rw[lG,cy]) rfl e1,LN,uJ]
   have hb4:t*4+4<=(cs.flatten++du zF (m+1)).length:=by rw[iU,lG,Z5];omega
   have jT:(V.agg c).cells=c:=rfl;have Gi:tc (cs.flatten++du zF (m+1)):=f2.app TC;have qq:((cs++[c]).flatten++du zF m).length=(cs.flatten++du zF (m+1)).length:=by rw[Gh,LN];simp[e1,zF];omega
   generalize cs.flatten++du zF (m+1)=X at*;obtain⟨Y,hY⟩:∃Y,(cs++[c]).flatten++du zF m=Y:=⟨_,rfl⟩;rw[hY]at iw qq;have d1:N<n2:=by omega
   have d2:¬i=N:=by omega
   have d3:¬i'=N:=by omega
   simp(disch:=first|(simp;done)|omega|rfl) [-V.cells, -V.one,hf,ri,rz,bM,jT,e1,e2,hb4,iw];have jC:¬N<N:=by omega
   refine⟨m,by omega,⟨by simp[d1,az,hW],(hK.trans k2).set (aN N),t+1,cs++[c],by omega,by simp,d1,by show T.get _ N=_;rw[T.ag,av rfl,hY],by simp[cy],fun j q' hj nQ=>?_⟩⟩;by_cases qW:j<t
   ·obtain⟨c',g1,g2⟩:=kZ j q' qW nQ;exact⟨c',by rw[k_ (by omega)];exact g1,(g2.ad k2).aG rz Gi qq⟩
   obtain rfl:j=t:=by omega
   rw[Tn aD,hx,hy]at nQ;simp only[iL,ar]at nQ;subst nQ;exact⟨c,by rw[pC (by omega),cy];simp,hc.aG rz Gi qq⟩
 rintro _ r ⟨H,n1,W⟩ hr ⟨rfl,hW,hK,t,cs,ht,ri,lE,hM,cy,kZ⟩;simp only at hW hK hM lE kZ;obtain rfl:t=a.length:=by omega
 simp[hr,ay,hW,hK];have hz:du zF 0=[]:=by simp[du]
 obtain⟨f1,_,_⟩:=OC (l:=wW F a b a.length) (by rw[IJ];omega) (fun j q hj hq=>kZ j q (by omega) hq);have lG:=wQ f1;rw[hz,zO]at hM;refine⟨⟨cs,.inr ⟨N,0,some a.length,cs.flatten,_,true,by rw[cy],lE,hM,fun j x hx=>by rw[xd];exact LQ f1 hx,by omega,fun k hk=>by simp at hk;omega⟩,by rw[IJ];exact cy,fun j q hq=>kZ j q (by have:=fv hq;rw[IJ]at this;omega) hq⟩,fun i hi=>?_⟩;simp[bI]at hi;subst hi;exact⟨_,_,hM⟩
def YD(hu:iM h N u a)(hv:iM h N v b)(eF:a.length<=b.length)(ha:∀q∈a,Qb j q)(hb:∀q∈b,Qb k q)(hj:j<=400000000)(hk:k<=400000000)(hl:a.length<1000000000):Fn A.C 78 [u,v,.func 79 [] []] h N (fun x h' n'=>dR h' n' x (yD a b a.length)):=
 ZO (fun x y=>x*y) hu hv eF (fun x hx y hy h' n' ca cb _ q5 p5=>by
  have Bt:=ha x hx
  have j_:=hb y hy
  have w1:=wE Bt.1
  have w2:=wE (z:=(x.den:Int)) (k:=j) (by rw[dT];exact Bt.2)
  have w3:=wE j_.1
  have w4:=wE (z:=(y.den:Int)) (k:=k) (by rw[dT];exact j_.2)
  exact(VA q5.fc p5.fc (by omega) (by omega) (by omega) (by omega))) hl
def Lj(ha:∀q∈a,Qb j q)(hb:∀q∈b,Qb k q)(hj:1<=j)(hk:1<=k):∀q∈yD a b n,Qb (j+k) q:=fun q hq=>by
 unfold yD at hq
 obtain⟨i,_,rfl⟩:=bO.1 hq
 exact(rN ha hj i).mul (rN hb hk i)
def Yrq{p:Nat}{e:TypeId}(hp:h.get p=some (.cells [v] e rw))(jA:p<N)(hu:iM h N u a)(hv:iM h N v b)(eF:a.length=b.length)(ha:∀q∈a,Qb j q)(hb:∀q∈b,Qb k q)(hj:1<=j)(hk:1<=k)(hl:a.length*(2*j+k+1)+2*j+k+1<=400000000):fW A.C (.func 88 [] [.ptr p 0]) [u] h N (fun x h' n'=>Fc h' n' x (ed (iG a b) a)):=by
 intro w;have kB:ab h N (h.set N (.cells zF 101 true)) (N+1):=ab.refl.new _;have d1:¬p=N:=by omega
 have uX:a.length<=400000000:=by have:=TS a.length (show 0<2*j+k+1 by omega);omega
 have ew:iG a b=yD a b a.length:=by rw[eF];rfl
 rw[ew];rw[aP,A.k88 (by simp)];simp[A.b88,hp,d1];refine au (YD (hu.ad kB) (hv.ad kB) (by omega) ha hb (by omega) (by omega) (by omega)) ?_;rintro y h0 n0 k0 hy;simp[];refine au (Yid hy.1 ((hu.ad kB).ad k0) (by rw[OH];omega) (Lj ha hb hj hk) ha (by omega) hj (by rw[OH,show j+k+j+1=2*j+k+1 by omega];omega)) ?_;rintro _ h1 n1 k1 hz;obtain⟨c,rfl,hc⟩:=hz.c;have le0:=k0.le;have yJ:=k1.le;have g0:=k0.get N (by omega);rw[T.ag,av rfl]at g0;have g1:=(k1.get N (by omega)).trans g0;obtain⟨e1,e2⟩:=hc.len;have jT:(V.agg c).cells=c:=rfl;have e4:ae zF 0 c=c:=by unfold ae;rw[e1];simp[zF]
 have A5:tc zF:=by intro x hx m;simp[zF]at hx;rcases hx with rfl|rfl|rfl|rfl<;>simp
 have kk:=((kB.trans k0).trans k1).set (h:=h) (n:=N) (i:=N) (o:=.cells c 101 true) (aN N);have nv:=(hc.aG (e1:=101) (w1:=true) (c1:=c) g1 A5 (by rw[e1];rfl)).fc;have s0:aO c 0 4=some c:=by unfold aO;rw[e1];simp;exact gm (by omega)
 have aD:N<n1:=by omega
 unfold zF at e4;simp[-V.cells, -V.one,jT,e1,e2,e4,s0,g1,bM,ay];exact⟨kk,nv⟩
variable {l:List aH} {m:List (List aH)} {n:Nat}
def A.b16:=A.q Tryz.f16
def A.k16:=@A.kk 16 22 [.tmp 4,.tmp 5] A.b16 (by kernel_rfl) rfl
def bj(l:List aH):List Rat:=l.map e_
def cF(m:List (List aH)):List (List Rat):=m.map bj
def wU:∀{l:List Int},cM l=0->∀x∈l,x=0
 |[],_,x,hx=>by simp at hx
 |y::l,h,x,hx=>by
  simp only[cM]at h
  split at h
  ·rename_i h0
   rcases iP.1 hx with rfl|hx
   ·exact h0
   ·exact wU h x hx
  ·rename_i h0;exact absurd h h0
def kh(l:List aH):Prop:=∀s∈l,aR s=0/\s.length<=24
def kh.zQ(h:kh l):(bj l).map aI=l:=by
 unfold bj;rw[List.map_map];conv=>rhs;rw[<-List.map_id l]
 apply Ax;intro s hs;exact(Gd (h s hs).1).1
def kh.qb(h:kh l):∀q∈bj l,Qb 100 q:=fun q hq=>by
 obtain⟨s,hs,rfl⟩:=bO.1 hq
 exact Ypf (h s hs).1 (h s hs).2
def kh.sl(hs:Sl h N v (strs l))(hl:kh l):Tx h N v (bj l):=by unfold Tx tx;rw[hl.zQ];exact hs
def fE.rat(hs:fE h N v m)(hm:∀r∈m,kh r):uF h N v (cF m):=by
 apply fE.Z6;have:((cF m).map fun l=>l.map aI)=m:=by
  unfold cF;rw[List.map_map];conv=>rhs;rw[<-List.map_id m]
  apply Ax;intro r hr;exact(hm r hr).zQ
 rw[this];exact hs
def Ybd(h:dM l n=0)(hs:ef 6 l=true):l.length=n/\kh l:=by
 unfold dM at h;split at h
 ·rename_i hn;refine⟨hn,fun s kj=>?_⟩;have h1:=wU h _ (bO.2 ⟨s,kj,rfl⟩);have h2:l.all pO=true:=by unfold ef at hs;rw[gV]at hs;exact hs.2
  have h3:=kJ.1 h2 s kj;simp[pO]at h3;exact⟨by omega,h3⟩
 exact absurd h (by decide)
def Zuc(h:ef n l=true):qY l.length n=true:=by unfold ef at h;rw[gV]at h;exact h.1
structure C6 (m:List (List aH)) (n:Nat):Prop where
 pos:0<m.length
 le:m.length<=6
 n1:0<n
 n6:n<=6
 row:∀r∈m,r.length=n/\kh r
def C6.rat(h:C6 m n):∀r∈cF m,r.length=n/\∀q∈r,Qb 100 q:=fun r hr=>by
 obtain⟨s,hs,rfl⟩:=bO.1 hr
 exact⟨by simp[bj,(h.row s hs).1],(h.row s hs).2.qb⟩
def Zq8(h:pH 6 6 m=true):qY m.length 6=true/\∀r∈m,ef 6 r=true:=by unfold pH at h;rw[gV,kJ]at h;exact h
def Yw3(h:0<m.length):∃r∈m,bg m=r.length:=by obtain⟨r,hr⟩:=bs h;exact⟨r,cP hr,by simp[bg,hr]⟩
def Zpl(h:qY k 6=true)(h2:k<=64):k<=6:=by simp[qY]at h;omega
def F5(h:ef 6 l=true):l.length<100000/\∀s∈l,s.length<=100000:=by refine⟨by have:=Yal (Zuc h) (by omega);omega,fun s hs=>?_⟩;unfold ef at h;rw[gV]at h;have h3:=kJ.1 h.2 s hs;simp[pO]at h3;omega
def Tc(h:pH 6 6 m=true):m.length<100000/\∀r∈m,r.length<100000/\∀s∈r,s.length<=100000:=by obtain⟨s1,s2⟩:=Zq8 h;exact⟨by have:=Yal s1 (by omega);omega,fun r hr=>F5 (s2 r hr)⟩
def YW(e:Int)(l:List Rat)(x:V)(h:T O)(n:Nat):Prop:=(e≠0/\x=.aU [.aa,.int .i64 e])\/(e=0/\((uE l=true/\x=.aU [.aa,.int .i64 4])\/(uE l=false/\∃v,x=.aU [v,.int .i64 0]/\Tx h n v l)))
def YT(m:List (List aH))(l:List aH):Int:=cM [gX m 64 64,dM l (bg m)]
def D6(ha:∀q∈a,Qb j q)(hb:∀q∈b,Qb k q)(hj:1<=j)(hk:1<=k)(hn:a.length<=n):Qb (n*(j+k+1)+1) (ed a b):=(VC ha hb hj hk a.length).mono (by have:=kg (j+k+1) hn;omega)
def YU{a b:V}{x:Int}{P:V->Int->Nat->Prop}(h0:P a x 0)(h1:x=0->P b y 1):∀(j:Nat) (f:V) (e:Int),[a,b][j]?=some f->[x,y][j]?=some e->(∀(i:Nat) (z:Int),i<j->[x,y][i]?=some z->z=0)->P f e j
 |0,f,e,hf,he,_=>by simp at hf he;subst hf he;exact h0
 |1,f,e,hf,he,hz=>by simp at hf he;subst hf he;exact h1 (hz 0 x (by omega) rfl)
 |j+2,f,e,hf,_,_=>by simp at hf
def A.b18:=A.q Tryz.f18
def A.k18:=@A.kk 18 25 [.tmp 4,.tmp 5] A.b18 (by kernel_rfl) rfl
def Zz3{a b c:V}{x:Int}{P:V->Int->Prop}(h0:P a x)(h1:x=0->P b y)(h2:x=0->y=0->P c z):∀(j:Nat) (f:V) (e:Int),[a,b,c][j]?=some f->[x,y,z][j]?=some e->(∀(i:Nat) (t:Int),i<j->[x,y,z][i]?=some t->t=0)->P f e
 |0,f,e,hf,he,_=>by simp at hf he;subst hf he;exact h0
 |1,f,e,hf,he,hz=>by simp at hf he;subst hf he;exact h1 (hz 0 x (by omega) rfl)
 |2,f,e,hf,he,hz=>by simp at hf he;subst hf he;exact h2 (hz 0 x (by omega) rfl) (hz 1 y (by omega) rfl)
 |j+3,f,e,hf,_,_=>by simp at hf
def Xas(m:List (List aH))(l:List aH):Int:=cM [gX m 64 64,if l.length=bg m then 0 else 2,cM (l.map (jm 0))]
def Yt6(h:cM (l.map (jm z))=0)(hs:ef 6 l=true):kh l:=fun s kj=>by
 have h1:=wU h _ (bO.2 ⟨s,kj,rfl⟩)
 unfold ef at hs
 rw[gV]at hs
 have h3:=kJ.1 hs.2 s kj
 simp[pO]at h3
 refine⟨?_,h3⟩
 unfold jm at h1
 split at h1
 ·assumption
 ·omega
def TP(e:Int)(l:List Rat)(v:V)(c:Int)(h:T O)(n:Nat):Prop:=(e≠0/\v=.aa/\c=e)\/(e=0/\((uE l=true/\v=.aa/\c=4)\/(uE l=false/\c=0/\Tx h n v l)))
variable {N:Nat} {h:T O}
def A.b168:=A.q Tryz.f168
def A.k168:=@A.kk 168 9 [.cell 2 (some 4)] A.b168 (by kernel_rfl) rfl
def A.b103:=A.q Tryz.f103
def A.k103:=@A.kk 103 9 [.cell 4 (some 4)] A.b103 (by kernel_rfl) rfl
def Ys5{q:Rat}(hx:Fc h N x q)(l1:wl q.num<1000000000):Fn A.C 168 [x] h N (fun v h' n'=>Fc h' n' v (-q)):=by
 intro w;rw[aP,A.k168 (by simp)];obtain⟨n1,u1,n2,u2,rfl,s1,s2⟩:=hx;have o1:=eh s1;have o2:=eh s2;unfold V.one at o1 o2;have kB:ab h N ((h.set N (.cells [.int .i64 n1,u1,.int .i64 n2,u2] 101 true)).set (N+1) (.cells [.int .i64 0,.aa,.int .i64 0,.aa] 101 true)) (N+2):=aQ (aQ ab.refl _) _;simp[A.b168,aS,aO,o1,o2];generalize mG:(h.set N (.cells [.int .i64 n1,u1,.int .i64 n2,u2] 101 true)).set (N+1) (.cells [.int .i64 0,.aa,.int .i64 0,.aa] 101 true)=hB at*;have b1:hB.get N=some (.cells [.int .i64 n1,u1,.int .i64 n2,u2] 101 true):=by rw[<-mG];simp
 have b3:hB.get (N+1)=some (.cells [.int .i64 0,.aa,.int .i64 0,.aa] 101 true):=by rw[<-mG];simp
 refine au (M7 (s1.ad kB) (by omega)) ?_;rintro v5 h1 m1 k1 q1;obtain⟨n3,u3,rfl⟩:∃n3 u3,v5=.agg [.int .i64 n3,u3]:=by rcases q1 with⟨rfl,_⟩|⟨_,_,_,_,rfl,_⟩<;>exact⟨_,_,rfl⟩
 have o3:=eh q1;unfold V.one at o3;have gT:=k1.le;have f1:=(k1.get N (by omega)).trans b1;have f3:=(k1.get (N+1) (by omega)).trans b3;have e1:N<m1:=by omega
 have e2:N+1<m1:=by omega
 simp[f1,f3,e1,e2,aS,aO,ae,bM,o2,o3,c9.c_,ay];have kk:=kB.trans k1;exact⟨kk.set (by omega),n3,u3,n2,u2,rfl,by rw[Rat.neg_num];exact q1.aG (i:=N+1) f3 qp rfl,by rw[Rat.neg_den];exact((s2.ad kB).ad k1).aG (i:=N+1) f3 qp rfl⟩
def Yhz{y:V}{p q:Rat}(hx:Fc h N x p)(hy:Fc h N y q)(l1:wl p.num<1000000000)(l2:wl (p.den:Nat)<1000000000)(l3:wl q.num<1000000000)(l4:wl (q.den:Nat)<1000000000):Fn A.C 103 [x,y] h N (fun v h' n'=>Fc h' n' v (p-q)):=by
 intro w;rw[aP,A.k103 (by simp)];have jP:=hx;have zr:=hy;obtain⟨n1,u1,n2,u2,rfl,s1,s2⟩:=hx;obtain⟨n3,u3,n4,u4,rfl,s3,s4⟩:=hy;have o1:=eh s1;have o2:=eh s2;have o3:=eh s3;have o4:=eh s4;unfold V.one at o1 o2 o3 o4;have kB:ab h N (((h.set N (.cells [.int .i64 n1,u1,.int .i64 n2,u2] 101 true)).set (N+1) (.cells [.int .i64 n3,u3,.int .i64 n4,u4] 101 true)).set (N+2) (.cells [.int .i64 0,.aa,.int .i64 0,.aa] 101 true)) (N+3):=aQ (aQ (aQ ab.refl _) _) _;simp[A.b103,aS,aO,o1,o2,o3,o4];generalize mG:((h.set N (.cells [.int .i64 n1,u1,.int .i64 n2,u2] 101 true)).set (N+1) (.cells [.int .i64 n3,u3,.int .i64 n4,u4] 101 true)).set (N+2) (.cells [.int .i64 0,.aa,.int .i64 0,.aa] 101 true)=hB at*;have b1:hB.get N=some (.cells [.int .i64 n1,u1,.int .i64 n2,u2] 101 true):=by rw[<-mG];simp
 have b2:hB.get (N+1)=some (.cells [.int .i64 n3,u3,.int .i64 n4,u4] 101 true):=by rw[<-mG];simp
 have b3:hB.get (N+2)=some (.cells [.int .i64 0,.aa,.int .i64 0,.aa] 101 true):=by rw[<-mG];simp
 refine au (Ys5 (zr.ad kB) l3) ?_;rintro v5 h1 m1 k1 q1;have gT:=k1.le;have f1:=(k1.get N (by omega)).trans b1;have f2:=(k1.get (N+1) (by omega)).trans b2;have f3:=(k1.get (N+2) (by omega)).trans b3;have e1:N<m1:=by omega
 have e2:N+1<m1:=by omega
 simp;refine au (Y6 ((jP.ad kB).ad k1) q1 l1 l2 (by rw[Rat.neg_num,QS];exact l3) (by rw[Rat.neg_den];exact l4)) ?_;rintro v7 h3 m3 k3 hv;rw[<-Rat.sub_eq_add_neg]at hv;obtain⟨n5,u5,n6,u6,rfl,t1,t2⟩:=hv;have o5:=eh t1;have o6:=eh t2;unfold V.one at o5 o6;have jE:=k3.le;have f5:=(k3.get (N+2) (by omega)).trans f3;have e3:N+2<m3:=by omega
 simp[f5,e3,aS,aO,ae,bM,o5,o6,c9.c_,ay];have kk:=(kB.trans k1).trans k3;exact⟨kk.set (by omega),n5,u5,n6,u6,rfl,t1.aG (i:=N+2) f5 qp rfl,t2.aG (i:=N+2) f5 qp rfl⟩
def Qb.Bk{q:Rat}(h:Qb k q):wl q.num<=k/\wl (q.den:Nat)<=k:=⟨wE h.1,wE (z:=(q.den:Int)) (k:=k) (by rw[dT];exact h.2)⟩
def xg(a b:List Rat):List Rat:=wW (fun x y=>x-y) a b a.length
def Ymd(hu:iM h N u a)(hv:iM h N v b)(eF:a.length<=b.length)(ha:∀q∈a,Qb j q)(hb:∀q∈b,Qb k q)(hj:j<=400000000)(hk:k<=400000000)(hl:a.length<1000000000):Fn A.C 78 [u,v,.func 103 [] []] h N (fun x h' n'=>dR h' n' x (xg a b)):=
 ZO (fun x y=>x-y) hu hv eF (fun x hx y hy h' n' ca cb _ q5 p5=>by
  have w1:=(ha x hx).Bk
  have w3:=(hb y hy).Bk
  exact(Yhz q5.fc p5.fc (by omega) (by omega) (by omega) (by omega))) hl
variable {N:Nat} {ep:TypeId} {h:T O} {l:List aH} {m:List (List aH)} {u v:V} {wp wq:Bool}
def A.b95:=A.q Tryz.f95
def A.k95:=@A.kk 95 6 [.tmp 2] A.b95 (by kernel_rfl) rfl
def A.b137:=A.q Tryz.f137
def A.k137:=@A.kk 137 12 [.tmp 4] A.b137 (by kernel_rfl) rfl
def A.b135:=A.q Tryz.f135
def A.k135:=@A.kk 135 4 [.tmp 1] A.b135 (by kernel_rfl) rfl
def A.b136:=A.q Tryz.f136
def A.k136:=@A.kk 136 7 [.tmp 2] A.b136 (by kernel_rfl) rfl
def A.b53:=A.q Tryz.f53
def A.k53:=@A.kk 53 9 [.tmp 4] A.b53 (by kernel_rfl) rfl
def A.b73:=A.q Tryz.f73
def A.k73:=@A.kk 73 6 [.tmp 2] A.b73 (by kernel_rfl) rfl
def A.b74:=A.q Tryz.f74
def A.k74:=@A.kk 74 7 [.tmp 2] A.b74 (by kernel_rfl) rfl
def A.b75:=A.q Tryz.f75
def A.k75:=@A.kk 75 9 [.tmp 2] A.b75 (by kernel_rfl) rfl
def Yk6{l:List (List aH)}(hs:fE h N v l)(hl:l.length<100000)(hx:∀x∈l,x.length<100000/\∀s∈x,s.length<=100000):Fn A.C 95 [v] h N (fun u _ _=>u=.int .i64 (gX l 64 16)):=by intro w;rw[aP,A.k95 (by simp)];simp[A.b95,ae];refine au (Zzu (a:=64) (b:=16) hs hl hx) ?_;rintro _ H2 n2 k2 rfl;simp[ay];exact k2
def Ynl(h:gX m 64 16=0)(hs:pH 6 6 m=true):C6 m (bg m):=by
 obtain⟨s1,s2⟩:=Zq8 hs;unfold gX at h;split at h
 ·exact absurd h (by decide)
 split at h
 ·exact absurd h (by decide)
 rename_i h1 h2;have hp:0<m.length:=by omega
 obtain⟨r0,gI,e0⟩:=Yw3 hp;refine⟨hp,Zpl s1 (by omega),by omega,?_,fun r hr=>Ybd (wU h _ (bO.2 ⟨r,hr,rfl⟩)) (s2 r hr)⟩;rw[e0];exact Zpl (Zuc (s2 r0 gI)) (by omega)
def Ywc(ht:Sl h N v (strs l))(jX:l.length<100000)(wh:∀s∈l,s.length<=100000):Fn A.C 137 [v,.int .i64 n] h N (fun z _ _=>z=.int .i64 (sW l n 1)):=by
 intro w;have ll:=ht.len;rw[pK]at ll;have sg:∀w,A.C.call (.func 61 [] []) [.int .i64 1] ⟨h,N,w⟩=some (.func 139 [] [.ptr N 0],⟨h.set N (.cells [.int .i64 1] 3 true),N+1,w⟩):=fun w=>by apply Call.eq;rw[aP,A.k61 (by simp)];simp[A.b61]
 have e1:((l.length:Int)=(n:Int))=(l.length=n):=by apply propext;omega
 rw[aP,A.k137 (by simp)];by_cases c:l.length=n
 ·subst c;simp[A.b137,ll,sg];have k1:ab h N (h.set N (.cells [.int .i64 1] 3 true)) (N+1):=ab.refl.new _;refine au (Zyi (jm 1) (ht.ad k1) jX fun s hs h' n' hk=>Zmq (z:=1) (e:=3) (rw:=true) (by rw[hk.get N (by omega)];simp) (by have:=hk.le;omega) (wh s hs)) ?_;rintro _ H2 n2 k2 rfl;simp[ay,sW];exact k1.trans k2
 simp[A.b137,ll,e1,c,ay,sW];exact ab.refl
def Ytx{q:Nat}{l:List aH}{eq:TypeId}(q8:h.get q=some (.cells [u] eq wq))(xm:q<N)(hs:fE h N u m)(jR:m.length<100000)(dq:∀x∈m,x.length<100000/\∀s∈x,s.length<=100000):fW A.C (.func 135 [] [.ptr q 0]) [] h N (fun z _ _=>z=.int .i64 (gX m 64 16)):=by intro w;rw[aP,A.k135 (by simp)];simp[A.b135,q8];refine au (Yk6 hs jR dq) ?_;rintro _ H2 n2 k2 rfl;simp[ay];exact k2
def Ytw{p q:Nat}{eq:TypeId}(jG:h.get p=some (.cells [v] ep wp))(AI:p<N)(q8:h.get q=some (.cells [u] eq wq))(xm:q<N)(hs:fE h N u m)(jR:m.length<100000)(dq:∀x∈m,x.length<100000/\∀s∈x,s.length<=100000)(ht:Sl h N v (strs l))(jX:l.length<100000)(wh:∀s∈l,s.length<=100000):fW A.C (.func 136 [] [.ptr p 0,.ptr q 0]) [] h N (fun z _ _=>z=.int .i64 (sW l m.length 1)):=by intro w;have ml:=hs.len;rw[aP,A.k136 (by simp)];simp[A.b136,q8,jG,ml];refine au (Ywc ht jX wh) ?_;rintro _ H2 n2 k2 rfl;simp[ay];exact k2
def Yni{p q:Nat}{eq:TypeId}(jG:h.get p=some (.cells [v] ep wp))(AI:p<N)(q8:h.get q=some (.cells [u] eq wq))(xm:q<N)(hs:fE h N u m)(jR:m.length<100000)(dq:∀x∈m,x.length<100000/\∀s∈x,s.length<=100000)(ht:Sl h N v (strs l))(jX:l.length<100000)(wh:∀s∈l,s.length<=100000):fW A.C (.func 74 [] [.ptr p 0,.ptr q 0]) [] h N (fun z _ _=>z=.int .i64 (dM l m.length)):=by intro w;have ml:=hs.len;rw[aP,A.k74 (by simp)];simp[A.b74,q8,jG,ml];refine au (Wd ht jX wh) ?_;rintro _ H2 n2 k2 rfl;simp[ay];exact k2
def Ynh{p q:Nat}{eq:TypeId}(jG:h.get p=some (.cells [v] ep wp))(AI:p<N)(q8:h.get q=some (.cells [u] eq wq))(xm:q<N)(hs:fE h N u m)(jR:m.length<100000)(dq:∀x∈m,x.length<100000/\∀s∈x,s.length<=100000)(ht:Sl h N v (strs l))(jX:l.length<100000)(wh:∀s∈l,s.length<=100000)(m0:0<m.length):fW A.C (.func 75 [] [.ptr p 0,.ptr q 0]) [] h N (fun z _ _=>z=.int .i64 (dM l (bg m))):=by
 intro w;have ml:=hs.len;have vP:0<(m.length:Int):=by omega
 obtain⟨l0,dk⟩:=bs m0;obtain⟨i0,o0,Sx,e0,EX,u0,z1,z2,z3,z4,z5⟩:=hs.at dk;have z6:=z5.len;rw[pK]at z6;rw[iX]at z4;obtain⟨n,hn⟩:∃n,n=l0.length:=⟨_,rfl⟩;have en:bg m=n:=by simp[bg,dk,hn]
 rw[en];rw[<-hn]at z6;rw[aP,A.k75 (by simp)];simp[A.b75,q8,jG,ml,m0,z1,z2,z3,z4,z6];refine au (Wd ht jX wh) ?_;rintro _ H2 n2 k2 rfl;have xS:=k2.le;simp[];refine(wP (by simp[-az,xm,AI])).2 ?_;simp[ay];exact k2
def fE.one(hm:fE h N u m):V.one u=true/\V.cells u=[u]:=by obtain⟨us,⟨_,rfl|rfl⟩|⟨i,o,cp,c,e,rw,rfl,_⟩,_⟩:=hm<;>exact⟨rfl,rfl⟩
def yH(m:List (List aH))(l:List aH):Int:=cM [gX m 64 16,sW l m.length 1]
def Yiy(hm:fE h N u m)(hl:Sl h N v (strs l))(m1:m.length<100000)(m2:∀x∈m,x.length<100000/\∀s∈x,s.length<=100000)(l1:l.length<100000)(l2:∀s∈l,s.length<=100000):Fn A.C 53 [u,v] h N (fun z _ _=>z=.int .i64 (yH m l)):=by
 intro w;have o2:=hl.form.one;have o3:=hl.form.cells;obtain⟨o4,o5⟩:=hm.one;rw[aP,A.k53 (by simp)];unfold V.one at o2 o4;unfold V.cells at o3 o5;simp[A.b53,o2,o3,o4,o5,ae];generalize hH:((h.set N (.cells [u] 22 true)).set (N+1) (.cells [v] 23 true)).set (N+1+1) (.cells [.func 135 [] [.ptr N 0],.func 136 [] [.ptr (N+1) 0,.ptr N 0]] 93 true)=H;have kB:ab h N H (N+1+1+1):=by rw[<-hH];exact((ab.refl.new _).new _).new _
 have g0:H.get N=some (.cells [u] 22 true):=by rw[<-hH];simp
 have g1:H.get (N+1)=some (.cells [v] 23 true):=by rw[<-hH];simp
 have g2:H.get (N+1+1)=some (.cells [.func 135 [] [.ptr N 0],.func 136 [] [.ptr (N+1) 0,.ptr N 0]] 93 true):=by rw[<-hH];simp
 clear hH;have hs:Sl H (N+1+1+1) (.slice (N+1+1) 0 2 (some 2) 1) [.func 135 [] [.ptr N 0],.func 136 [] [.ptr (N+1) 0,.ptr N 0]]:=Sl.row (by omega) g2 rfl (fun k hk=>by simp at hk;omega);have key:=NQ (l:=[gX m 64 16,sW l m.length 1]) hs rfl (by simp) (YU (P:=fun f e _=>∀h' n',ab H (N+1+1+1) h' n'->fW A.C f [] h' n' (fun u _ _=>u=.int .i64 e)) (fun h' n' hk=>Ytx (l:=l) ((hk.get N (by omega)).trans g0) (by have:=hk.le;omega) ((hm.ad kB).ad hk) m1 m2) (fun hz h' n' hk=>Ytw ((hk.get (N+1) (by omega)).trans g1) (by have:=hk.le;omega) ((hk.get N (by omega)).trans g0) (by have:=hk.le;omega) ((hm.ad kB).ad hk) m1 m2 ((hl.ad kB).ad hk) l1 l2));change Fn A.C 58 _ H _ (fun u _ _=>u=.int .i64 (yH m l))at key;refine au key ?_;rintro _ H2 n2 k2 rfl;simp[ay];exact kB.trans k2
def Ynj{q p:Nat}{eq:TypeId}(q8:h.get q=some (.cells [u] eq wq))(xm:q<N)(jG:h.get p=some (.cells [v] ep wp))(AI:p<N)(hs:fE h N u m)(jR:m.length<100000)(dq:∀x∈m,x.length<100000/\∀s∈x,s.length<=100000)(ht:Sl h N v (strs l))(jX:l.length<100000)(wh:∀s∈l,s.length<=100000):fW A.C (.func 73 [] [.ptr q 0,.ptr p 0]) [] h N (fun z _ _=>z=.int .i64 (yH m l)):=by intro w;rw[aP,A.k73 (by simp)];simp[A.b73,q8,jG];refine au (Yiy hs ht jR dq jX wh) ?_;rintro _ H2 n2 k2 rfl;simp[ay];exact k2
def A.b76:=A.q Tryz.f76
def A.k76:=@A.kk 76 12 [.tmp 6] A.b76 (by kernel_rfl) rfl
def Yqb(ha:∀q∈a,Qb j q)(hb:∀q∈b,Qb k q)(hj:1<=j)(hk:1<=k):∀q∈xg a b,Qb (j+k+1) q:=fun q hq=>by
 unfold xg wW at hq
 obtain⟨i,_,rfl⟩:=bO.1 hq
 have h1:=rN ha hj i
 have h2:=rN hb hk i
 have h3:Qb k (-(b[i]?.getD 0)):=⟨by rw[Rat.neg_num,zY];exact h2.1,by rw[Rat.neg_den];exact h2.2⟩
 have:=h1.add h3
 rw[<-Rat.sub_eq_add_neg]at this
 exact this
def Xbb(m:List (List aH))(s x:List aH):Int:=cM [gX m 64 16,dM s m.length,dM x (bg m)]
def C2(m:List (List aH))(s x:List aH):List Rat:=xg (bj s) ((cF m).map fun r=>ed r (bj x))
def A.b17:=A.q Tryz.f17
def A.k17:=@A.kk 17 38 [.tmp 8,.tmp 9] A.b17 (by kernel_rfl) rfl
def YZ(e:Int)(q:Rat)(x:V):Prop:=(e≠0/\x=.aU [.str [],.int .i64 e])\/(e=0/\((vV q=true/\x=.aU [.str [],.int .i64 4])\/(vV q=false/\x=.aU [.str (aI q),.int .i64 0])))
def OG(m:List (List aH))(w s x:List aH):Int:=cM [yH m w,dM s m.length,dM x (bg m)]
def F8(m:List (List aH))(w s x:List aH):Rat:=ed (yD (C2 m s x) (bj w) (C2 m s x).length) (C2 m s x)
def Td{w:List aH}(h:yH m w=0)(sm:pH 6 6 m=true)(sw:ef 6 w=true):C6 m (bg m)/\w.length=m.length/\kh w:=by
 have h1:=wU h (gX m 64 16) (by simp);have h2:=wU h (sW w m.length 1) (by simp);refine⟨Ynl h1 sm,?_⟩;unfold sW at h2;split at h2
 ·rename_i e;exact⟨e,Yt6 h2 sw⟩
 exact absurd h2 (by decide)
def Zzj{s x:List aH}:(C2 m s x).length=s.length:=by simp[C2,xg,IJ,bj]
def Yvr{i o:Nat}{cp:Option Nat}{c l:List V}{e:TypeId}(h3:h.get i=some (.cells c e rw))(h4:∀j,j<l.length->c[o+j]?=l[j]?)(h5:o+l.length<=c.length):fO ⟨h,N,w⟩ 1 (.slice i o l.length cp 1)=some (l.length,l):=by
 have:aO c o (l.length*1)=some l:=by
  unfold aO;rw[av (by omega),AL];congr 1;apply pM;intro j;by_cases hj:j<l.length
  ·rw[jZ,av hj,fU];exact h4 j hj
  rw[gl (by simp;omega),gl (by omega)]
 simp only[fO,if_true,St.row,h3,this]
def A.w19:=A.q Tryz.f19
def A.yy:=A.ql A.w19 0 []
def A.b19:=(fun x0=>A.qb A.w19 [x0]) A.yy
def A.k19:=@A.kk 19 23 [.tmp 4] A.b19 (by kernel_rfl) rfl
def Zud{c:Rat}(hu:Tx h N u a)(ha:∀q∈a,Qb j q)(hc:Qb k c)(hj:j<=400000000)(hk:k<=400000000)(hl:a.length<100000):Fn A.C 19 [u,.str (aI c)] h N (fun x h' n'=>Own 1 26 N h' n' x ((tx (a.map fun q=>q*c)).map fun y=>[y])):=by
 intro w;have l1:=hu.len;rw[aP,A.k19 (by simp)];simp[A.b19];refine cB [(5,21)] (fun e r st=>e=.exit 0/\az N st.w=[]/\ab h N st.h st.n/\∃x,r.get 5=some x/\Own 1 26 N st.h st.n x ((tx (a.map fun q=>q*c)).map fun y=>[y])) (fun i r st=>az N st.w=[]/\ab h N st.h st.n/\∃t x,t+i=a.length/\r.get 6=some (.int .i64 t)/\r.get 5=some x/\Own 1 26 N st.h st.n x ((tx ((a.take t).map fun q=>q*c)).map fun y=>[y])) (a.length) ?_ ?_ ?_
 ·exact⟨by simp,ab.refl,0,.aa,by omega,by simp,by simp,by simpa[tx,strs]using Own.nil⟩
 ·rintro i r ⟨H,n1,W⟩ hr hf ⟨hW,hK,t,x,ht,h6,h5,ho⟩;simp only at hW hK ho;rw[bG];cases i with
  |zero=>
   obtain rfl:t=a.length:=by omega
   rw[Ay]at ho;simp[A.yy,hr,hf,h6,h5,l1,hW,hK];exact ho
  |succ i=>
   have aD:t<a.length:=by omega
   have bV:(t:Int)<((a.length:Nat):Int):=by omega
   obtain⟨q,hq⟩:=bs aD;have j_:=ha q (cP hq);obtain⟨i',o,cc,e,rw,q1,q2,q3,q4⟩:=(hu.ad hK).at (Ob hq);simp[A.yy,hr,hf,h6,h5,l1,aD,bV,q1,q2,q3,q4];refine au (IF j_ hc hj hk) ?_;rintro _ H2 n2 k2 rfl;have lf:=k2.le;have iy:=hK.le;obtain⟨v',h',w',f1,f2,f3,_,f5⟩:=Az (x:=[.str (aI (q*c))]) (u:=.slice n2 0 1 (some 1) 1) (bytes:=16) (w:=W) ((ho.ad k2).ad (ab.refl.new (.cells [.str (aI (q*c))] 26 true))) (by omega) (by decide) rfl (by simp[fO,St.row,aO]) (by simp[CY];omega);have e7:((tx ((a.take t).map fun q=>q*c)).map fun y=>[y])++[[.str (aI (q*c))]]=(tx ((a.take (t+1)).map fun q=>q*c)).map fun y=>[y]:=by rw[Bi,hq];simp[tx,strs]
   rw[e7]at f5;simp(disch:=first|(simp;done)|omega|rfl) [hr,hf,h6,h5,q1,q2,q3,q4,ae,f1];exact⟨i,by omega,by rw[f2];exact hW,((hK.trans k2).trans (ab.refl.new (.cells [.str (aI (q*c))] 26 true))).then f3,t+1,by omega,by simp,by rw[<-List.map_take];exact f5⟩
 rintro _ r ⟨H,n1,W⟩ hr ⟨rfl,hW,hK,x,h5,ho⟩;simp only at hW hK ho;simp[hr,h5,ay,hW,hK];exact ho
def A.b26:=A.q Tryz.f26
def A.k26:=@A.kk 26 5 [.tmp 2] A.b26 (by kernel_rfl) rfl
def Ykz{l:List (List aH)}(hs:fE h N v l)(hl:l.length<100000)(hx:∀x∈l,x.length<100000/\∀s∈x,s.length<=100000):Fn A.C 26 [v] h N (fun u _ _=>u=.int .i64 (gX l 64 16)):=by intro w;rw[aP,A.k26 (by simp)];simp[A.b26];refine au (Yt3 (a:=64) (b:=16) hs hl hx) ?_;rintro _ H2 n2 k2 rfl;simp[ay];exact k2
def A.b222:=A.q Tryz.f222
def A.k222:=@A.kk 222 8 [.cell 2 (some 4)] A.b222 (by kernel_rfl) rfl
def A.b166:=A.q Tryz.f166
def A.k166:=@A.kk 166 9 [.cell 4 (some 4)] A.b166 (by kernel_rfl) rfl
def A.b163:=A.q Tryz.f163
def A.k163:=@A.kk 163 10 [.tmp 3] A.b163 (by kernel_rfl) rfl
def A.b165:=A.q Tryz.f165
def A.k165:=@A.kk 165 7 [.cell 3 (some 4)] A.b165 (by kernel_rfl) rfl
def A.b167:=A.q Tryz.f167
def A.k167:=@A.kk 167 11 [.cell 5 (some 4)] A.b167 (by kernel_rfl) rfl
def Ys7{q:Rat}(hx:Fc h N x q)(h0:q≠0)(l1:wl q.num<1000000000)(l2:wl (q.den:Nat)<1000000000):Fn A.C 222 [x] h N (fun v h' n'=>Fc h' n' v q⁻¹):=by
 intro w;rw[aP,A.k222 (by simp)];obtain⟨n1,u1,n2,u2,rfl,s1,s2⟩:=hx;have o1:=eh s1;have o2:=eh s2;unfold V.one at o1 o2;have kB:ab h N ((h.set N (.cells [.int .i64 n1,u1,.int .i64 n2,u2] 101 true)).set (N+1) (.cells [.int .i64 0,.aa,.int .i64 0,.aa] 101 true)) (N+2):=aQ (aQ ab.refl _) _;simp[A.b222,aS,aO,o1,o2];generalize mG:(h.set N (.cells [.int .i64 n1,u1,.int .i64 n2,u2] 101 true)).set (N+1) (.cells [.int .i64 0,.aa,.int .i64 0,.aa] 101 true)=hB at*;have b3:hB.get (N+1)=some (.cells [.int .i64 0,.aa,.int .i64 0,.aa] 101 true):=by rw[<-mG];simp
 have hn:q.num≠0:=fun hc=>h0 (Ec.1 hc);refine au (Zx1 (s2.ad kB) (s1.ad kB) hn (by omega) (by omega)) ?_;rintro v7 h3 m3 k3 hv;rw[<-inv_divInt]at hv;obtain⟨n5,u5,n6,u6,rfl,t1,t2⟩:=hv;have o5:=eh t1;have o6:=eh t2;unfold V.one at o5 o6;have jE:=k3.le;have f5:=(k3.get (N+1) (by omega)).trans b3;have e3:N+1<m3:=by omega
 simp[f5,aS,aO,ae,bM,o5,o6,ay];have kk:=kB.trans k3;exact⟨kk.set (by omega),n5,u5,n6,u6,rfl,t1.aG (i:=N+1) f5 qp rfl,t2.aG (i:=N+1) f5 qp rfl⟩
def Ys9{y:V}{p q:Rat}(hx:Fc h N x p)(hy:Fc h N y q)(h0:q≠0)(l1:wl p.num<1000000000)(l2:wl (p.den:Nat)<1000000000)(l3:wl q.num<1000000000)(l4:wl (q.den:Nat)<1000000000)(l5:wl q⁻¹.num<1000000000)(l6:wl (q⁻¹.den:Nat)<1000000000):Fn A.C 166 [x,y] h N (fun v h' n'=>Fc h' n' v (p/q)):=by
 intro w;rw[aP,A.k166 (by simp)];have jP:=hx;have zr:=hy;obtain⟨n1,u1,n2,u2,rfl,s1,s2⟩:=hx;obtain⟨n3,u3,n4,u4,rfl,s3,s4⟩:=hy;have o1:=eh s1;have o2:=eh s2;have o3:=eh s3;have o4:=eh s4;unfold V.one at o1 o2 o3 o4;have kB:ab h N (((h.set N (.cells [.int .i64 n1,u1,.int .i64 n2,u2] 101 true)).set (N+1) (.cells [.int .i64 n3,u3,.int .i64 n4,u4] 101 true)).set (N+2) (.cells [.int .i64 0,.aa,.int .i64 0,.aa] 101 true)) (N+3):=aQ (aQ (aQ ab.refl _) _) _;simp[A.b166,aS,aO,o1,o2,o3,o4];generalize mG:((h.set N (.cells [.int .i64 n1,u1,.int .i64 n2,u2] 101 true)).set (N+1) (.cells [.int .i64 n3,u3,.int .i64 n4,u4] 101 true)).set (N+2) (.cells [.int .i64 0,.aa,.int .i64 0,.aa] 101 true)=hB at*;have b1:hB.get N=some (.cells [.int .i64 n1,u1,.int .i64 n2,u2] 101 true):=by rw[<-mG];simp
 have b2:hB.get (N+1)=some (.cells [.int .i64 n3,u3,.int .i64 n4,u4] 101 true):=by rw[<-mG];simp
 have b3:hB.get (N+2)=some (.cells [.int .i64 0,.aa,.int .i64 0,.aa] 101 true):=by rw[<-mG];simp
 refine au (Ys7 (zr.ad kB) h0 l3 l4) ?_;rintro v5 h1 m1 k1 q1;have gT:=k1.le;have f1:=(k1.get N (by omega)).trans b1;have f2:=(k1.get (N+1) (by omega)).trans b2;have f3:=(k1.get (N+2) (by omega)).trans b3;have e1:N<m1:=by omega
 have e2:N+1<m1:=by omega
 simp;refine au (VA ((jP.ad kB).ad k1) q1 l1 l2 l5 l6) ?_;rintro v7 h3 m3 k3 hv;rw[<-Rat.div_def]at hv;obtain⟨n5,u5,n6,u6,rfl,t1,t2⟩:=hv;have o5:=eh t1;have o6:=eh t2;unfold V.one at o5 o6;have jE:=k3.le;have f5:=(k3.get (N+2) (by omega)).trans f3;have e3:N+2<m3:=by omega
 simp[f5,e3,aS,aO,ae,bM,o5,o6,c9.c_,ay];have kk:=(kB.trans k1).trans k3;exact⟨kk.set (by omega),n5,u5,n6,u6,rfl,t1.aG (i:=N+2) f5 qp rfl,t2.aG (i:=N+2) f5 qp rfl⟩
end
end Go.Mx
