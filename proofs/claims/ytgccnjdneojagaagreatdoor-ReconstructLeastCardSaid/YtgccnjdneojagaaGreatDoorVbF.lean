/-reconstruct-/
import Derived.Test.YtgccnjdneojagaaGreatDoorVaE
set_option linter.all false
set_option maxHeartbeats 4000000
namespace Go.Mx
noncomputable section
open Go Go.Proofs
variable {N:Nat} {h:T O} {l:List Rat} {m:List (List Rat)} {u v:V}
set_option maxRecDepth 1000000
def A.SB:=A.q Tryz.f188
def A.uF:=A.ql A.SB 0 []
def A.b188:=(fun x0=>A.qb A.SB [x0]) A.uF
def A.k188:=@A.kk 188 19 [.tmp 4] A.b188 (by kernel_rfl) rfl
def Yue{f:V}(l:List (List V))(p:Nat->Bool)(hs:Sn 4 h N v l)(hl:l.length<1152921504606846976)(hf:∀(j:Nat) (x:List V),l[j]?=some x->∀h' n',ab h N h' n'->gF A.C f [.agg x] h' n' (fun u _ _=>u=.bool (p j))):Fn A.C 188 [v,f] h N (fun u _ _=>u=.int .i64 (pG p 0 l.length)):=by
 intro w;have hlen:=hs.len;rw[aQ,A.k188 (by simp)];simp[A.b188,hlen];refine b_ [(4,5),(8,18)] (fun e r st=>ay N st.w=[]/\ab h N st.h st.n/\((e=.exit 0/\pG p 0 l.length= -1)\/(e=.ret/\r.get 4=some (.int .i64 (pG p 0 l.length))))) (fun m r st=>ay N st.w=[]/\ab h N st.h st.n/\∃k,k+m=l.length/\r.get 8=some (.int .i64 k)/\pG p 0 l.length=pG p k m) l.length ?_ ?_ ?_
 ·exact⟨by simp,ab.refl,0,by omega,by simp,rfl⟩
 ·rintro m r ⟨H,n1,W⟩ hr ef ⟨hW,hK,k,hk,h8,hz⟩;simp only at hW hK;rw[bu];cases m with
  |zero=>
   have:k=l.length:=by omega
   subst this;simp only[pG]at hz;simp[A.uF,hr,ef,h8,hW,hK,hz]
  |succ m=>
   have aE:k<l.length:=by omega
   obtain⟨c,hc⟩:=bj aE;obtain⟨i,o,cc,e,rw,q1,q2,q3,q4⟩:=hs.at hc;have q3:=(hK.get _ q2).trans q3;have cK:(k:Int)<(l.length:Int):=by omega
   simp only[pG]at hz;simp[A.uF,hr,h8,cK,hlen,q1,q3,q4];refine DZ (hf k c hc _ _ hK) ?_;rintro v h2 n2 k2 rfl;have kk:=hK.trans k2;cases hp:p k
   ·rw[hp]at hz;simp(disch:=first|(simp;done)|omega|rfl) [ef,h8,hW,kk];exact⟨m,by omega,k+1,by omega,by simp,by simpa using hz⟩
   rw[hp]at hz;simp[ef,hW,kk];simpa using hz.symm
 rintro e r ⟨H,n1,W⟩ hr ⟨hW,hK,⟨rfl,hz⟩|⟨rfl,h4⟩⟩
 ·simp only at hW hK;simp[hz,az,hW,hK]
 simp only at hW hK;simp[h4,az,hW,hK]
def A.b126:=A.q Tryz.f126
def A.k126:=@A.kk 126 9 [.tmp 4] A.b126 (by kernel_rfl) rfl
def A.b59:=A.q Tryz.f59
def A.k59:=@A.kk 59 8 [.tmp 2,.tmp 3] A.b59 (by kernel_rfl) rfl
def A.w89:=A.q Tryz.f89
def A.yA:=A.ql A.w89 0 []
def A.b89:=(fun x0=>A.qb A.w89 [x0]) A.yA
def A.k89:=@A.kk 89 19 [.tmp 4] A.b89 (by kernel_rfl) rfl
def A.w69:=A.q Tryz.f69
def A.yB:=A.ql A.w69 0 []
def A.b69:=(fun x0=>A.qb A.w69 [x0]) A.yB
def A.k69:=@A.kk 69 32 [.tmp 6] A.b69 (by kernel_rfl) rfl
def Yok{f:V}(l:List (List V))(p:Nat->Bool)(hs:Sn 4 h N v l)(hl:l.length<1152921504606846976)(hf:∀(j:Nat) (x:List V),l[j]?=some x->∀h' n',ab h N h' n'->gF A.C f [.agg x] h' n' (fun u _ _=>u=.bool (p j))):Fn A.C 126 [v,f] h N (fun u _ _=>u=.bool (decide (0<=pG p 0 l.length))):=by intro w;rw[aQ,A.k126 (by simp)];simp[A.b126];refine ar (Yue l p hs hl hf) ?_;rintro v h2 n2 k2 rfl;simp[az,k2]
def Yd5:decide (0<=pG (fun j=>wW (l[j]?.getD 0)) 0 l.length)=mT l:=by
 rw[Bool.eq_iff_iff,decide_eq_true_eq,Zv7];unfold mT;rw[List.any_eq_true];constructor
 ·rintro⟨j,_,h2,h3⟩;obtain⟨q,hq⟩:=bj (l:=l) (k:=j) (by omega);rw[hq]at h3;exact⟨q,cy hq,h3⟩
 rintro⟨q,hq,h3⟩;obtain⟨j,hj⟩:=pK hq;exact⟨j,wx _,by have:=gI hj;omega,by rw[hj];exact h3⟩
def Zzv{h:T O}{N:Nat}{u:V}{l:List Rat}{k:Nat}(hu:jm h N u l)(hP:iG h N)(hl:l.length<1000000000)(hq:∀q∈l,Qb k q)(hk:k<=400000000):Fn A.C 59 [u] h N (fun x h' n'=>(mT l=true/\x=.aX [.aa,.int .i64 4])\/(mT l=false/\∃v,x=.aX [v,.int .i64 0]/\AX h' n' v l)):=by
 intro w;obtain⟨cs,s1,s2,s3⟩:=id hu;have key:=Yok (f:=.func 71 [] []) cs (fun j=>wW (l[j]?.getD 0)) s1 (by omega) (fun j x hx h' n' iE=>by
  obtain⟨q,hqj⟩:=bj (l:=l) (k:=j) (by have:=gI hx;omega)
  obtain⟨c,g1,g2⟩:=s3 j q hqj
  rw[hx]at g1
  obtain rfl:x=c:=by simpa using g1
  simp only[hqj,il]
  exact Zv6 (g2.ad iE).fc (hP.ad iE) (hq q (cy hqj)) (by omega));rw[s2,Yd5]at key;rw[aQ,A.k59 (by simp)];simp[A.b59];refine ar key ?_;rintro _ h2 n2 k2 rfl;cases hb:mT l with
 |true=> simp[az];exact k2
 |false=> simp[];refine ar (Yk7 (k0:=k) (hu.ad k2) (hP.ad k2) hl hq hk) ?_;rintro v h3 n3 k3 t1;simp[az];exact⟨k2.trans k3,t1⟩
def Tp{k:Nat}(hu:jm h N u l)(hP:iG h N)(hl:l.length<1000000000)(hq:∀q∈l,Qb k q)(hk:k<=400000000):Fn A.C 59 [u] h N (fun x h' n'=>(mT l=true/\x=.aX [.aa,.int .i64 4])\/(mT l=false/\∃v,x=.aX [v,.int .i64 0]/\Tx h' n' v l)):=fun w=>(Zzv hu hP hl hq hk w).mono fun x st ⟨a,b,c⟩=>⟨a,b,c.imp id fun ⟨e,v,r,t⟩=>⟨e,v,r,t.1⟩⟩
def gg(N0:Nat)(h:T O)(N:Nat)(v:V)(m:List (List Rat)):Prop:=∃us:List V,Own 1 82 N0 h N v (us.map fun y=>[y])/\(us=[]->v=.aa)/\us.length=m.length/\∀(j:Nat) (l:List Rat),m[j]?=some l->∃u,us[j]?=some u/\d_ h N u l
def gg.nil{N0:Nat}:gg N0 h N .aa []:=⟨[],Own.nil,fun _=>rfl,rfl,fun j l hl=>by simp at hl⟩
def gg.ad{N0:Nat}{h':T O}{N':Nat}(s:gg N0 h N v m)(k:ab h N h' N'):gg N0 h' N' v m:=by obtain⟨us,h1,h2,h3,h4⟩:=s;refine⟨us,h1.ad k,h2,h3,fun j l hl=>?_⟩;obtain⟨u,g1,g2⟩:=h4 j l hl;exact⟨u,g1,g2.ad k⟩
def gg.Ax{N0:Nat}(s:gg N0 h N v m):fN h N v m:=by obtain⟨us,h1,h2,h3,h4⟩:=s;exact⟨us,Sn.one.1 h1.sn,h3,h4⟩
def gg.push{N0:Nat}{x:V}{w:List Nat}(s:gg N0 h N v m)(hu:d_ h N u l)(hN:N0<=N)(hx:fQ ⟨h,N,w⟩ 1 x=some (1,[u]))(hm:m.length<100000):
  ∃v' h' w',oc ⟨h,N,w⟩ 1 24 82 v x=some (v',⟨h',N+1,w'⟩)/\ay N0 w'=ay N0 w/\ab h N0 h' (N+1)/\gg N0 h' (N+1) v' (m++[l]):=by
 obtain⟨us,h1,h2,h3,h4⟩:=s;obtain⟨v',h',w',f1,f2,f3,f4,fD,f5⟩:=FT (Y:=NW) (x:=[u]) (u:=x) (bytes:=24) (w:=w) h1 (fun h0=>h2 (List.map_eq_nil_iff.1 h0)) (fun c hc y hy=>by
  obtain⟨z,hz,rfl⟩:=bK.1 hc
  obtain rfl:y=z:=by simpa using hy
  obtain⟨j,hj⟩:=pK hz
  obtain⟨r,hr⟩:=bj (l:=m) (k:=j) (by have:=gI hj;omega)
  obtain⟨u',g1,g2⟩:=h4 j r hr
  rw[hj]at g1
  obtain rfl:y=u':=by simpa using g1
  exact g2.1.form.2.2) hN (by decide) rfl hx (by rw[di];omega);refine⟨v',h',w',f1,f2,f3,us++[u],by simpa using f5,by simp,by simp[h3],fun j r hr=>?_⟩;by_cases hj:j<m.length
 ·rw[mH hj]at hr;obtain⟨u',g1,g2⟩:=h4 j r hr;exact⟨u',by rw[mH (by omega)];exact g1,g2.cf f4 fD (by simp)⟩
 rw[qI (by omega)]at hr;cases hd:j-m.length with
 |zero=> rw[hd]at hr;simp at hr;subst hr;exact⟨u,by rw[qI (by omega),h3,hd];rfl,hu.cf f4 fD (by simp)⟩
 |succ d=>rw[hd]at hr;simp at hr
def Lh{n:Nat}(hu:fN h N u m)(iH:m.length<100000)(hm:∀r∈m,r.length=n)(hn:n<1000):Fn A.C 89 [u,.int .i64 n] h N (fun x h' n'=>gg N h' n' x (dt m n)):=by
 intro w;rw[aQ,A.k89 (by simp)];simp[A.b89];refine b_ [(5,6),(8,17)] (fun e r st=>e=.exit 0/\ay N st.w=[]/\ab h N st.h st.n/\∃x,r.get 5=some x/\gg N st.h st.n x (dt m n)) (fun i r st=>ay N st.w=[]/\ab h N st.h st.n/\∃k x,k+i=n/\r.get 8=some (.int .i64 k)/\r.get 5=some x/\gg N st.h st.n x (dt m k)) n ?_ ?_ ?_
 ·exact⟨by simp,ab.refl,0,.aa,by omega,by simp,by simp,gg.nil⟩
 ·rintro i r ⟨H,n1,W⟩ hr hf ⟨hW,hK,k,x,hk,h8,h5,ho⟩;simp only at hW hK ho;rw[bu];cases i with
  |zero=>
   obtain rfl:k=n:=by omega
   simp[A.yA,hr,hf,h8,h5,hW,hK];exact ho
  |succ i=>
   have aE:k<n:=by omega
   have bG:(k:Int)<(n:Int):=by omega
   simp[A.yA,hr,h8,h5,bG];refine ar (Zua (hu.ad hK) iH hm aE) ?_;rintro y H2 n2 k2 hy;have kR:=k2.le;have ij:=hK.le;obtain⟨y1,y2,y3⟩:=hy.1.form;have e4:ae [V.aa] 0 [y]=[y]:=rfl;have kN:ab H2 n2 (H2.set n2 (.cells [y] 82 true)) (n2+1):=ab.refl.new _;obtain⟨v',h',w',f1,f2,f3,f5⟩:=(((ho.ad k2).ad kN).push (x:=.slice n2 0 1 (some 1) 1) (l:=kX m k) (w:=W) (hy.ad kN) (by omega) (by simp[fQ,St.row,aP]) (by simp[dt];omega));have e7:dt m k++[kX m k]=dt m (k+1):=by simp[dt,List.range_succ]
   rw[e7]at f5;have b1:V.one y=true:=y1;simp(disch:=first|(simp;done)|omega|rfl) [-V.cells, -V.one,hf,h8,b1,y2,e4,f1];exact⟨i,by omega,by rw[f2];exact hW,((hK.trans k2).trans kN).then f3,k+1,by omega,by simp,f5⟩
 rintro _ r ⟨H,n1,W⟩ hr ⟨rfl,hW,hK,x,h5,ho⟩;simp only at hW hK ho;simp[h5,az,hW,hK];exact ho
variable {a b:List Rat} {j n:Nat}
def mF(F:Rat->Rat->Rat)(a b:List Rat)(n:Nat):List Rat:=(List.range n).map fun k=>F (a[k]?.getD 0) (b[k]?.getD 0)
def Nh{F:Rat->Rat->Rat}(h:j<n):(mF F a b n)[j]?=some (F (a[j]?.getD 0) (b[j]?.getD 0)):=by simp[mF,h]
def zG{F:Rat->Rat->Rat}:(mF F a b n).length=n:=by simp[mF]
def ZP:(zP a b n).length=n:=by simp[zP]
structure JnI (F:Rat->Rat->Rat) (h:T O) (N:Nat) (a b:List Rat) (m:Nat) (r:T V) (st:St):Prop where
 w:ay N st.w=[]
 ad:ab h N st.h st.n
 ex:∃(k:Nat) (cs:List (List V)),k+m=a.length/\r.get 14=some (.int .i64 k)/\N<st.n/\st.h.get N=some (.cells (cs.flatten++cW zF m) 96 true)/\cs.length=k/\∀(j:Nat) (q:Rat),j<k->(mF F a b a.length)[j]?=some q->∃c,cs[j]?=some c/\fS st.h st.n c q
def Zys{h:T O}{N:Nat}{u v f:V}(F:Rat->Rat->Rat)(hu:jm h N u a)(hv:jm h N v b)(f_:a.length<=b.length)(hF:∀x∈a,∀y∈b,∀(h':T O) (n':Nat) (ca cb:List V),ab h N h' n'->fS h' n' ca x->fS h' n' cb y->gF A.C f [.agg ca,.agg cb] h' n' (fun z h2 n2=>Fc h2 n2 z (F x y)))(hl:a.length<1000000000):Fn A.C 69 [u,v,f] h N (fun x h' n'=>d_ h' n' x (mF F a b a.length)):=by
 intro w;have l1:=hu.len;have l2:=hv.len;have c1:(64:Int)*(a.length:Int)<=140737488355328:=by omega
 have c2:(a.length:Int)<4611686018427387904:=by omega
 have kB:ab h N (h.set N (.cells (cW zF a.length) 96 true)) (N+1):=ab.refl.new _;rw[aQ,A.k69 (by simp)];simp[A.b69,l1,c1,c2];refine b_ [(8,8),(14,30)] (fun e r st=>e=.exit 0/\JnI F h N a b 0 r st) (JnI F h N a b) a.length ?_ ?_ ?_
 ·exact⟨by simp,kB,0,[],by omega,by simp,by show N<N+1;omega,by rw[T.ag,av rfl];rfl,rfl,fun j q hj=>by omega⟩
 ·rintro m r ⟨H,n1,W⟩ hr hf ⟨hW,hK,t,cs,ht,qV,ra,hM,cM,jX⟩;simp only at hW hK hM ra jX;rw[bu];cases m with
  |zero=>
   obtain rfl:t=a.length:=by omega
   simp[A.yB,hr,hf,qV];exact⟨hW,hK,a.length,cs,by omega,by simp[qV],ra,hM,cM,jX⟩
  |succ m=>
   have aE:t<a.length:=by omega
   have bG:(t:Int)<(a.length:Int):=by omega
   have nk:t<b.length:=by omega
   have Cu:(t:Int)<(b.length:Int):=by omega
   obtain⟨x,hx⟩:=bj aE;obtain⟨y,hy⟩:=bj nk;obtain⟨i,o,cc,e,rw,ca,q1,q2,q3,q4,q5⟩:=(hu.ad hK).at hx;obtain⟨i',o',Ok,e',rj,cb,p1,p2,p3,p4,p5⟩:=(hv.ad hK).at hy;have hi:i<N:=by obtain⟨i2,_,_,_,_,_,z1,z2,_⟩:=hu.at hx;rw[q1]at z1;simp at z1;omega
   have kf:i'<N:=by obtain⟨i2,_,_,_,_,_,z1,z2,_⟩:=hv.at hy;rw[p1]at z1;simp at z1;omega
   simp[A.yB,hr,qV,l1,l2,bG,Cu,q1,q2,q3,q4,p1,p2,p3,p4];refine DZ (hF x (cy hx) y (cy hy) _ _ _ _ hK q5 p5) ?_;rintro _ H2 n2 k2 ef;obtain⟨c,rfl,hc⟩:=ef.c;have kR:=k2.le;have ij:=hK.le;have t_:=(k2.get N ra).trans hM;have KC:∀(j:Nat) (q:Rat),j<cs.length->(mF F a b a.length)[j]?=some q->∃c,cs[j]?=some c/\fS H2 n2 c q:=fun j q hj hq=>by obtain⟨c,g1,g2⟩:=jX j q (by omega) hq;exact⟨c,g1,g2.ad k2⟩
   obtain⟨f1,f2,f3⟩:=Q2 (l:=mF F a b a.length) (by rw[zG];omega) KC;have jr:=yN f1;obtain⟨e1,e2⟩:=hc.len;have gZ:ae (cs.flatten++cW zF (m+1)) (t*4) c=(cs++[c]).flatten++cW zF m:=by rw[HC,Q1 (n:=4) (by rw[jr,cM]) rfl e1,MQ,uQ]
   have hb4:t*4+4<=(cs.flatten++cW zF (m+1)).length:=by rw[iI,jr,Yey];omega
   have kJ:(V.agg c).cells=c:=rfl;have Ct:uH (cs.flatten++cW zF (m+1)):=f2.app Q3;have qp:((cs++[c]).flatten++cW zF m).length=(cs.flatten++cW zF (m+1)).length:=by rw[HC,MQ];simp[e1,zF];omega
   generalize cs.flatten++cW zF (m+1)=X at*;obtain⟨Y,hY⟩:∃Y,(cs++[c]).flatten++cW zF m=Y:=⟨_,rfl⟩;rw[hY]at gZ qp;have d1:N<n2:=by omega
   have d2:¬i=N:=by omega
   have d3:¬i'=N:=by omega
   simp(disch:=first|(simp;done)|omega|rfl) [-V.cells, -V.one,hf,qV,t_,bO,kJ,e1,e2,hb4,gZ];have jV:¬N<N:=by omega
   refine⟨m,by omega,⟨by simp[d1,ay,hW],(hK.trans k2).set (aM N),t+1,cs++[c],by omega,by simp,d1,by show T.get _ N=_;rw[T.ag,av rfl,hY],by simp[cM],fun j q' hj zH=>?_⟩⟩;by_cases rL:j<t
   ·obtain⟨c',g1,g2⟩:=jX j q' rL zH;exact⟨c',by rw[mH (by omega)];exact g1,(g2.ad k2).aI t_ Ct qp⟩
   obtain rfl:j=t:=by omega
   rw[Nh aE,hx,hy]at zH;simp only[il,au]at zH;subst zH;exact⟨c,by rw[qI (by omega),cM];simp,hc.aI t_ Ct qp⟩
 rintro _ r ⟨H,n1,W⟩ hr ⟨rfl,hW,hK,t,cs,ht,qV,ra,hM,cM,jX⟩;simp only at hW hK hM ra jX;obtain rfl:t=a.length:=by omega
 simp[hr,az,hW,hK];have hz:cW zF 0=[]:=by simp[cW]
 obtain⟨f1,_,_⟩:=Q2 (l:=mF F a b a.length) (by rw[zG];omega) (fun j q hj hq=>jX j q (by omega) hq);have jr:=yN f1;rw[hz,zQ]at hM;refine⟨⟨cs,.inr ⟨N,0,some a.length,cs.flatten,_,true,by rw[cM],ra,hM,fun j x hx=>by rw[yR];exact PU f1 hx,by omega,fun k hk=>by simp at hk;omega⟩,by rw[zG];exact cM,fun j q hq=>jX j q (by have:=gI hq;rw[zG]at this;omega) hq⟩,fun i hi=>?_⟩;simp[dm]at hi;subst hi;exact⟨_,_,hM⟩
def Ya7{h:T O}{N:Nat}{u v:V}{k:Nat}(hu:jm h N u a)(hv:jm h N v b)(f_:a.length<=b.length)(ha:∀q∈a,Qb j q)(hb:∀q∈b,Qb k q)(hj:j<=400000000)(hk:k<=400000000)(hl:a.length<1000000000):Fn A.C 69 [u,v,.func 70 [] []] h N (fun x h' n'=>d_ h' n' x (zP a b a.length)):=
 Zys (fun x y=>x*y) hu hv f_ (fun x hx y hy h' n' ca cb _ q5 p5=>by
  have zE:=ha x hx
  have mG:=hb y hy
  have w1:=wN zE.1
  have w2:=wN (z:=(x.den:Int)) (k:=j) (by rw[ed];exact zE.2)
  have w3:=wN mG.1
  have w4:=wN (z:=(y.den:Int)) (k:=k) (by rw[ed];exact mG.2)
  exact(SN q5.fc p5.fc (by omega) (by omega) (by omega) (by omega))) hl
def ZO{k:Nat}(ha:∀q∈a,Qb j q)(hb:∀q∈b,Qb k q)(hj:1<=j)(hk:1<=k):∀q∈zP a b n,Qb (j+k) q:=fun q hq=>by
 unfold zP at hq
 obtain⟨i,_,rfl⟩:=bK.1 hq
 exact(mS ha hj i).mul (mS hb hk i)
variable {l:List aG} {m:List (List aG)} {n:Nat}
def A.b13:=A.q Tryz.f13
def A.k13:=@A.kk 13 22 [.tmp 4,.tmp 5] A.b13 (by kernel_rfl) rfl
def a_(l:List aG):List Rat:=l.map jo
def bF(m:List (List aG)):List (List Rat):=m.map a_
def uN:∀{l:List Int},cg l=0->∀x∈l,x=0
 |[],_,x,hx=>by simp at hx
 |y::l,h,x,hx=>by
  simp only[cg]at h
  split at h
  ·rename_i h0
   rcases ky.1 hx with rfl|hx
   ·exact h0
   ·exact uN h x hx
  ·rename_i h0;exact absurd h h0
def jB(l:List aG):Prop:=∀s∈l,aV s=0/\s.length<=24
def jB.yF(h:jB l):(a_ l).map aO=l:=by
 unfold a_;rw[List.map_map];conv=>rhs;rw[<-List.map_id l]
 apply Aq;intro s hs;exact(H0 (h s hs).1).1
def jB.qb(h:jB l):∀q∈a_ l,Qb 100 q:=fun q hq=>by
 obtain⟨s,hs,rfl⟩:=bK.1 hq
 exact Yyq (h s hs).1 (h s hs).2
def jB.sl{h:T O}{N:Nat}{v:V}(hs:Sl h N v (strs l))(hl:jB l):Tx h N v (a_ l):=by unfold Tx tx;rw[hl.yF];exact hs
def eN.rat{h:T O}{N:Nat}{v:V}(hs:eN h N v m)(hm:∀r∈m,jB r):oa h N v (bF m):=by
 apply eN.VD;have:((bF m).map fun l=>l.map aO)=m:=by
  unfold bF;rw[List.map_map];conv=>rhs;rw[<-List.map_id m]
  apply Aq;intro r hr;exact(hm r hr).yF
 rw[this];exact hs
def Tn(h:dj l n=0)(hs:dr 6 l=true):l.length=n/\jB l:=by
 unfold dj at h;split at h
 ·rename_i hn;refine⟨hn,fun s jv=>?_⟩;have h1:=uN h _ (bK.2 ⟨s,jv,rfl⟩);have h2:l.all qq=true:=by unfold dr at hs;rw[fW]at hs;exact hs.2
  have h3:=iK.1 h2 s jv;simp[qq]at h3;exact⟨by omega,h3⟩
 exact absurd h (by decide)
def ZL(h:dr n l=true):mL l.length n=true:=by unfold dr at h;rw[fW]at h;exact h.1
structure u_ (m:List (List aG)) (n:Nat):Prop where
 pos:0<m.length
 le:m.length<=6
 n1:0<n
 n6:n<=6
 row:∀r∈m,r.length=n/\jB r
def u_.rat(h:u_ m n):∀r∈bF m,r.length=n/\∀q∈r,Qb 100 q:=fun r hr=>by
 obtain⟨s,hs,rfl⟩:=bK.1 hr
 exact⟨by simp[a_,(h.row s hs).1],(h.row s hs).2.qb⟩
def Zrp(h:jO 6 6 m=true):mL m.length 6=true/\∀r∈m,dr 6 r=true:=by unfold jO at h;rw[fW,iK]at h;exact h
def Yxy(h:0<m.length):∃r∈m,aW m=r.length:=by obtain⟨r,hr⟩:=bj h;exact⟨r,cy hr,by simp[aW,hr]⟩
def Zp3{k:Nat}(h:mL k 6=true)(h2:k<=64):k<=6:=by simp[mL]at h;omega
def Ej(h:dr 6 l=true):l.length<100000/\∀s∈l,s.length<=100000:=by refine⟨by have:=Yaz (ZL h) (by omega);omega,fun s hs=>?_⟩;unfold dr at h;rw[fW]at h;have h3:=iK.1 h.2 s hs;simp[qq]at h3;omega
def Lu(h:jO 6 6 m=true):m.length<100000/\∀r∈m,r.length<100000/\∀s∈r,s.length<=100000:=by obtain⟨s1,s2⟩:=Zrp h;exact⟨by have:=Yaz s1 (by omega);omega,fun r hr=>Ej (s2 r hr)⟩
def Oa(e:Int)(l:List Rat)(x:V)(h:T O)(n:Nat):Prop:=(e≠0/\x=.aX [.aa,.int .i64 e])\/(e=0/\((mT l=true/\x=.aX [.aa,.int .i64 4])\/(mT l=false/\∃v,x=.aX [v,.int .i64 0]/\Tx h n v l)))
def Z1(m:List (List aG))(l:List aG):Int:=cg [fI m 64 64,dj l (aW m)]
def CY{a b:List Rat}{j k:Nat}(ha:∀q∈a,Qb j q)(hb:∀q∈b,Qb k q)(hj:1<=j)(hk:1<=k)(hn:a.length<=n):Qb (n*(j+k+1)+1) (dh a b):=(VC ha hb hj hk a.length).mono (by have:=jz (j+k+1) hn;omega)
def Z2{a b:V}{x y:Int}{P:V->Int->Nat->Prop}(h0:P a x 0)(h1:x=0->P b y 1):∀(j:Nat) (f:V) (e:Int),[a,b][j]?=some f->[x,y][j]?=some e->(∀(i:Nat) (z:Int),i<j->[x,y][i]?=some z->z=0)->P f e j
 |0,f,e,hf,he,_=>by simp at hf he;subst hf he;exact h0
 |1,f,e,hf,he,hz=>by simp at hf he;subst hf he;exact h1 (hz 0 x (by omega) rfl)
 |j+2,f,e,hf,_,_=>by simp at hf
def Yak{a b c:V}{x y z:Int}{P:V->Int->Prop}(h0:P a x)(h1:x=0->P b y)(h2:x=0->y=0->P c z):∀(j:Nat) (f:V) (e:Int),[a,b,c][j]?=some f->[x,y,z][j]?=some e->(∀(i:Nat) (t:Int),i<j->[x,y,z][i]?=some t->t=0)->P f e
 |0,f,e,hf,he,_=>by simp at hf he;subst hf he;exact h0
 |1,f,e,hf,he,hz=>by simp at hf he;subst hf he;exact h1 (hz 0 x (by omega) rfl)
 |2,f,e,hf,he,hz=>by simp at hf he;subst hf he;exact h2 (hz 0 x (by omega) rfl) (hz 1 y (by omega) rfl)
 |j+3,f,e,hf,_,_=>by simp at hf
def Yve{l:List aG}{z:Int}(h:cg (l.map (sV z))=0)(hs:dr 6 l=true):jB l:=fun s jv=>by
 have h1:=uN h _ (bK.2 ⟨s,jv,rfl⟩)
 unfold dr at hs
 rw[fW]at hs
 have h3:=iK.1 hs.2 s jv
 simp[qq]at h3
 refine⟨?_,h3⟩
 unfold sV at h1
 split at h1
 ·assumption
 ·omega
def TP(e:Int)(l:List Rat)(v:V)(c:Int)(h:T O)(n:Nat):Prop:=(e≠0/\v=.aa/\c=e)\/(e=0/\((mT l=true/\v=.aa/\c=4)\/(mT l=false/\c=0/\Tx h n v l)))
variable {N:Nat} {h:T O}
def A.b135:=A.q Tryz.f135
def A.k135:=@A.kk 135 9 [.cell 2 (some 4)] A.b135 (by kernel_rfl) rfl
def A.b91:=A.q Tryz.f91
def A.k91:=@A.kk 91 9 [.cell 4 (some 4)] A.b91 (by kernel_rfl) rfl
def Yiy{x:V}{q:Rat}(hx:Fc h N x q)(l1:wl q.num<1000000000):Fn A.C 135 [x] h N (fun v h' n'=>Fc h' n' v (-q)):=by
 intro w;rw[aQ,A.k135 (by simp)];obtain⟨n1,u1,n2,u2,rfl,s1,s2⟩:=hx;have o1:=eD s1;have o2:=eD s2;unfold V.one at o1 o2;have kB:ab h N ((h.set N (.cells [.int .i64 n1,u1,.int .i64 n2,u2] 96 true)).set (N+1) (.cells [.int .i64 0,.aa,.int .i64 0,.aa] 96 true)) (N+2):=aR (aR ab.refl _) _;simp[A.b135,aS,aP,o1,o2];generalize kV:(h.set N (.cells [.int .i64 n1,u1,.int .i64 n2,u2] 96 true)).set (N+1) (.cells [.int .i64 0,.aa,.int .i64 0,.aa] 96 true)=hB at*;have b1:hB.get N=some (.cells [.int .i64 n1,u1,.int .i64 n2,u2] 96 true):=by rw[<-kV];simp
 have b3:hB.get (N+1)=some (.cells [.int .i64 0,.aa,.int .i64 0,.aa] 96 true):=by rw[<-kV];simp
 refine ar (MH (s1.ad kB) (by omega)) ?_;rintro v5 h1 m1 k1 q1;obtain⟨n3,u3,rfl⟩:∃n3 u3,v5=.agg [.int .i64 n3,u3]:=by rcases q1 with⟨rfl,_⟩|⟨_,_,_,_,rfl,_⟩<;>exact⟨_,_,rfl⟩
 have o3:=eD q1;unfold V.one at o3;have fM:=k1.le;have f1:=(k1.get N (by omega)).trans b1;have f3:=(k1.get (N+1) (by omega)).trans b3;have e1:N<m1:=by omega
 have e2:N+1<m1:=by omega
 simp[f1,f3,e1,e2,aS,aP,ae,bO,o2,o3,dv.dw,az];have kk:=kB.trans k1;exact⟨kk.set (by omega),n3,u3,n2,u2,rfl,by rw[Rat.neg_num];exact q1.aI (i:=N+1) f3 pF rfl,by rw[Rat.neg_den];exact((s2.ad kB).ad k1).aI (i:=N+1) f3 pF rfl⟩
def Yiv{x y:V}{p q:Rat}(hx:Fc h N x p)(hy:Fc h N y q)(l1:wl p.num<1000000000)(l2:wl (p.den:Nat)<1000000000)(l3:wl q.num<1000000000)(l4:wl (q.den:Nat)<1000000000):Fn A.C 91 [x,y] h N (fun v h' n'=>Fc h' n' v (p-q)):=by
 intro w;rw[aQ,A.k91 (by simp)];have jK:=hx;have yD:=hy;obtain⟨n1,u1,n2,u2,rfl,s1,s2⟩:=hx;obtain⟨n3,u3,n4,u4,rfl,s3,s4⟩:=hy;have o1:=eD s1;have o2:=eD s2;have o3:=eD s3;have o4:=eD s4;unfold V.one at o1 o2 o3 o4;have kB:ab h N (((h.set N (.cells [.int .i64 n1,u1,.int .i64 n2,u2] 96 true)).set (N+1) (.cells [.int .i64 n3,u3,.int .i64 n4,u4] 96 true)).set (N+2) (.cells [.int .i64 0,.aa,.int .i64 0,.aa] 96 true)) (N+3):=aR (aR (aR ab.refl _) _) _;simp[A.b91,aS,aP,o1,o2,o3,o4];generalize kV:((h.set N (.cells [.int .i64 n1,u1,.int .i64 n2,u2] 96 true)).set (N+1) (.cells [.int .i64 n3,u3,.int .i64 n4,u4] 96 true)).set (N+2) (.cells [.int .i64 0,.aa,.int .i64 0,.aa] 96 true)=hB at*;have b1:hB.get N=some (.cells [.int .i64 n1,u1,.int .i64 n2,u2] 96 true):=by rw[<-kV];simp
 have b2:hB.get (N+1)=some (.cells [.int .i64 n3,u3,.int .i64 n4,u4] 96 true):=by rw[<-kV];simp
 have b3:hB.get (N+2)=some (.cells [.int .i64 0,.aa,.int .i64 0,.aa] 96 true):=by rw[<-kV];simp
 refine ar (Yiy (yD.ad kB) l3) ?_;rintro v5 h1 m1 k1 q1;have fM:=k1.le;have f1:=(k1.get N (by omega)).trans b1;have f2:=(k1.get (N+1) (by omega)).trans b2;have f3:=(k1.get (N+2) (by omega)).trans b3;have e1:N<m1:=by omega
 have e2:N+1<m1:=by omega
 simp;refine ar (Yi3 ((jK.ad kB).ad k1) q1 l1 l2 (by rw[Rat.neg_num,Qs];exact l3) (by rw[Rat.neg_den];exact l4)) ?_;rintro v7 h3 m3 k3 hv;rw[<-Rat.sub_eq_add_neg]at hv;obtain⟨n5,u5,n6,u6,rfl,t1,t2⟩:=hv;have o5:=eD t1;have o6:=eD t2;unfold V.one at o5 o6;have jT:=k3.le;have f5:=(k3.get (N+2) (by omega)).trans f3;have e3:N+2<m3:=by omega
 simp[f5,e3,aS,aP,ae,bO,o5,o6,dv.dw,az];have kk:=(kB.trans k1).trans k3;exact⟨kk.set (by omega),n5,u5,n6,u6,rfl,t1.aI (i:=N+2) f5 pF rfl,t2.aI (i:=N+2) f5 pF rfl⟩
def Qb.CK{q:Rat}{k:Nat}(h:Qb k q):wl q.num<=k/\wl (q.den:Nat)<=k:=⟨wN h.1,wN (z:=(q.den:Int)) (k:=k) (by rw[ed];exact h.2)⟩
def mM(a b:List Rat):List Rat:=mF (fun x y=>x-y) a b a.length
def Ya6{u v:V}{a b:List Rat}{j k:Nat}(hu:jm h N u a)(hv:jm h N v b)(f_:a.length<=b.length)(ha:∀q∈a,Qb j q)(hb:∀q∈b,Qb k q)(hj:j<=400000000)(hk:k<=400000000)(hl:a.length<1000000000):Fn A.C 69 [u,v,.func 91 [] []] h N (fun x h' n'=>d_ h' n' x (mM a b)):=
 Zys (fun x y=>x-y) hu hv f_ (fun x hx y hy h' n' ca cb _ q5 p5=>by
  have w1:=(ha x hx).CK
  have w3:=(hb y hy).CK
  exact(Yiv q5.fc p5.fc (by omega) (by omega) (by omega) (by omega))) hl
variable {N:Nat} {ep:TypeId} {h:T O} {l:List aG} {m:List (List aG)} {u v:V} {wp wq:Bool}
def A.b52:=A.q Tryz.f52
def A.k52:=@A.kk 52 6 [.tmp 2] A.b52 (by kernel_rfl) rfl
def A.b132:=A.q Tryz.f132
def A.k132:=@A.kk 132 12 [.tmp 4] A.b132 (by kernel_rfl) rfl
def A.b130:=A.q Tryz.f130
def A.k130:=@A.kk 130 4 [.tmp 1] A.b130 (by kernel_rfl) rfl
def A.b131:=A.q Tryz.f131
def A.k131:=@A.kk 131 7 [.tmp 2] A.b131 (by kernel_rfl) rfl
def A.b47:=A.q Tryz.f47
def A.k47:=@A.kk 47 9 [.tmp 4] A.b47 (by kernel_rfl) rfl
def A.b61:=A.q Tryz.f61
def A.k61:=@A.kk 61 4 [.tmp 1] A.b61 (by kernel_rfl) rfl
def A.b62:=A.q Tryz.f62
def A.k62:=@A.kk 62 7 [.tmp 2] A.b62 (by kernel_rfl) rfl
def A.b63:=A.q Tryz.f63
def A.k63:=@A.kk 63 9 [.tmp 2] A.b63 (by kernel_rfl) rfl
def A.b65:=A.q Tryz.f65
def A.k65:=@A.kk 65 6 [.tmp 2] A.b65 (by kernel_rfl) rfl
def A.b66:=A.q Tryz.f66
def A.k66:=@A.kk 66 7 [.tmp 2] A.b66 (by kernel_rfl) rfl
def A.b67:=A.q Tryz.f67
def A.k67:=@A.kk 67 9 [.tmp 2] A.b67 (by kernel_rfl) rfl
def Tk{l:List (List aG)}(hs:eN h N v l)(hl:l.length<100000)(hx:∀x∈l,x.length<100000/\∀s∈x,s.length<=100000):Fn A.C 52 [v] h N (fun u _ _=>u=.int .i64 (fI l 64 16)):=by intro w;rw[aQ,A.k52 (by simp)];simp[A.b52,ae];refine ar (Yad (a:=64) (b:=16) hs hl hx) ?_;rintro _ H2 n2 k2 rfl;simp[az];exact k2
def Lr(h:fI m 64 16=0)(hs:jO 6 6 m=true):u_ m (aW m):=by
 obtain⟨s1,s2⟩:=Zrp hs;unfold fI at h;split at h
 ·exact absurd h (by decide)
 split at h
 ·exact absurd h (by decide)
 rename_i h1 h2;have hp:0<m.length:=by omega
 obtain⟨r0,ib,e0⟩:=Yxy hp;refine⟨hp,Zp3 s1 (by omega),by omega,?_,fun r hr=>Tn (uN h _ (bK.2 ⟨r,hr,rfl⟩)) (s2 r hr)⟩;rw[e0];exact Zp3 (ZL (s2 r0 ib)) (by omega)
def Yw7{n:Nat}(ht:Sl h N v (strs l))(jL:l.length<100000)(vw:∀s∈l,s.length<=100000):Fn A.C 132 [v,.int .i64 n] h N (fun z _ _=>z=.int .i64 (tj l n 1)):=by
 intro w;have ll:=ht.len;rw[mY]at ll;have sg:∀w,A.C.call (.func 99 [] []) [.int .i64 1] ⟨h,N,w⟩=some (.func 170 [] [.ptr N 0],⟨h.set N (.cells [.int .i64 1] 3 true),N+1,w⟩):=fun w=>by apply Call.eq;rw[aQ,A.k99 (by simp)];simp[A.b99]
 have e1:((l.length:Int)=(n:Int))=(l.length=n):=by apply propext;omega
 rw[aQ,A.k132 (by simp)];by_cases c:l.length=n
 ·subst c;simp[A.b132,ll,sg];have k1:ab h N (h.set N (.cells [.int .i64 1] 3 true)) (N+1):=ab.refl.new _;refine ar (Yi9 (sV 1) (ht.ad k1) jL fun s hs h' n' hk=>Ycg (z:=1) (e:=3) (rw:=true) (by rw[hk.get N (by omega)];simp) (by have:=hk.le;omega) (vw s hs)) ?_;rintro _ H2 n2 k2 rfl;simp[az,tj];exact k1.trans k2
 simp[A.b132,ll,e1,c,az,tj];exact ab.refl
def Yu5{q:Nat}{l:List aG}{eq:TypeId}(pS:h.get q=some (.cells [u] eq wq))(xm:q<N)(hs:eN h N u m)(iH:m.length<100000)(cU:∀x∈m,x.length<100000/\∀s∈x,s.length<=100000):gF A.C (.func 130 [] [.ptr q 0]) [] h N (fun z _ _=>z=.int .i64 (fI m 64 16)):=by intro w;rw[aQ,A.k130 (by simp)];simp[A.b130,pS];refine ar (Tk hs iH cU) ?_;rintro _ H2 n2 k2 rfl;simp[az];exact k2
def Yu4{p q:Nat}{eq:TypeId}(jP:h.get p=some (.cells [v] ep wp))(Bg:p<N)(pS:h.get q=some (.cells [u] eq wq))(xm:q<N)(hs:eN h N u m)(iH:m.length<100000)(cU:∀x∈m,x.length<100000/\∀s∈x,s.length<=100000)(ht:Sl h N v (strs l))(jL:l.length<100000)(vw:∀s∈l,s.length<=100000):gF A.C (.func 131 [] [.ptr p 0,.ptr q 0]) [] h N (fun z _ _=>z=.int .i64 (tj l m.length 1)):=by intro w;have ml:=hs.len;rw[aQ,A.k131 (by simp)];simp[A.b131,pS,jP,ml];refine ar (Yw7 ht jL vw) ?_;rintro _ H2 n2 k2 rfl;simp[az];exact k2
def Ysj{q:Nat}{l:List aG}{eq:TypeId}(pS:h.get q=some (.cells [u] eq wq))(xm:q<N)(hs:eN h N u m)(iH:m.length<100000)(cU:∀x∈m,x.length<100000/\∀s∈x,s.length<=100000):gF A.C (.func 61 [] [.ptr q 0]) [] h N (fun z _ _=>z=.int .i64 (fI m 64 16)):=by intro w;rw[aQ,A.k61 (by simp)];simp[A.b61,pS];refine ar (Tk hs iH cU) ?_;rintro _ H2 n2 k2 rfl;simp[az];exact k2
def Ysi{p q:Nat}{eq:TypeId}(jP:h.get p=some (.cells [v] ep wp))(Bg:p<N)(pS:h.get q=some (.cells [u] eq wq))(xm:q<N)(hs:eN h N u m)(iH:m.length<100000)(cU:∀x∈m,x.length<100000/\∀s∈x,s.length<=100000)(ht:Sl h N v (strs l))(jL:l.length<100000)(vw:∀s∈l,s.length<=100000):gF A.C (.func 62 [] [.ptr p 0,.ptr q 0]) [] h N (fun z _ _=>z=.int .i64 (dj l m.length)):=by intro w;have ml:=hs.len;rw[aQ,A.k62 (by simp)];simp[A.b62,pS,jP,ml];refine ar (Iz ht jL vw) ?_;rintro _ H2 n2 k2 rfl;simp[az];exact k2
def Ysh{p q:Nat}{eq:TypeId}(jP:h.get p=some (.cells [v] ep wp))(Bg:p<N)(pS:h.get q=some (.cells [u] eq wq))(xm:q<N)(hs:eN h N u m)(iH:m.length<100000)(cU:∀x∈m,x.length<100000/\∀s∈x,s.length<=100000)(ht:Sl h N v (strs l))(jL:l.length<100000)(vw:∀s∈l,s.length<=100000)(m0:0<m.length):gF A.C (.func 63 [] [.ptr p 0,.ptr q 0]) [] h N (fun z _ _=>z=.int .i64 (dj l (aW m))):=by
 intro w;have ml:=hs.len;have rX:0<(m.length:Int):=by omega
 obtain⟨l0,cB⟩:=bj m0;obtain⟨i0,o0,Lq,e0,C7,u0,z1,z2,z3,z4,z5⟩:=hs.at cB;have z6:=z5.len;rw[mY]at z6;rw[gE]at z4;obtain⟨n,hn⟩:∃n,n=l0.length:=⟨_,rfl⟩;have en:aW m=n:=by simp[aW,cB,hn]
 rw[en];rw[<-hn]at z6;rw[aQ,A.k63 (by simp)];simp[A.b63,pS,jP,ml,m0,z1,z2,z3,z4,z6];refine ar (Iz ht jL vw) ?_;rintro _ H2 n2 k2 rfl;have uM:=k2.le;simp[];refine(wD (by simp[-ay,xm,Bg])).2 ?_;simp[az];exact k2
def Yoo{p q:Nat}{eq:TypeId}(jP:h.get p=some (.cells [v] ep wp))(Bg:p<N)(pS:h.get q=some (.cells [u] eq wq))(xm:q<N)(hs:eN h N u m)(iH:m.length<100000)(cU:∀x∈m,x.length<100000/\∀s∈x,s.length<=100000)(ht:Sl h N v (strs l))(jL:l.length<100000)(vw:∀s∈l,s.length<=100000):gF A.C (.func 66 [] [.ptr p 0,.ptr q 0]) [] h N (fun z _ _=>z=.int .i64 (dj l m.length)):=by intro w;have ml:=hs.len;rw[aQ,A.k66 (by simp)];simp[A.b66,pS,jP,ml];refine ar (Iz ht jL vw) ?_;rintro _ H2 n2 k2 rfl;simp[az];exact k2
def Yon{p q:Nat}{eq:TypeId}(jP:h.get p=some (.cells [v] ep wp))(Bg:p<N)(pS:h.get q=some (.cells [u] eq wq))(xm:q<N)(hs:eN h N u m)(iH:m.length<100000)(cU:∀x∈m,x.length<100000/\∀s∈x,s.length<=100000)(ht:Sl h N v (strs l))(jL:l.length<100000)(vw:∀s∈l,s.length<=100000)(m0:0<m.length):gF A.C (.func 67 [] [.ptr p 0,.ptr q 0]) [] h N (fun z _ _=>z=.int .i64 (dj l (aW m))):=by
 intro w;have ml:=hs.len;have rX:0<(m.length:Int):=by omega
 obtain⟨l0,cB⟩:=bj m0;obtain⟨i0,o0,Lq,e0,C7,u0,z1,z2,z3,z4,z5⟩:=hs.at cB;have z6:=z5.len;rw[mY]at z6;rw[gE]at z4;obtain⟨n,hn⟩:∃n,n=l0.length:=⟨_,rfl⟩;have en:aW m=n:=by simp[aW,cB,hn]
 rw[en];rw[<-hn]at z6;rw[aQ,A.k67 (by simp)];simp[A.b67,pS,jP,ml,m0,z1,z2,z3,z4,z6];refine ar (Iz ht jL vw) ?_;rintro _ H2 n2 k2 rfl;have uM:=k2.le;simp[];refine(wD (by simp[-ay,xm,Bg])).2 ?_;simp[az];exact k2
def eN.one(hm:eN h N u m):V.one u=true/\V.cells u=[u]:=by obtain⟨us,⟨_,rfl|rfl⟩|⟨i,o,cp,c,e,rw,rfl,_⟩,_⟩:=hm<;>exact⟨rfl,rfl⟩
def C9(m:List (List aG))(l:List aG):Int:=cg [fI m 64 16,tj l m.length 1]
def Yqk(hm:eN h N u m)(hl:Sl h N v (strs l))(m1:m.length<100000)(m2:∀x∈m,x.length<100000/\∀s∈x,s.length<=100000)(l1:l.length<100000)(l2:∀s∈l,s.length<=100000):Fn A.C 47 [u,v] h N (fun z _ _=>z=.int .i64 (C9 m l)):=by
 intro w;have o2:=hl.form.one;have o3:=hl.form.cells;obtain⟨o4,o5⟩:=hm.one;rw[aQ,A.k47 (by simp)];unfold V.one at o2 o4;unfold V.cells at o3 o5;simp[A.b47,o2,o3,o4,o5,ae];generalize hH:((h.set N (.cells [u] 22 true)).set (N+1) (.cells [v] 23 true)).set (N+1+1) (.cells [.func 130 [] [.ptr N 0],.func 131 [] [.ptr (N+1) 0,.ptr N 0]] 87 true)=H;have kB:ab h N H (N+1+1+1):=by rw[<-hH];exact((ab.refl.new _).new _).new _
 have g0:H.get N=some (.cells [u] 22 true):=by rw[<-hH];simp
 have g1:H.get (N+1)=some (.cells [v] 23 true):=by rw[<-hH];simp
 have g2:H.get (N+1+1)=some (.cells [.func 130 [] [.ptr N 0],.func 131 [] [.ptr (N+1) 0,.ptr N 0]] 87 true):=by rw[<-hH];simp
 clear hH;have hs:Sl H (N+1+1+1) (.slice (N+1+1) 0 2 (some 2) 1) [.func 130 [] [.ptr N 0],.func 131 [] [.ptr (N+1) 0,.ptr N 0]]:=Sl.row (by omega) g2 rfl (fun k hk=>by simp at hk;omega);have key:=Ob (l:=[fI m 64 16,tj l m.length 1]) hs rfl (by simp) (Z2 (P:=fun f e _=>∀h' n',ab H (N+1+1+1) h' n'->gF A.C f [] h' n' (fun u _ _=>u=.int .i64 e)) (fun h' n' hk=>Yu5 (l:=l) ((hk.get N (by omega)).trans g0) (by have:=hk.le;omega) ((hm.ad kB).ad hk) m1 m2) (fun hz h' n' hk=>Yu4 ((hk.get (N+1) (by omega)).trans g1) (by have:=hk.le;omega) ((hk.get N (by omega)).trans g0) (by have:=hk.le;omega) ((hm.ad kB).ad hk) m1 m2 ((hl.ad kB).ad hk) l1 l2));change Fn A.C 54 _ H _ (fun u _ _=>u=.int .i64 (C9 m l))at key;refine ar key ?_;rintro _ H2 n2 k2 rfl;simp[az];exact kB.trans k2
def Yop{q p:Nat}{eq:TypeId}(pS:h.get q=some (.cells [u] eq wq))(xm:q<N)(jP:h.get p=some (.cells [v] ep wp))(Bg:p<N)(hs:eN h N u m)(iH:m.length<100000)(cU:∀x∈m,x.length<100000/\∀s∈x,s.length<=100000)(ht:Sl h N v (strs l))(jL:l.length<100000)(vw:∀s∈l,s.length<=100000):gF A.C (.func 65 [] [.ptr q 0,.ptr p 0]) [] h N (fun z _ _=>z=.int .i64 (C9 m l)):=by intro w;rw[aQ,A.k65 (by simp)];simp[A.b65,pS,jP];refine ar (Yqk hs ht iH cU jL vw) ?_;rintro _ H2 n2 k2 rfl;simp[az];exact k2
def A.b64:=A.q Tryz.f64
def A.k64:=@A.kk 64 12 [.tmp 6] A.b64 (by kernel_rfl) rfl
def A.b14:=A.q Tryz.f14
def A.k14:=@A.kk 14 27 [.tmp 6,.tmp 7] A.b14 (by kernel_rfl) rfl
def Yrj{a b:List Rat}{j k:Nat}(ha:∀q∈a,Qb j q)(hb:∀q∈b,Qb k q)(hj:1<=j)(hk:1<=k):∀q∈mM a b,Qb (j+k+1) q:=fun q hq=>by
 unfold mM mF at hq
 obtain⟨i,_,rfl⟩:=bK.1 hq
 have h1:=mS ha hj i
 have h2:=mS hb hk i
 have h3:Qb k (-(b[i]?.getD 0)):=⟨by rw[Rat.neg_num,yE];exact h2.1,by rw[Rat.neg_den];exact h2.2⟩
 have:=h1.add h3
 rw[<-Rat.sub_eq_add_neg]at this
 exact this
def NZ(m:List (List aG))(s x:List aG):Int:=cg [fI m 64 16,dj s m.length,dj x (aW m)]
def xp(m:List (List aG))(s x:List aG):List Rat:=mM (a_ s) ((bF m).map fun r=>dh r (a_ x))
def A.b15:=A.q Tryz.f15
def A.k15:=@A.kk 15 38 [.tmp 8,.tmp 9] A.b15 (by kernel_rfl) rfl
def ZR(e:Int)(q:Rat)(x:V):Prop:=(e≠0/\x=.aX [.str [],.int .i64 e])\/(e=0/\((wW q=true/\x=.aX [.str [],.int .i64 4])\/(wW q=false/\x=.aX [.str (aO q),.int .i64 0])))
def N6(m:List (List aG))(w s x:List aG):Int:=cg [C9 m w,dj s m.length,dj x (aW m)]
def IC(m:List (List aG))(w s x:List aG):Rat:=dh (zP (xp m s x) (a_ w) (xp m s x).length) (xp m s x)
def Tr{m:List (List aG)}{w:List aG}(h:C9 m w=0)(sm:jO 6 6 m=true)(sw:dr 6 w=true):u_ m (aW m)/\w.length=m.length/\jB w:=by
 have h1:=uN h (fI m 64 16) (by simp);have h2:=uN h (tj w m.length 1) (by simp);refine⟨Lr h1 sm,?_⟩;unfold tj at h2;split at h2
 ·rename_i e;exact⟨e,Yve h2 sw⟩
 exact absurd h2 (by decide)
def Zz4{m:List (List aG)}{s x:List aG}:(xp m s x).length=s.length:=by simp[xp,mM,zG,a_]
variable {N:Nat} {h:T O} {w:List Nat} {z:Int}
def A.SC:=A.q Tryz.f186
def A.pA:=A.ql A.SC 0 []
def A.b186:=(fun x0=>A.qb A.SC [x0]) A.pA
def A.k186:=@A.kk 186 19 [.tmp 4] A.b186 (by kernel_rfl) rfl
def A.b123:=A.q Tryz.f123
def A.k123:=@A.kk 123 9 [.tmp 4] A.b123 (by kernel_rfl) rfl
def CF(z:Int):List Int->Nat->Int
 |[],_=> -1
 |x::l,k=>if z=x then k else CF z l (k+1)
def Ya8{z:Int}:∀{l:List Int} {k:Nat},decide (0<=CF z l k)=l.contains z
 |[],k=>by simp[CF]
 |x::l,k=>by
  unfold CF
  by_cases e:z=x
  ·rw[av e];subst e;simp
  ·rw[ak e,Ya8,List.contains_cons]
   have:(z==x)=false:=by simpa using e
   rw[this,Bool.false_or]
def Xao{v:V}{l:List Int}(hs:Sl h N v (dI l))(hl:l.length<100000):A.C.call (.func 186 [] []) [v,.int .i64 z] ⟨h,N,w⟩=some (.int .i64 (CF z l 0),⟨h,N,w⟩):=by
 apply Call.eq;have lg:=hs.len;rw[h_]at lg;rw[aQ,A.k186 (by simp)];simp[A.b186,lg];refine b_ [(4,5),(8,18)] (fun e r st=>st=⟨h,N,[]⟩/\((e=.exit 0/\CF z l 0= -1)\/(e=.ret/\r.get 4=some (.int .i64 (CF z l 0))))) (fun m r st=>st=⟨h,N,[]⟩/\∃k,k+m=l.length/\r.get 8=some (.int .i64 k)/\CF z l 0=CF z (l.drop k) k) l.length ?_ ?_ ?_
 ·exact⟨rfl,0,by omega,by simp,by simp⟩
 ·rintro m r _ hr hf ⟨rfl,k,hk,h8,hz⟩;rw[bu];cases m with
  |zero=>
   obtain rfl:k=l.length:=by omega
   rw[qZ,CF]at hz;simp[A.pA,hr,hf,h8,hz]
  |succ m=>
   have aE:k<l.length:=by omega
   have cK:(k:Int)<(l.length:Int):=by omega
   obtain⟨s,hc⟩:=bj aE;obtain⟨i,o,cc,e,rw,q1,q2,q3,q4⟩:=hs.at (iB hc);rw[nf hc,CF]at hz;by_cases c4:z=s
   ·rw[av c4]at hz;subst c4;simp[A.pA,hr,hf,h8,cK,lg,q1,q3,q4,hz]
   rw[ak c4]at hz;simp(disch:=first|(simp;done)|omega|rfl) [A.pA,hr,hf,h8,cK,lg,q1,q3,q4,c4];exact⟨m,by omega,k+1,by omega,by simp,by simpa using hz⟩
 rintro e r _ hr ⟨rfl,⟨rfl,hq⟩|⟨rfl,h2⟩⟩
 ·simp[hq]
 simp[h2]
def Yu9{v:V}{l:List Int}(hs:Sl h N v (dI l))(hl:l.length<100000):A.C.call (.func 123 [] []) [v,.int .i64 z] ⟨h,N,w⟩=some (.bool (l.contains z),⟨h,N,w⟩):=by apply Call.eq;have hi:=fun w=>Xao (z:=z) (w:=w) hs hl;rw[aQ,A.k123 (by simp)];rw[<-Ya8 (k:=0)];simp[A.b123,hi]
def Ywt{i o:Nat}{cp:Option Nat}{c l:List V}{e:TypeId}{rw:Bool}(h3:h.get i=some (.cells c e rw))(h4:∀j,j<l.length->c[o+j]?=l[j]?)(h5:o+l.length<=c.length):fQ ⟨h,N,w⟩ 1 (.slice i o l.length cp 1)=some (l.length,l):=by
 have:aP c o (l.length*1)=some l:=by
  unfold aP;rw[av (by omega),AH];congr 1;apply nN;intro j;by_cases hj:j<l.length
  ·rw[jZ,av hj,fJ];exact h4 j hj
  rw[fy (by simp;omega),fy (by omega)]
 simp only[fQ,if_true,St.row,h3,this]
end
end Go.Mx
