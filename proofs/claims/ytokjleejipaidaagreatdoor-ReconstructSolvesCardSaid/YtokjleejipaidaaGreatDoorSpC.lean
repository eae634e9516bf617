/-reconstruct-/
import Derived.Test.YtokjleejipaidaaGreatDoorEcL
set_option linter.all false
namespace Go.Mx
noncomputable section
open Go Go.Proofs
variable {N R:Nat} {h:T O} {l:List Rat}
set_option maxRecDepth 1000000
def A.w63:=A.q Tryz.f63
def A.wU:=A.ql A.w63 0 []
def A.b63:=(fun x0=>A.qb A.w63 [x0]) A.wU
def A.k63:=@A.kk 63 18 [.tmp 2] A.b63 (by kernel_rfl) rfl
structure yr (h:T O) (N R:Nat) (l:List Rat) (m:Nat):Prop where
 lt:R<N
 ex:∃cs:List (List V),h.get R=some (.cells (cs.flatten++cW zF m) 108 true)/\cs.length=l.length/\∀(j:Nat) (q:Rat),l[j]?=some q->∃c,cs[j]?=some c/\fu h N c q
def yr.ad{h':T O}{N' m:Nat}(s:yr h N R l m)(k:ab h N h' N'):yr h' N' R l m:=by
 obtain⟨cs,g1,g2,g3⟩:=s.ex
 refine⟨e_ s.lt k.le,cs,(k.get R s.lt).trans g1,g2,fun j q hq=>?_⟩
 obtain⟨c,a,b⟩:=g3 j q hq
 exact⟨c,a,b.ad k⟩
def yr.fcs{cs:List (List V)}(g2:cs.length=l.length)(g3:∀(j:Nat) (q:Rat),l[j]?=some q->∃c,cs[j]?=some c/\fu h N c q):(∀c∈cs,c.length=4)/\tM cs.flatten/\cs.flatten.all V.one=true:=Oo (l:=l) (by omega) fun j q _ hq=>g3 j q hq
def yr.next{m:Nat}{c:List V}{q:Rat}(s:yr h N R l (m+1))(hc:fu h N c q):∃X,h.get R=some (.cells X 108 true)/\l.length*4+4<=X.length/\yr (h.set R (.cells (ae X (l.length*4) c) 108 true)) N R (l++[q]) m:=by
 obtain⟨cs,g1,g2,g3⟩:=s.ex
 obtain⟨f1,f2,_⟩:=yr.fcs g2 g3
 have lJ:=Aj f1
 obtain⟨e1,_⟩:=hc.len
 have gb:ae (cs.flatten++cW zF (m+1)) (l.length*4) c=(cs++[c]).flatten++cW zF m:=by
  rw[F4,SE (n:=4) (by rw[lJ,g2]) rfl e1,KN,tU]
 have F5:tM (cs.flatten++cW zF (m+1)):=f2.app SF
 have DW:((cs++[c]).flatten++cW zF m).length=(cs.flatten++cW zF (m+1)).length:=by
  rw[F4,KN];simp[e1,zF];omega
 refine⟨_,g1,by rw[iN,lJ,g2,Z3];omega,s.lt,cs++[c],by rw[T.ag,ax rfl,gb],by simp[g2],fun j r hr=>?_⟩
 rw[gb]
 by_cases e:j<l.length
 ·rw[iS e]at hr
  obtain⟨x,a,b⟩:=g3 j r hr
  exact⟨x,by rw[iS (by omega)];exact a,b.aH g1 F5 DW⟩
 ·have hj:j=l.length:=by have:=jt hr;simp at this;omega
  subst hj
  rw[lD (aO _)]at hr
  simp at hr
  subst hr
  exact⟨c,by rw[lD (by omega),g2];simp,hc.aH g1 F5 DW⟩
def yr.V9(s:yr h N R l 0):dT h N (.slice R 0 l.length (some l.length) 4) l:=by
 obtain⟨cs,g1,g2,g3⟩:=s.ex
 obtain⟨f1,f2,_⟩:=yr.fcs g2 g3
 have hz:cW zF 0=[]:=by simp[cW]
 rw[hz,yK]at g1
 refine⟨⟨cs,.inr ⟨R,0,some l.length,cs.flatten,_,true,by rw[g2],s.lt,g1,fun j x hj=>by rw[xP];exact Nk f1 hj,by rw[Aj f1];omega,fun k hk=>by simp at hk;omega⟩,g2,g3⟩,fun i hi=>?_⟩
 simp[cQ]at hi
 subst hi
 exact⟨_,_,g1⟩
def Yhk{n:Nat}(hn:n<1000):Fn A.C 63 [.int .i64 n] h N (fun x h' n'=>x=.slice N 0 n (some n) 4/\yr h' n' N ((List.range n).map fun _=>0) 0):=by
 intro w
 have c1:(64:Int)*(n:Int)<=140737488355328:=by omega
 have c2:(n:Int)<4611686018427387904:=by omega
 have kB:ab h N (h.set N (.cells (cW zF n) 108 true)) (N+1):=ab.refl.new _
 have gB:(h.set N (.cells (cW zF n) 108 true)).get N=some (.cells (cW zF n) 108 true):=by rw[T.ag,ax rfl]
 rw[aM,A.k63 (by simp)]
 simp[A.b63,c1,c2]
 refine bA [(4,4),(9,16)] (fun e r st=>e=.exit 0/\ar N st.w=[]/\ab h N st.h st.n/\yr st.h st.n N ((List.range n).map fun _=>0) 0) (fun i r st=>ar N st.w=[]/\ab h N st.h st.n/\∃t,t+i=n/\r.get 9=some (.int .i64 t)/\yr st.h st.n N ((List.range t).map fun _=>0) i) n ?_ ?_ ?_
 ·exact⟨by simp,kB,0,by omega,by simp,by show N<N+1;omega,[],by simp;rfl,rfl,fun j q hq=>by simp at hq⟩
 ·rintro i r ⟨H,n1,W⟩ hr hf ⟨hW,hK,t,ht,h9,hQ⟩
  simp only at hW hK hQ
  rw[bb]
  cases i with
  |zero=>
   obtain rfl:t=n:=by omega
   simp[A.wU,hr,hf,h9,hW,hK]
   exact hQ
  |succ i=>
   have au:t<n:=by omega
   have aS:(t:Int)<(n:Int):=by omega
   simp[A.wU,hr,hf,h9,au,aS]
   refine ay (Ytn (by decide) (by decide)) ?_
   rintro _ H2 n2 k2 hz
   obtain⟨c,rfl,hc⟩:=hz.c
   obtain⟨e1,e2⟩:=hc.len
   have jA:=k2.le
   have ke:(V.agg c).cells=c:=rfl
   obtain⟨X,x1,x2,x3⟩:=(hQ.ad k2).next hc
   have lN:N<n2:=e_ hQ.lt jA
   have hl:((List.range t).map fun _=>(0:Rat)).length=t:=by simp
   rw[hl]at x2 x3
   simp(disch:=first|(simp;done)|omega|rfl) [-V.cells, -V.one,hr,hf,h9,au,aS,bD,ke,e1,e2,x1,x2,lN]
   exact⟨i,by omega,hW,(hK.trans k2).set (aO _),t+1,by omega,by simp,by rw[List.range_succ,List.map_append];exact x3⟩
 ·rintro _ r ⟨H,n1,W⟩ hr ⟨rfl,hW,hK,hQ⟩
  simp only at hW hK hQ
  simp[hr,az,hW,hK]
  exact hQ
set_option maxHeartbeats 2000000
def CL{h:T O}{N:Nat}{v:V}{m:List (List Rat)}(s:fK h N v m){i:Nat}{row:List Rat}(hr:m[i]?=some row):∃j o c e rw u,xA v=some (j,o)/\j<N/\h.get j=some (.cells c e rw)/\c[o+i]?=some u/\dT h N u row:=by
 obtain⟨us,h1,h2,h3⟩:=s
 obtain⟨u,a,b⟩:=h3 i row hr
 obtain⟨j,o,c,e,rw,q1,q2,q3,q4⟩:=h1.at a
 exact⟨j,o,c,e,rw,u,q1,q2,q3,q4,b⟩
variable {d i k n:Nat} {m:List (List Rat)} {r:List Rat}
def Yf8{c x y z:List Rat}{f:Rat}:∀{n:Nat},(∀k,k<n->z[k]?.getD 0=x[k]?.getD 0-f*y[k]?.getD 0)->jD c z n=jD c x n-f*jD c y n
 |0,_=>by simp[jD];grind
 |n+1,h=>by
  have ih:=Yf8 (c:=c) (n:=n) fun k hk=>h k (by omega)
  have e:=h n (by omega)
  unfold jD
  rw[ih,e]
  grind
def Yf9{c x z:List Rat}{p:Rat}:∀{n:Nat},(∀k,k<n->z[k]?.getD 0=x[k]?.getD 0/p)->jD c z n=jD c x n/p
 |0,_=>by simp[jD,Rat.div_def,Rat.zero_mul]
 |n+1,h=>by
  have ih:=Yf9 (c:=c) (n:=n) fun k hk=>h k (by omega)
  have e:=h n (by omega)
  unfold jD
  rw[ih,e,Rat.div_def,Rat.div_def,Rat.div_def]
  grind
def mb(n:Nat)(C:List (List Rat))(r:List Rat):List Rat:=r.take n++C.map fun c=>lK c (r.drop n)
def KV{C:List (List Rat)}(h:n<=r.length):(mb n C r).length=n+C.length:=by
 simp[mb]
 omega
def Tc{C:List (List Rat)}(h:n<=r.length)(hi:i<n):(mb n C r)[i]?=r[i]?:=by
 unfold mb
 rw[iS (by rw[gO];omega),iI,ax hi]
def Yub{j:Nat}{C:List (List Rat)}(h:n<=r.length):(mb n C r)[n+j]?=(C[j]?).map fun c=>lK c (r.drop n):=by
 unfold mb
 rw[lD (by rw[gO];omega),gO,qt h,Nat.add_sub_cancel_left,fm]
def PG:(r.drop n)[k]?.getD 0=r[n+k]?.getD 0:=by rw[ff]
def Zrx{r:List Rat}{p:Rat}{k:Nat}:(r.map fun x=>x/p)[k]?.getD 0=r[k]?.getD 0/p:=by
 rw[fm]
 cases r[k]? with
 |none=>simp[Rat.div_def,Rat.zero_mul]
 |some q=>rfl
def Zrb{p:List Rat}{j:Nat}(h:r.length=p.length):(qX r p k)[j]?.getD 0=r[j]?.getD 0-r[k]?.getD 0*p[j]?.getD 0:=by
 by_cases hj:j<r.length
 ·unfold qX
  rw[Qs hj]
  rfl
 ·rw[fv (by rw[Lt];omega),fv (l:=r) (by omega),fv (l:=p) (by omega)]
  show (0:Rat)=0-r[k]?.getD 0*0
  rw[Rat.mul_zero,Rat.sub_self]
def QH{a b:List Rat}(h:a.length=b.length)(hg:∀i,i<a.length->a[i]?.getD 0=b[i]?.getD 0):a=b:=by
 apply List.ext_getElem h
 intro i h1 h2
 have:=hg i h1
 rw[cF h1,cF h2]at this
 exact this
def PH{C:List (List Rat)}(h:n<=r.length):(mb n C r)[i]?.getD 0=if i<n then r[i]?.getD 0 else ((C[i-n]?).map fun c=>lK c (r.drop n)).getD 0:=by
 by_cases hi:i<n
 ·rw[ax hi,Tc h hi]
 ·rw[ak hi]
  have:=Yub (C:=C) (j:=i-n) h
  rw[show n+(i-n)=i by omega]at this
  rw[this]
def Yrf{C:List (List Rat)}{p:Rat}(h:n<=r.length):mb n C (r.map fun x=>x/p)=(mb n C r).map fun x=>x/p:=by
 have h':n<=(r.map fun x=>x/p).length:=by rw[gY];exact h
 apply QH (by rw[KV h',gY,KV h])
 intro i _
 rw[PH h',Zrx,Zrx,PH h]
 by_cases hi:i<n
 ·rw[ax hi,ax hi]
 ·rw[ak hi,ak hi]
  cases C[i-n]? with
  |none=>simp[Rat.div_def,Rat.zero_mul]
  |some c=>exact Yf9 fun k _=>by rw[PG,Zrx,PG]
def Yre{C:List (List Rat)}{p:List Rat}(h:n<=r.length)(hp:r.length=p.length)(hk:k<n):mb n C (qX r p k)=qX (mb n C r) (mb n C p) k:=by
 have h':n<=(qX r p k).length:=by rw[Lt];exact h
 have Gp:n<=p.length:=by omega
 apply QH (by rw[KV h',Lt,KV h])
 intro i _
 rw[PH h',Zrb hp,Zrb (r:=mb n C r) (by rw[KV h,KV Gp]),PH h,PH Gp,Tc h hk]
 by_cases hi:i<n
 ·rw[ax hi,ax hi,ax hi]
 ·rw[ak hi,ak hi,ak hi]
  cases C[i-n]? with
  |none=>simp[Rat.mul_zero,Rat.sub_self]
  |some c=>exact Yf8 fun j _=>by rw[PG,Zrb hp,PG,PG]
def KW{F:List Rat->List Rat}(h:i<m.length):((m.map F)[i]?).getD []=F (m[i]?.getD []):=by
 rw[fm,cF h]
 rfl
def Yl5{m:List (List Rat)}{n k L:Nat}{C:List (List Rat)}(hc:bp m L)(hn:n<=L)(hk:k<n):∀{t d:Nat},d+t<=m.length->od (m.map (mb n C)) k d t=od m k d t
 |0,d,_=>rfl
 |t+1,d,h=>by
  have hl:=hc.at (i:=d) (by omega)
  unfold od
  rw[KW (by omega),Tc (by omega) hk,Yl5 hc hn hk (by omega)]
def Ynn{F:List Rat->List Rat}{p:Nat}(hd:d<m.length)(hp:p<m.length):cf (m.map F) d p=(cf m d p).map F:=by
 unfold cf
 rw[KW hd,KW hp,List.map_set,List.map_set]
def Ynz{L:Nat}{C:List (List Rat)}(hc:bp m L)(hn:n<=L)(hk:k<n)(hd:d<m.length):fJ (m.map (mb n C)) d k=(fJ m d k).map (mb n C):=by
 have hl:=hc.at hd
 unfold fJ
 rw[KW hd,List.map_set,Tc (by omega) hk,Yrf (by omega)]
def Yqj{t L:Nat}{C:List (List Rat)}(hc:bp m L)(hn:n<=L)(hk:k<n)(hd:d<m.length):cg (m.map (mb n C)) d k t=(cg m d k t).map (mb n C):=by
 have hl:=hc.at hd
 unfold cg
 rw[gY,List.map_map]
 apply yB
 intro i hi
 have hi:=yA.1 hi
 have Rh:=hc.at hi
 simp only[Function.comp]
 rw[KW hi,KW hd]
 split
 ·rw[Yre (by omega) (by omega) hk]
 ·rfl
def Yns{s:List (List Rat)×Nat×List Nat}{L:Nat}{C:List (List Rat)}(hc:bp s.1 L)(hn:n<=L)(hk:k<n)(hd:s.2.1<=s.1.length):iV (s.1.map (mb n C),s.2.1,s.2.2) k=((iV s k).1.map (mb n C),(iV s k).2.1,(iV s k).2.2):=by
 obtain⟨m,d,ps⟩:=s
 simp only at hc hd
 have e:eS (m.map (mb n C)) d k=eS m d k:=by
  unfold eS
  rw[gY]
  exact Yl5 hc hn hk (by omega)
 have hle:=(El (m:=m) (k:=k) (n:=m.length-d) (d:=d)).1
 unfold iV
 simp only
 rw[e,gY]
 by_cases hp:eS m d k<m.length
 ·have du:d<m.length:=by unfold eS at hp;omega
  rw[ax hp,ax hp]
  have c1:=hc.BD du hp
  have c2:=c1.Gu (d:=d) (k:=k) (by rw[pz];exact du)
  rw[Ynn du hp,Ynz c1 hn hk (by rw[pz];exact du),Yqj c2 hn hk (by rw[BE,pz];exact du)]
 ·rw[ak hp,ak hp]
def Wf{m:List (List Rat)}{n L:Nat}{C:List (List Rat)}(hc:bp m L)(hn:n<=L):∀{k:Nat},k<=n->aK (m.map (mb n C)) k=((aK m k).1.map (mb n C),(aK m k).2.1,(aK m k).2.2)
 |0,_=>rfl
 |k+1,h=>by
  have I:=lF hc (n:=k)
  have hl:=BB (m:=m) (n:=k)
  rw[uM,uM,Wf hc hn (by omega)]
  exact Yns I.1 hn (by omega) (by rw[hl];exact I.2)
variable {G X m:List (List Rat)} {i n:Nat}
def cj(G X:List (List Rat)):List (List Rat):=(List.range G.length).map fun i=>G[i]?.getD []++X[i]?.getD []
def zX(n i:Nat):List Rat:=(List.range n).map fun j=>if j=i then 1 else 0
def fE(n:Nat):List (List Rat):=(List.range n).map (zX n)
def gk(a C:List (List Rat)):List (List Rat):=a.map fun r=>C.map fun c=>lK c r
def uT(G:List (List Rat))(n:Nat):Option (List (List Rat)):=if (aK (cj G (fE n)) (n+n)).2.1=n/\∀i,i<n->(aK (cj G (fE n)) (n+n)).2.2[i]?.getD 0=i then some ((bY (cj G (fE n)) (n+n)).map (List.drop n)) else none
def vK(G X:List (List Rat))(n c:Nat):Option (List (List Rat)):=if (aK (cj G X) (n+c)).2.1<n\/(aK (cj G X) (n+c)).2.2[n-1]?.getD 0≠n-1 then none else some ((bY (cj G X) (n+c)).map (List.drop n))
def tv:(cj G X).length=G.length:=by simp[cj]
def uU{c:Nat}(hG:bp G n)(hX:bp X c)(hl:G.length<=X.length):bp (cj G X) (n+c):=fun r hr=>by
 obtain⟨i,hi,rfl⟩:=eC.1 hr
 have hi:=yA.1 hi
 rw[iN,hG.at hi,hX.at (by omega)]
def Yck:(zX n i).length=n:=by simp[zX]
def Ynh{j:Nat}(h:j<n):(zX n i)[j]?.getD 0=if j=i then 1 else 0:=by simp[zX,h]
def JA:(fE n).length=n:=by simp[fE]
def Ytg(h:i<n):(fE n)[i]?.getD []=zX n i:=by simp[fE,h]
def Jz:bp (fE n) n:=fun r hr=>by
 obtain⟨i,_,rfl⟩:=eC.1 hr
 exact Yck
def Yf7{a:List Rat}{n i:Nat}:∀{m:Nat},m<=n->jD a (zX n i) m=if i<m then a[i]?.getD 0 else 0
 |0,_=>by simp[jD]
 |m+1,h=>by
  unfold jD
  rw[Yf7 (a:=a) (i:=i) (m:=m) (by omega),Ynh (by omega)]
  by_cases e:m=i
  ·subst e
   simp[Rat.mul_one,Rat.zero_add]
  ·rw[ak e,Rat.mul_zero,Rat.add_zero]
   by_cases e2:i<m
   ·rw[ax e2,ax (by omega)]
   ·rw[ak e2,ak (by omega)]
def Zxg{c:Nat}(hG:bp G n)(hl:G.length=n)(hX:bp X c)(hx:X.length=n):cj G X=(cj G (fE n)).map (mb n (dq X c)):=by
 unfold cj
 rw[List.map_map]
 apply yB
 intro i hi
 have hi:=yA.1 hi
 have l1:=hG.at hi
 simp only[Function.comp]
 rw[Ytg (by omega)]
 unfold mb
 rw[List.take_left' l1,List.drop_left' l1]
 congr 1
 have l2:=hX.at (i:=i) (by omega)
 apply QH (by rw[l2];simp[dq])
 intro j hj
 rw[l2]at hj
 unfold dq
 rw[List.map_map,fm,CK hj]
 simp only[ti,jz,Function.comp]
 unfold lK
 have l3:(iZ X j).length=n:=by simp[iZ,hx]
 rw[l3,Yf7 (aO _),ax (by omega)]
 unfold iZ
 rw[fm]
 cases X[i]?<;>simp
def Yf3{m:List (List Rat)}{k:Nat}:∀{e:Nat},∃l:List Nat,(aK m (k+e)).2.2=(aK m k).2.2++l/\∀x∈l,k<=x
 |0=>⟨[],by simp,fun x hx=>by simp at hx⟩
 |e+1=>by
  obtain⟨l,h1,h2⟩:=Yf3 (m:=m) (k:=k) (e:=e)
  rw[<-pF,uM]
  unfold iV
  split
  ·refine⟨l++[k+e],by simp[h1],fun x hx=>?_⟩
   rcases lI.1 hx with hx|hx
   ·exact h2 x hx
   ·simp at hx
    omega
  ·exact⟨l,h1,h2⟩
def QF{d:Nat}{ps:List Nat}(h:yI m d ps d){i:Nat}(hi:i<d):ps[i]?.getD 0=i:=by
 have up:∀j,j<d->j<=ps[j]?.getD 0:=fun j=>by
  induction j with
  |zero=>intro _;omega
  |succ j ih=>
   intro hj
   have:=h.Ak j (j+1) (by omega) hj
   have:=ih (by omega)
   omega
 have dn:∀j,j<d->ps[d-1-j]?.getD 0+j<d:=fun j=>by
  induction j with
  |zero=>intro h0;exact h.lt (d-1) (by omega)
  |succ j ih=>
   intro hj
   have h1:=h.Ak (d-1-(j+1)) (d-1-j) (by omega) (by omega)
   have:=ih (by omega)
   omega
 have h1:=up i hi
 have h2:=dn (d-1-i) (by omega)
 rw[show d-1-(d-1-i)=i by omega]at h2
 omega
def Zyi{L e:Nat}(hm:bp m L)(h0:0<n)(ht:(aK m n).2.1<n)(hd:(aK m (n+e)).2.1=n):n<=(aK m (n+e)).2.2[n-1]?.getD 0:=by
 obtain⟨l,q1,q2⟩:=Yf3 (m:=m) (k:=n) (e:=e)
 have J:=(ry hm (n:=n)).len
 have J2:=(ry hm (n:=n+e)).len
 rw[hd,q1,iN]at J2
 rw[q1,lD (by omega)]
 have au:n-1-(aK m n).2.2.length<l.length:=by omega
 rw[cF au]
 exact q2 _ (List.getElem_mem au)
def Ylu{c:Nat}(hG:bp G n)(hl:G.length=n)(h0:0<n)(hX:bp X c)(hx:X.length=n):vK G X n c=(uT G n).map fun H=>gk H (dq X c):=by
 have hW:=uU hG (Jz (n:=n)) (by rw[JA,hl];exact aO _)
 have lW:(cj G (fE n)).length=n:=by rw[tv,hl]
 have I:=ry hW (n:=n)
 have hle:=(lF hW (n:=n)).2
 have hwx:=Zxg hG hl hX hx
 have hE:=Wf (C:=dq X c) hW (Nat.le_add_right n n) (aO n)
 rw[<-hwx]at hE
 have lX:(cj G X).length=n:=by rw[tv,hl]
 unfold vK uT bY
 by_cases f:(aK (cj G (fE n)) n).2.1=n
 ·have e1:=Lj (f.trans lW.symm) (n:=n)
  have e2:aK (cj G X) (n+c)=aK (cj G X) n:=Lj (by rw[hE,lX];exact f)
  rw[e1,e2,hE]
  simp only
  rw[f]at I
  rw[ak (by rw[f,QF I (by omega)];omega),ax ⟨f,fun i hi=>QF I hi⟩,ti,f]
  congr 1
  unfold gk
  rw[List.map_map,<-List.map_take,List.map_map]
  apply yB
  intro r hr
  have lr:=(lF hW (n:=n)).1 r (yJ hr)
  simp only[Function.comp]
  unfold mb
  exact List.drop_left' (by rw[gO];omega)
 ·have ht:(aK (cj G (fE n)) n).2.1<n:=by omega
  have yg:(aK (cj G X) n).2.1<n:=by rw[hE];exact ht
  have hWX:=uU hG hX (by omega)
  rw[ax,ak]
  ·rfl
  ·rintro⟨a,b⟩
   have:=Zyi hW h0 ht a
   rw[b (n-1) (by omega)]at this
   omega
  ·by_cases d:(aK (cj G X) (n+c)).2.1<n
   ·exact .inl d
   ·have h5:=(lF hWX (n:=n+c)).2
    have:=Zyi hWX h0 yg (e:=c) (by omega)
    exact .inr (by omega)
variable {N j k n:Nat} {h:T O} {v:V}
set_option maxHeartbeats 1000000
def A.PI:=A.q Tryz.f145
def A.sQ:=A.ql A.PI 0 []
def A.b145:=(fun x0=>A.qb A.PI [x0]) A.sQ
def A.k145:=@A.kk 145 22 [.tmp 4] A.b145 (by kernel_rfl) rfl
def Yjv{f:V}{l:List V}{Q:Nat->T O->Nat->V->Prop}(Y:V->Prop)(hQ:∀j h n h' n' c u,Q j h n c->dS (fun i=>i∈cQ u) h n h' n'->mM 72 Y h u->Q j h' n' c)(hs:Sl h N v l)(hl:l.length<1000000000)(hf:∀(j:Nat) (x:V),l[j]?=some x->∀h' n',ab h N h' n'->mw A.C f [x] h' n' (fun u h2 n2=>∃y,u=y/\[y].length=1/\[y].all V.one=true/\(∀q∈[y],Y q)/\Q j h2 n2 y)):Fn A.C 145 [v,f] h N (fun u h' n'=>∃out,Own 1 72 N h' n' u out/\out.length=l.length/\∀(j:Nat),j<l.length->∃y,out[j]?=some [y]/\Q j h' n' y):=by
 intro w
 have hlen:=hs.len
 rw[aM,A.k145 (by simp)]
 simp[A.b145,hlen]
 refine bA [(5,5),(7,7),(10,20)] (fun e r st=>e=.exit 0/\ar N st.w=[]/\ab h N st.h st.n/\∃u out,r.get 5=some u/\Own 1 72 N st.h st.n u out/\out.length=l.length/\∀(j:Nat),j<l.length->∃y,out[j]?=some [y]/\Q j st.h st.n y) (fun m r st=>ar N st.w=[]/\ab h N st.h st.n/\∃k u out,k+m=l.length/\r.get 10=some (.int .i64 k)/\r.get 5=some u/\Own 1 72 N st.h st.n u out/\out.length=k/\(out=[]->u=.aa)/\(∀c∈out,∀y∈c,Y y)/\∀(j:Nat),j<k->∃y,out[j]?=some [y]/\Q j st.h st.n y) l.length ?_ ?_ ?_
 ·exact⟨by simp,ab.refl,0,.aa,[],by omega,by simp,by simp,Own.nil,rfl,fun _=>rfl,by simp,fun j hj=>by omega⟩
 ·rintro m r ⟨H,n1,W⟩ hr cG ⟨hW,hK,k,u,out,hk,gT,h5,ho,gZ,vC,hY,dj⟩
  simp only at hW hK ho dj
  rw[bb]
  cases m with
  |zero=>
   have Af:k=l.length:=by omega
   subst Af
   simp[A.sQ,hr,cG,gT,hW,hK]
   exact⟨u,h5,out,ho,gZ,dj⟩
  |succ m=>
   have au:k<l.length:=by omega
   obtain⟨x,hx⟩:=a_ au
   obtain⟨i,o,cc,e,rw,q1,q2,q3,q4⟩:=(hs.ad hK).at hx
   have bG:(k:Int)<(l.length:Int):=by omega
   have kA:=hK
   simp[A.sQ,hr,cG,gT,h5,bG,au,hlen,q1,q3,q4]
   refine CG (hf k x hx _ _ kA) ?_
   rintro y h3 n3 k3 ⟨_,rfl,c1,c2,cY,c3⟩
   have je:=k3.le
   have kn:=hK.le
   have kB:=kA.trans k3
   have b1:V.one y=true:=by simpa using c2
   have b2:V.cells y=[y]:=by cases y<;>first|rfl|cases b1
   simp[-V.cells, -V.one,hr,cG,gT,h5,b1,b2,ae]
   have uP:Own 1 72 N (h3.set n3 (.cells [y] 72 true)) (n3+1) u out:=(ho.ad ((ab.refl).trans k3)).ad (ab.refl.new _)
   obtain⟨v',h',w',f1,f2,f3,f4,fD,f5⟩:=En (Y:=Y) (x:=[y]) (u:=.slice n3 0 1 (some 1) 1) (bytes:=24) (w:=W) uP vC hY (by omega) (by decide) c1 (by simp[ef,St.row,aC]) (by omega)
   rw[f1]
   have ix:¬n1<N:=by omega
   have f6:ar N w'=[]:=by rw[f2];simp[ar,hW,ix]
   have kz:=(kB.new (.cells [y] 72 true)).then f3
   have k4:ab h3 n3 (h3.set n3 (.cells [y] 72 true)) (n3+1):=ab.refl.new _
   have zo:Q k (h3.set n3 (.cells [y] 72 true)) (n3+1) y:=hQ _ _ _ _ _ _ .aa c3 k4.upd mM.nil
   simp(disch:=first|(simp;done)|omega|rfl) [hr,cG,gT,f6]
   refine⟨m,by omega,kz,k+1,by omega,by simp,out++[[y]],f5,by simp[gZ],by simp,fun c' hc z hz=>?_,fun j hj=>?_⟩
   ·rcases lI.1 hc with hc|hc
    ·exact hY c' hc z hz
    ·simp only[xC]at hc;subst hc;exact cY z hz
   by_cases tl:j<k
   ·obtain⟨y,g1,g2⟩:=dj j tl
    exact⟨y,by rw[iS (by omega)];exact g1,hQ _ _ _ _ _ _ _ (hQ _ _ _ _ _ _ .aa g2 (((ab.refl).trans k3).trans k4).upd mM.nil) f4 fD⟩
   ·obtain rfl:j=k:=by omega
    exact⟨y,by rw[lD (by omega),gZ];simp,hQ _ _ _ _ _ _ _ zo f4 fD⟩
 ·rintro _ r ⟨H,n1,W⟩ hr ⟨rfl,hW,hK,u,out,h5,ho,gZ,dj⟩
  simp only at hW hK ho dj
  simp[hr,h5,az,hW,hK]
  exact⟨out,ho,gZ,dj⟩
def A.b65:=A.q Tryz.f65
def A.k65:=@A.kk 65 15 [.tmp 4] A.b65 (by kernel_rfl) rfl
def A.b147:=A.q Tryz.f147
def A.k147:=@A.kk 147 7 [.tmp 3] A.b147 (by kernel_rfl) rfl
def A.b146:=A.q Tryz.f146
def A.k146:=@A.kk 146 7 [.tmp 3] A.b146 (by kernel_rfl) rfl
def Yjb{out:List (List V)}(h:∀x∈out,x.length=1):∃ys:List V,out=ys.map fun y=>[y]:=by
 induction out with
 |nil=>exact⟨[],rfl⟩
 |cons x t ih=>
  obtain⟨ys,rfl⟩:=ih fun x jv=>h x (pG _ jv)
  have:=h x pR
  match x,this with
  |[y],_=>exact⟨y::ys,rfl⟩
def Yez{f:V}{m:List (List Rat)}(F:List Rat->List Rat)(hs:fK h N v m)(hl:m.length<100000)(hf:∀l∈m,∀u h' n',ab h N h' n'->dT h' n' u l->mw A.C f [u] h' n' (fun x h2 n2=>dT h2 n2 x (F l))):Fn A.C 145 [v,f] h N (fun u h' n'=>fK h' n' u (m.map F)):=by
 obtain⟨us,h1,h2,h3⟩:=hs
 have key:=Yjv (f:=f) (Q:=fun j h n u=>∀l,(m.map F)[j]?=some l->dT h n u l) NW (fun j h n h' n' c u hq k hd l hl=>(hq l hl).bO k hd (by simp)) h1 (by omega) ?_
 ·intro w
  refine(key w).mono fun y st=>?_
  rintro⟨q1,q2,out,o1,o2,o3⟩
  obtain⟨ys,rfl⟩:=Yjb o1.1
  refine⟨q1,q2,ys,Sn.one.1 o1.sn,by simpa[h2]using o2,fun j l hl=>?_⟩
  obtain⟨y,g1,g2⟩:=o3 j (by have:=jt hl;simp at this;omega)
  refine⟨y,?_,g2 l hl⟩
  rw[fm]at g1
  cases hy:ys[j]? with
  |none=>rw[hy]at g1;simp at g1
  |some z=>rw[hy]at g1;simpa using g1
 ·intro j x hx h' n' hk
  obtain⟨l,hl⟩:=a_ (l:=m) (k:=j) (by have:=jt hx;omega)
  obtain⟨u,g1,g2⟩:=h3 j l hl
  rw[hx]at g1
  obtain rfl:x=u:=by simpa using g1
  refine fun w=>(hf l (bM hl) _ _ _ hk (g2.ad hk) w).mono fun y st=>?_
  rintro⟨q1,q2,q3⟩
  obtain⟨f1,f2,f3⟩:=q3.1.form
  refine⟨q1,q2,y,rfl,rfl,by simp only[List.all_cons,List.all_nil,f1,Bool.and_true],by simpa using f3,fun l' jf=>?_⟩
  rw[fm,hl]at jf
  obtain rfl:F l=l':=by simpa using jf
  exact q3
def Ysr{P:Nat}{a u:V}{C:List (List Rat)}{l:List Rat}{e:TypeId}{rw:Bool}(hp:h.get P=some (.cells [a] e rw))(hP:P<N)(ha:fK h N a C)(hu:dT h N u l)(hC:∀r∈C,r.length=n/\∀q∈r,Qb j q)(hn:n<=l.length)(hb:∀q∈l,Qb k q)(hj:1<=j)(hk:1<=k)(hl:n*(j+k+1)+j+k+1<=400000000)(hCl:C.length<100000):mw A.C (.func 147 [] [.ptr P 0]) [u] h N (fun x h' n'=>dT h' n' x (C.map fun c=>lK c l)):=by
 intro w
 rw[aM,A.k147 (by simp)]
 simp[A.b147,hp,hP]
 refine ay (Ydy ha hu.1 hC hn hb hj hk hl hCl) ?_
 rintro x H2 n2 k2 hx
 simp[az]
 exact⟨k2,hx⟩
def zy{B:List (List Rat)}{c:Nat}(hB:bZ B k)(hk:1<=k):∀r∈dq B c,r.length=B.length/\∀q∈r,Qb k q:=fun r hr=>by
 unfold dq at hr
 obtain⟨i,_,rfl⟩:=eC.1 hr
 refine⟨by simp[iZ],fun q hq=>?_⟩
 unfold iZ at hq
 obtain⟨l,hl,rfl⟩:=eC.1 hq
 exact Jw (hB l hl) hk i
def lO{B:List (List Rat)}{c:Nat}:(dq B c).length=c:=by simp[dq]
def Wv{A C:List (List Rat)}(hA:bZ A k)(hC:∀r∈C,r.length=n/\∀q∈r,Qb j q)(hj:1<=j)(hk:1<=k):bZ (gk A C) (n*(j+k+1)+1):=fun r hr q hq=>by
 unfold gk at hr
 obtain⟨a,ha,rfl⟩:=eC.1 hr
 obtain⟨c,hc,rfl⟩:=eC.1 hq
 obtain⟨h1,h2⟩:=hC c hc
 exact Yqn h2 (hA a ha) hj hk (by omega)
def LJ{A C:List (List Rat)}:bp (gk A C) C.length:=fun r hr=>by
 unfold gk at hr
 obtain⟨a,ha,rfl⟩:=eC.1 hr
 rw[gY]
def Ew{A C:List (List Rat)}:(gk A C).length=A.length:=by simp[gk]
def Wz{c:Nat}{u:V}{A' B:List (List Rat)}(hu:fK h N u A')(hv:fK h N v B)(hA:bp A' n)(hB:bp B c)(hn:B.length<=n)(jj:0<B.length)(hAl:A'.length<1000)(Pq:B.length<1000)(hc:c<1000)(qA:bZ A' k)(qB:bZ B j)(hj:1<=j)(hk:1<=k)(hl:B.length*(j+k+1)+j+k+1<=400000000):Fn A.C 65 [u,v] h N (fun x h' n'=>fK h' n' x (gk A' (dq B c))):=by
 intro w
 obtain⟨l0,eG⟩:=a_ jj
 obtain⟨i2,o2,c2,e2,w2,y,q1,q2,q3,q4,q5⟩:=CL hv eG
 rw[iX]at q4
 have lv:=hv.len
 have zal:(0:Int)<(B.length:Int):=by omega
 have ly:=q5.1.len
 rw[hB l0 (bM eG)]at ly
 rw[aM,A.k65 (by simp)]
 simp[A.b65,lv,jj,zal,q1,q2,q3,q4,ly]
 refine ay (Wy hv (by omega) hB hc) ?_
 rintro x H2 n2 k2 hx
 have hx:=hx.Et
 obtain⟨us,f0,_⟩:=id hx
 have f1:=f0.form.one
 have f2:=f0.form.cells
 have kC:ab H2 n2 ((H2.set n2 (.cells [.aa] 69 true)).set n2 (.cells [x] 69 true)) (n2+1):=(ab.refl.new _).set (aO _)
 have gC:((H2.set n2 (.cells [.aa] 69 true)).set n2 (.cells [x] 69 true)).get n2=some (.cells [x] 69 true):=by rw[T.ag,ax rfl]
 have oz:ae [V.aa] 0 [x]=[x]:=rfl
 simp[-V.cells, -V.one,f1,f2,oz,bD]
 generalize (H2.set n2 (.cells [.aa] 69 true)).set n2 (.cells [x] 69 true)=G at*
 refine ay (Yez (fun l=>(dq B c).map fun c=>lK c l) ((hu.ad k2).ad kC) (by omega) fun l jf u' h' n' k' mS=>Ysr ((k'.get n2 (by omega)).trans gC) (by have:=k'.le;omega) ((hx.ad kC).ad k') mS (zy qB hj) (by rw[hA l jf];exact hn) (qA l jf) hj hk hl (by rw[lO];omega)) ?_
 rintro z H3 n3 k3 hz
 simp[az]
 exact⟨by have:=k2.le;omega,(k2.trans kC).trans k3,hz⟩
variable {N k:Nat} {h:T O} {m:List (List Rat)} {v:V} {w:List Rat}
set_option maxHeartbeats 2000000
def A.sS:bN:=.dN [mv 7 11]
def A.sU:bN:=.block 1 (.dc [ld 12 5,mv 13 7,ld 14 3,ge 15 (.call (fq 70) [tq 13,tq 14,(fq 86)]),ge 16 (.eh 72 1 1 [.aa] [(0,1,(tq 15))]),ge 17 (.append 1 24 72 [.aa] (tq 12) (tq 16)),so 5 17] [0,0,0,6,14,31,63])
def A.b78:bN:=sr [bx 3 72 1,mN 4]
 (sr [ge 5 (.alloc [.aa] 69)]
 (.seq (sr [mv 8 0,c1 9 109 8]
 (.block 0 (.jd (tq 9) [10,11] A.sS A.sU)))
 (sr [ld 18 5,mv 4 18]
 (.ret))))
def A.k78:=@A.kk 78 19 [.tmp 4] A.b78 (by kernel_rfl) rfl
def dT.vz{h':T O}{N' B:Nat}{u:V}{l:List Rat}{e:TypeId}(s:dT h N u l)(k:dS (fun i=>i=B) h N h' N')(g:h.get B=some (.cells [.aa] e true))(he:e≠108):dT h' N' u l:=
 s.bO (v:=.slice B 0 1 none 1) (k.mono fun i _ hi=>by simp[cQ];exact hi) (fun i hi=>by
  simp[cQ]at hi
  subst hi
  exact⟨_,g,by simp,fun y hy=>by simp at hy;subst hy;exact fun m=>by simp⟩) he
def gh.form{N0:Nat}(s:gh N0 h N v m):V.one v=true/\V.cells v=[v]/\∀n,v≠.int .u64 n:=by
 obtain⟨us,h1,_⟩:=s
 obtain⟨_,⟨_,rfl⟩|⟨i,rfl,_⟩⟩:=h1
 ·exact⟨rfl,rfl,fun n=>by simp⟩
 ·exact⟨rfl,rfl,fun n=>by simp⟩
def gh.zam{N0:Nat}{B:Nat}{y z:V}(s:gh N0 h N v m)(hB:B<N0)(g:h.get B=some (.cells [y] 69 true))(hy:∀n,y≠.int .u64 n):gh N0 (h.set B (.cells [z] 69 true)) N v m:=by
 obtain⟨us,h1,h2,h3,h4⟩:=s
 refine⟨us,?_,h2,h3,fun j l hl=>?_⟩
 ·obtain⟨a,b⟩:=h1
  refine⟨a,?_⟩
  rcases b with b|⟨i,b1,b2,b3,b4⟩
  ·exact .inl b
  ·exact .inr ⟨i,b1,b2,b3,by rw[T.ag,ak (by omega)];exact b4⟩
 ·obtain⟨u,a,b⟩:=h4 j l hl
  exact⟨u,a,b.bg g (by decide) (fun x hx m hc=>by simp at hx;exact hy m (hx▸hc)) rfl⟩
def zw(m:List (List Rat))(w:List Rat)(k:Nat):List (List Rat):=(List.range k).map fun j=>yt (iZ m j) w (iZ m j).length
def Yhn{m:List (List Rat)}{w:List Rat}{k:Nat}:zw m w (k+1)=zw m w k++[yt (iZ m k) w (iZ m k).length]:=by
 unfold zw
 rw[List.range_succ,List.map_append]
 rfl
def Ync:(zw m w k).length=k:=by simp[zw]
def Yr8(h:w.length=m.length):zw m w k=(dq m k).map fun r=>vH r w:=by
 unfold zw dq
 rw[List.map_map]
 apply yB
 intro j _
 simp only[Function.comp]
 unfold vH yt
 rw[show (iZ m j).length=w.length by simp[iZ,h]]
def wR(r:T V)(d:Nat):Lm:=Qn r 19 [10,11] A.sS A.sU d
def Ym9{H:T O}{n B P d j0 k0:Nat}{r:T V}{x wv:V}{rz:List Rat}{W:List Nat}{e:TypeId}{rw:Bool}(hL:H.get (N+1)=some (.loop (wR r d)))(hB:H.get B=some (.cells [v] 69 true))(hP:H.get P=some (.cells [wv] e rw))(hO:gh (N+2) H n v (zw m rz k))(hn:N+2<=n)(Wk:B<N)(Wl:P<N)(hx:dT H n x (iZ m k))(hw:dT H n wv rz)(hk:k<1000)(mj:(iZ m k).length=rz.length)(hl:rz.length<1000)(qa:∀q∈iZ m k,Qb j0 q)(qb:∀q∈rz,Qb k0 q)(hj:j0<=400000000)(kg:k0<=400000000)(h5:r.get 5=some (.ptr B 0))(h3:r.get 3=some (.ptr P 0))(hW:ar B W=[]):Call A.C (.yield (N+1)) [.int .i64 k,x] ⟨H,n,W⟩ (fun y st=>y=.bool true/\ar B st.w=[]/\dS (DU N B) H n st.h st.n/\st.h.get (N+1)=some (.loop (wR r d))/\∃v',st.h.get B=some (.cells [v'] 69 true)/\gh (N+2) st.h st.n v' (zw m rz (k+1))):=by
 refine Yby (R:=wR r d) (r0:=(r.set 10 (.int .i64 k)).set 11 x) rfl hL rfl (by simp[wR,Qn,CB]) ?_
 rw[bb]
 show bz A.C [] (eK (A.C.code (some (N+1)) A.sS ⟨_,19,[]⟩ ⟨H,n,W⟩)) _
 simp[A.sS]
 refine⟨hL,?_⟩
 rw[bb]
 show bz A.C [] (eK (A.C.code (some (N+1)) A.sU ⟨_,19,[]⟩ _)) _
 have nc:GD (.loop (wR r d)):=fun c e w h=>by cases h
 have tS:=hx.pX (o:=.loop {wR r d with st:=.busy}) hL nc
 have JI:=hw.pX (o:=.loop {wR r d with st:=.busy}) hL nc
 have hBu:(H.set (N+1) (.loop {wR r d with st:=.busy})).get B=some (.cells [v] 69 true):=by rw[T.ag,ak (by omega)];exact hB
 have hPu:(H.set (N+1) (.loop {wR r d with st:=.busy})).get P=some (.cells [wv] e rw):=by rw[T.ag,ak (by omega)];exact hP
 have hLu:(H.set (N+1) (.loop {wR r d with st:=.busy})).get (N+1)=some (.loop {wR r d with st:=.busy}):=by rw[T.ag,ax rfl]
 have U1:dS (DU N B) H n (H.set (N+1) (.loop {wR r d with st:=.busy})) n:=⟨aO _,fun i _ hi=>by rw[T.ag,ak fun hc=>hi (.inl hc)]⟩
 have oU:=hO.pX (o:=.loop {wR r d with st:=.busy}) hL nc
 generalize H.set (N+1) (.loop {wR r d with st:=.busy})=G at*
 have lB:B<n:=by omega
 have lP:P<n:=by omega
 have hLB:¬N+1<B:=by omega
 simp[A.sU,h5,h3,hBu,hPu,lB,lP]
 refine ay (Yj2 tS.1 JI.1 (by omega) qa qb hj kg (by omega)) ?_
 rintro y H2 n2 k2 hy
 have jA:=k2.le
 have I6:=(k2.get B (by omega)).trans hBu
 have gL2:=(k2.get (N+1) (by omega)).trans hLu
 have o2:=oU.ad k2
 have lB2:B<n2:=by omega
 obtain⟨f1,f2,f3⟩:=hy.1.form
 have oz:ae [V.aa] 0 [y]=[y]:=rfl
 simp[-V.cells, -V.one,f1,f2,oz]
 have kD:ab H2 n2 (H2.set n2 (.cells [y] 72 true)) (n2+1):=ab.refl.new _
 obtain⟨v',h',w',j1,j2,j3,j4⟩:=gh.push (N0:=N+2) (x:=.slice n2 0 1 (some 1) 1) (w:=[]) (o2.ad kD) (hy.ad kD) (by omega) (by simp[ef,St.row,aC]) (by rw[Ync];omega)
 have Ao:=(j3.get B (by omega)).trans ((kD.get B lB2).trans I6)
 have LG:=(j3.get (N+1) (by omega)).trans ((kD.get (N+1) (by omega)).trans gL2)
 have lB3:B<n2+1+1:=by omega
 have ov:=j4.form
 have ovv:=hO.form
 have U3:dS (DU N B) H n h' (n2+1+1):=((U1.trans k2.upd).trans kD.upd).trans ⟨by omega,fun i hi hd=>j3.get i (by unfold DU at hd;omega)⟩
 have g4:(h'.set B (.cells [v'] 69 true)).get (N+1)=some (.loop {wR r d with st:=.busy}):=by rw[T.ag,ak (by omega)];exact LG
 have o4:=j4.zam (z:=v') (by omega) Ao ovv.2.2
 have nc2:GD (.loop {wR r d with st:=.busy}):=fun c e w h=>by cases h
 have tZ:=@Yhn m rz k
 simp[-V.cells, -V.one,j1,h5,Ao,lB3,bD,ov.1,ov.2.1,ae]
 refine⟨{wR r d with st:=.busy},by rw[ak (by omega)];exact LG,rfl,?_,(U3.set (.inl (.inr (.inl rfl)))).set (.inl (.inl rfl)),rfl,v',by rw[ak (by omega)],?_⟩
 ·rw[ak hLB]
  refine uK fun i hi=>?_
  rcases lI.1 hi with hi|hi
  ·have:=zi (j2.trans rfl) i (zz hi).1
   omega
  ·rcases ku.1 hi with rfl|hi
   ·omega
   ·exact zi hW i hi
 ·rw[tZ]
  exact o4.pX g4 nc2
set_option maxHeartbeats 2000000
def A.PJ:=A.q Tryz.f173
def A.rA:=A.ql A.PJ 0 []
def A.b173:=(fun x0=>A.qb A.PJ [x0]) A.rA
def A.k173:=@A.kk 173 19 [] A.b173 (by kernel_rfl) rfl
end
end Go.Mx
