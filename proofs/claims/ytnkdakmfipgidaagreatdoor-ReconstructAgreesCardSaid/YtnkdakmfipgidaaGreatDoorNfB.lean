/-num-/
import Derived.Test.YtnkdakmfipgidaaGreatDoorNdA
set_option linter.all false
namespace Go.Mx
noncomputable section
open Go Go.Proofs
variable {N:Nat} {h:T O} {l:List Rat} {v:V}
set_option maxHeartbeats 1000000
set_option maxRecDepth 1000000
def A.w49:=A.q Tryz.f49
def A.xM:=A.ql A.w49 0 []
def A.b49:=(fun x0=>A.qb A.w49 [x0]) A.xM
def A.k49:=@A.kk 49 23 [.tmp 2] A.b49 (by kernel_rfl) rfl
def A.QP:=A.q Tryz.f151
def A.ti:=A.ql A.QP 0 []
def A.b151:=(fun x0=>A.qb A.QP [x0]) A.ti
def A.k151:=@A.kk 151 23 [.tmp 2] A.b151 (by kernel_rfl) rfl
def fV(h:T O)(N:Nat)(c:List V)(q:Rat):Prop:=∃n1 u1 n2 u2,c=[.int .i64 n1,u1,.int .i64 n2,u2]/\In h N (.agg [.int .i64 n1,u1]) q.num/\In h N (.agg [.int .i64 n2,u2]) (q.den:Int)
def fV.ad{h':T O}{N':Nat}{c:List V}{q:Rat}(s:fV h N c q)(k:ab h N h' N'):fV h' N' c q:=by obtain⟨n1,u1,n2,u2,rfl,s1,s2⟩:=s;exact⟨n1,u1,n2,u2,rfl,s1.ad k,s2.ad k⟩
def fV.fc{c:List V}{q:Rat}(s:fV h N c q):Fc h N (.agg c) q:=by obtain⟨n1,u1,n2,u2,rfl,s1,s2⟩:=s;exact⟨n1,u1,n2,u2,rfl,s1,s2⟩
def Fc.c{x:V}{q:Rat}(s:Fc h N x q):∃c,x=.agg c/\fV h N c q:=by obtain⟨n1,u1,n2,u2,rfl,s1,s2⟩:=s;exact⟨_,rfl,n1,u1,n2,u2,rfl,s1,s2⟩
def ux(c:List V):Prop:=∀x∈c,∀m,x≠.int .u64 m
def Zz0{n:Int}{u:V}{z:Int}(s:In h N (.agg [.int .i64 n,u]) z):∀m,u≠.int .u64 m:=by
 rcases s with⟨h1,_⟩|⟨i,o,l,c,h1,_⟩
 ·simp at h1;rw[h1.2];simp
 simp at h1;rw[h1.2];simp
def fV.Nb{c:List V}{q:Rat}(s:fV h N c q):ux c:=by
 obtain⟨n1,u1,n2,u2,rfl,s1,s2⟩:=s;intro x hx m;simp at hx;rcases hx with rfl|rfl|rfl|rfl
 ·simp
 ·exact Zz0 s1 m
 ·simp
 exact Zz0 s2 m
def fV.len{c:List V}{q:Rat}(s:fV h N c q):c.length=4/\c.all V.one=true:=by obtain⟨n1,u1,n2,u2,rfl,s1,s2⟩:=s;have o1:=dL s1;have o2:=dL s2;exact⟨rfl,by simp only[List.all_cons,List.all_nil,o1,o2,Bool.and_true];rfl⟩
def fV.aI{i:Nat}{c c0 c1:List V}{q:Rat}{e0 e1:TypeId}{w0 w1:Bool}(s:fV h N c q)(g:h.get i=some (.cells c0 e0 w0))(hn:ux c0)(hc:c1.length=c0.length):fV (h.set i (.cells c1 e1 w1)) N c q:=by obtain⟨n1,u1,n2,u2,rfl,s1,s2⟩:=s;exact⟨n1,u1,n2,u2,rfl,s1.aI g hn hc,s2.aI g hn hc⟩
def kf(h:T O)(N:Nat)(v:V)(l:List Rat):Prop:=∃cs:List (List V),Sn 4 h N v cs/\cs.length=l.length/\∀(j:Nat) (q:Rat),l[j]?=some q->∃c,cs[j]?=some c/\fV h N c q
def kf.ad{h':T O}{N':Nat}(s:kf h N v l)(k:ab h N h' N'):kf h' N' v l:=by obtain⟨cs,h1,h2,h3⟩:=s;refine⟨cs,h1.ad k,h2,fun j q hq=>?_⟩;obtain⟨c,g1,g2⟩:=h3 j q hq;exact⟨c,g1,g2.ad k⟩
def kf.len(s:kf h N v l):qg v=some l.length:=by obtain⟨cs,h1,h2,_⟩:=s;rw[h1.len,h2]
def kf.at(s:kf h N v l){j:Nat}{q:Rat}(hj:l[j]?=some q):∃i o x e rw c,yo v=some (i,o)/\i<N/\h.get i=some (.cells x e rw)/\aL x (o+j*4) 4=some c/\fV h N c q:=by obtain⟨cs,h1,h2,h3⟩:=s;obtain⟨c,h4,h5⟩:=h3 j q hj;obtain⟨i,o,x,e,rw,q1,q2,q3,q4⟩:=h1.at h4;exact⟨i,o,x,e,rw,c,q1,q2,q3,q4,h5⟩
def ec(h:T O)(N:Nat)(v:V)(l:List Rat):Prop:=kf h N v l/\∀i∈dk v,∃z w,h.get i=some (.cells z 123 w)
def tx(l:List Rat):List V:=strs (l.map aP)
def Eb(l:List Rat):(tx l).length=l.length:=by simp[tx,strs]
def Ynr{j:Nat}{q:Rat}(h:l[j]?=some q):(tx l)[j]?=some (.str (aP q)):=by simp[tx,strs,h]
def zF:List V:=[.int .i64 0,.aa,.int .i64 0,.aa]
def Hy{z:List V}{n:Nat}:dm z (n+1)=z++dm z n:=by
 unfold dm;rw[Nat.succ_mul,Nat.add_comm (n*z.length),List.range_add,List.map_append,List.map_map];congr 1
 ·apply ph;intro j;by_cases hj:j<z.length
  ·rw[eG,AK hj];simp[zC hj,hj]
  rw[fW (by simp;omega),fW (by omega)]
 apply AE;intro i _;simp[Nat.add_mod_left]
def Vg{a b c x:List V}{n o:Nat}(ha:a.length=o)(hb:b.length=n)(hx:x.length=n):ag (a++(b++c)) o x=a++(x++c):=by unfold ag;rw[<-ha,List.take_left,hx,<-List.drop_drop,List.drop_left,<-hb,List.drop_left,uG]
structure FaI (h:T O) (N:Nat) (l:List Rat) (m:Nat) (r:T V) (st:St):Prop where
 w:ay N st.w=[]
 ad:ab h N st.h st.n
 ex:∃(k:Nat) (cs:List (List V)),k+m=l.length/\r.get 11=some (.int .i64 k)/\r.get 3=some (.slice N 0 l.length (some l.length) 4)/\N<st.n/\st.h.get N=some (.cells (cs.flatten++dm zF m) 123 true)/\cs.length=k/\∀(j:Nat) (q:Rat),j<k->l[j]?=some q->∃c,cs[j]?=some c/\fV st.h st.n c q
def QQ{cs:List (List V)}(hl:cs.length<=l.length)(hc:∀(j:Nat) (q:Rat),j<cs.length->l[j]?=some q->∃c,cs[j]?=some c/\fV h N c q):(∀c∈cs,c.length=4)/\ux cs.flatten/\cs.flatten.all V.one=true:=by
 have key:∀c∈cs,∃q,fV h N c q:=fun c B2=>by obtain⟨j,hj⟩:=nw B2;have aC:=gZ hj;obtain⟨q,hq⟩:=bj (l:=l) (k:=j) (by omega);obtain⟨c',h1,h2⟩:=hc j q aC hq;rw[hj]at h1;simp only[aq]at h1;subst h1;exact⟨q,h2⟩
 refine⟨fun c B2=>?_,fun x hx m=>?_,?_⟩
 ·obtain⟨q,hq⟩:=key c B2;exact hq.len.1
 ·obtain⟨c,B2,Kx⟩:=List.mem_flatten.1 hx;obtain⟨q,hq⟩:=key c B2;exact hq.Nb x Kx m
 rw[jY];intro x hx;obtain⟨c,B2,Kx⟩:=List.mem_flatten.1 hx;obtain⟨q,hq⟩:=key c B2;exact jY.1 hq.len.2 x Kx
def Vh:∀{n:Nat},ux (dm zF n)
 |0=>by intro x hx;simp[dm]at hx
 |n+1=>by
  intro x hx m
  rw[Hy]at hx
  rcases jB.1 hx with hx|hx
  ·simp[zF]at hx
   rcases hx with rfl|rfl|rfl|rfl<;>simp
  ·exact Vh x hx m
def ux.app{a b:List V}(ha:ux a)(hb:ux b):ux (a++b):=fun x hx m=>by
 rcases jB.1 hx with hx|hx
 ·exact ha x hx m
 ·exact hb x hx m
def Ydv(n:Nat):(dm zF n).length=n*4:=by
 induction n with
 |zero=>simp[dm]
 |succ n ih=>rw[Hy,jm,ih];simp[zF];omega
def IE{k0:Nat}(hs:Sl h N v (tx l))(hl:l.length<1000000000)(hq:∀q∈l,Qb k0 q)(nY:k0<=4000):Fn A.C 49 [v] h N (fun u h' n'=>ec h' n' u l):=by
 intro w;have hlen:=hs.len;rw[Eb]at hlen;have c1:(64:Int)*(l.length:Int)<=140737488355328:=by omega
 have c2:(l.length:Int)<4611686018427387904:=by omega
 have kB:ab h N (h.set N (.cells (dm zF l.length) 123 true)) (N+1):=ab.refl.new _;rw[aN,A.k49 (by simp)];simp[A.b49,hlen,c1,c2];refine cm [(4,5),(11,21)] (fun e r st=>e=.exit 0/\FaI h N l 0 r st) (FaI h N l) l.length ?_ ?_ ?_
 ·exact⟨by simp,kB,0,[],by omega,by simp,by simp,by show N<N+1;omega,by rw[T.ae,ar rfl];rfl,rfl,fun j q hj=>by omega⟩
 ·rintro m r ⟨H,n1,W⟩ hr hf ⟨hW,hK,k,cs,hk,mB,h3,qu,hM,cX,jI⟩;simp only at hW hK hM qu jI;rw[bu];cases m with
  |zero=>
   obtain rfl:k=l.length:=by omega
   simp[A.xM,hr,hf,mB];exact⟨hW,hK,l.length,cs,by omega,by simp[mB],by simp[h3],qu,hM,cX,jI⟩
  |succ m=>
   have aC:k<l.length:=by omega
   have cg:(k:Int)<(l.length:Int):=by omega
   obtain⟨q,Ky⟩:=bj aC;have qO:=hq q (cF Ky);obtain⟨i,o,cc,e,rw,q1,q2,q3,q4⟩:=(hs.ad hK).at (Ynr Ky);have la:=Zx0 qO.1;have Vi:=Ur qO.2;simp[A.xM,hr,mB,cg,hlen,q1,q3,q4];refine av (Yhf (q:=q) (by omega) (by omega)) ?_;rintro _ H2 n2 k2 dT;obtain⟨c,rfl,hc⟩:=dT.c;have me:=k2.le;have iG:=hK.le;have tj:=(k2.get N qu).trans hM;have Kz:∀(j:Nat) (q:Rat),j<cs.length->l[j]?=some q->∃c,cs[j]?=some c/\fV H2 n2 c q:=fun j q hj hq=>by obtain⟨c,g1,g2⟩:=jI j q (by omega) hq;exact⟨c,g1,g2.ad k2⟩
   obtain⟨f1,f2,f3⟩:=QQ (l:=l) (by omega) Kz;have kg:=AH f1;obtain⟨e1,e2⟩:=hc.len;have iK:ag (cs.flatten++dm zF (m+1)) (k*4) c=(cs++[c]).flatten++dm zF m:=by rw[Hy,Vg (n:=4) (by rw[kg,cX]) rfl e1,MQ,uG]
   have hb:k*4+4<=(cs.flatten++dm zF (m+1)).length:=by rw[jm,kg,Ydv];omega
   have mW:(V.agg c).cells=c:=rfl;have HC:ux (cs.flatten++dm zF (m+1)):=f2.app Vh;have pR:((cs++[c]).flatten++dm zF m).length=(cs.flatten++dm zF (m+1)).length:=by rw[Hy,MQ];simp[e1,zF];omega
   generalize cs.flatten++dm zF (m+1)=X at*;obtain⟨Y,hY⟩:∃Y,(cs++[c]).flatten++dm zF m=Y:=⟨_,rfl⟩;rw[hY]at iK pR;simp(disch:=first|(simp;done)|omega|(simp only[bq,b_,bk];omega)|rfl) [-V.cells, -V.one,hr,hf,mB,h3,aC,cg,tj,bO,mW,e1,e2,hb,iK];have mi:¬N<N:=by omega
   refine⟨m,by omega,⟨by simp[ay,hW],(hK.trans k2).set (aO N),k+1,cs++[c],by omega,by simp,by simp[h3],by show N<n2;omega,by show T.get _ N=_;rw[T.ae,ar rfl,hY],by simp[cX],fun j q' hj uw=>?_⟩⟩;by_cases qU:j<k
   ·obtain⟨c',g1,g2⟩:=jI j q' qU uw;exact⟨c',by rw[mj (by omega)];exact g1,(g2.ad k2).aI tj HC pR⟩
   obtain rfl:j=k:=by omega
   rw[Ky]at uw;simp only[aq]at uw;subst uw;exact⟨c,by rw[pY (by omega),cX];simp,hc.aI tj HC pR⟩
 rintro _ r ⟨H,n1,W⟩ hr ⟨rfl,hW,hK,k,cs,hk,mB,h3,qu,hM,cX,jI⟩;simp only at hW hK hM qu jI;obtain rfl:k=l.length:=by omega
 simp[hr,ax,hW,hK];have hz:dm zF 0=[]:=by simp[dm]
 obtain⟨f1,_,_⟩:=QQ (l:=l) (by omega) (fun j q hj hq=>jI j q (by omega) hq);have kg:=AH f1;rw[hz,zZ]at hM;refine⟨⟨cs,.inr ⟨N,0,some l.length,cs.flatten,_,true,by rw[cX],qu,hM,fun j x hx=>by rw[yE];exact PW f1 hx,by omega,fun k hk=>by simp at hk;omega⟩,cX,fun j q hq=>jI j q (gZ hq) hq⟩,fun i hi=>?_⟩;simp[dk]at hi;subst hi;exact⟨_,_,hM⟩
structure TaI (h:T O) (N:Nat) (l:List Rat) (m:Nat) (r:T V) (st:St):Prop where
 w:ay N st.w=[]
 ad:ab h N st.h st.n
 ex:∃(k:Nat),k+m=l.length/\r.get 11=some (.int .i64 k)/\r.get 3=some (.slice N 0 l.length (some l.length) 1)/\N<st.n/\st.h.get N=some (.cells (tx (l.take k)++List.replicate m (V.str [])) 38 true)
def Yjr{k0:Nat}(hs:kf h N v l)(hP:ik h N)(hl:l.length<1000000000)(hq:∀q∈l,Qb k0 q)(nY:k0<=400000000):Fn A.C 151 [v] h N (fun u h' n'=>Sl h' n' u (tx l)/\∀i∈dk u,∃z w,h'.get i=some (.cells z 38 w)):=by
 intro w;have hlen:=hs.len;have c1:(16:Int)*(l.length:Int)<=140737488355328:=by omega
 have c2:(l.length:Int)<4611686018427387904:=by omega
 have kB:ab h N (h.set N (.cells (dm [.str []] l.length) 38 true)) (N+1):=ab.refl.new _;rw[aN,A.k151 (by simp)];simp[A.b151,hlen,c1,c2];refine cm [(4,5),(11,21)] (fun e r st=>e=.exit 0/\TaI h N l 0 r st) (TaI h N l) l.length ?_ ?_ ?_
 ·exact⟨by simp,kB,0,by omega,by simp,by simp,by show N<N+1;omega,by rw[T.ae,ar rfl,Ydt];simp[tx,strs]⟩
 ·rintro m r ⟨H,n1,W⟩ hr hf ⟨hW,hK,k,hk,mB,h3,qu,hM⟩;simp only at hW hK hM qu;rw[bu];cases m with
  |zero=>
   obtain rfl:k=l.length:=by omega
   simp[A.ti,hr,hf,mB];exact⟨hW,hK,l.length,by omega,by simp[mB],by simp[h3],qu,hM⟩
  |succ m=>
   have aC:k<l.length:=by omega
   have cg:(k:Int)<(l.length:Int):=by omega
   obtain⟨q,Ky⟩:=bj aC;have qO:=hq q (cF Ky);obtain⟨i,o,x,e,rw,c,q1,q2,q3,q4,q5⟩:=(hs.ad hK).at Ky;obtain⟨kp,u1,mw,u2,rfl,s1,s2⟩:=q5;have o1:=dL s1;have o2:=dL s2;unfold V.one at o1 o2;have la:=PE qO.1;have Vi:=PE qO.2;have iG:=hK.le;have e4:ag [.int .i64 0,.aa,.int .i64 0,.aa] 0 [.int .i64 kp,u1,.int .i64 mw,u2]=[.int .i64 kp,u1,.int .i64 mw,u2]:=rfl;have e5:aL [.int .i64 kp,u1,.int .i64 mw,u2] 0 4=some [.int .i64 kp,u1,.int .i64 mw,u2]:=rfl;have kA:ab H n1 ((H.set n1 (.cells [.int .i64 0,.aa,.int .i64 0,.aa] 123 true)).set n1 (.cells [.int .i64 kp,u1,.int .i64 mw,u2] 123 true)) (n1+1):=(ab.refl.new _).set (aO _);simp[A.ti,hr,mB,cg,hlen,q1,q3,q4,aQ,bO,o1,o2,e4,e5];refine av (Ypr (q:=q) (Fc.ad ⟨kp,u1,mw,u2,rfl,s1,s2⟩ kA) ((hP.ad hK).ad kA) (by omega) (by omega)) ?_;rintro _ H2 n2 k2 rfl;have me:=k2.le;have tj:=(k2.get N (by omega)).trans ((kA.get N qu).trans hM);have hb:k+1<=(tx (l.take k)++List.replicate (m+1) (V.str [])).length:=by rw[jm,Eb,List.length_replicate,iX];omega
   have iK:ag (tx (l.take k)++List.replicate (m+1) (V.str [])) k [.str (aP q)]=tx (l.take (k+1))++List.replicate m (V.str []):=by
    have e1:(tx (l.take k)++List.replicate (m+1) (V.str []))=tx (l.take k)++([V.str []]++List.replicate m (V.str [])):=by rw[List.replicate_succ];rfl
    rw[e1,Vg (n:=1) (by rw[Eb,iX];omega) rfl rfl,DQ,Ky];simp[tx,strs]
   generalize tx (l.take k)++List.replicate (m+1) (V.str [])=X at*;obtain⟨Y,hY⟩:∃Y,tx (l.take (k+1))++List.replicate m (V.str [])=Y:=⟨_,rfl⟩;rw[hY]at iK;simp(disch:=first|(simp;done)|omega|(simp only[bq,b_,bk];omega)|rfl) [hr,hf,mB,h3,aC,cg,tj,bO,hb,iK];refine⟨m,by omega,⟨by simp[ay,hW];omega,((hK.trans kA).trans k2).set (aO N),k+1,by omega,by simp,by simp[h3],by show N<n2;omega,by show T.get _ N=_;rw[T.ae,ar rfl,hY]⟩⟩
 rintro _ r ⟨H,n1,W⟩ hr ⟨rfl,hW,hK,k,hk,mB,h3,qu,hM⟩;simp only at hW hK hM qu;obtain rfl:k=l.length:=by omega
 rw[C3]at hM;simp only[List.replicate_zero,zZ]at hM;simp[hr,ax,hW,hK];exact⟨Sl.row qu hM (Eb l) (fun k hk=>by simp at hk;omega),fun i hi=>by simp[dk]at hi;subst hi;exact⟨_,.inr hM⟩⟩
variable {N:Nat} {h:T O} {v:V}
def nT(a b:List Rat):Nat->Rat
 |0=>0
 |k+1=>nT a b k+a[k]?.getD 0*b[k]?.getD 0
def e_(a b:List Rat):Rat:=nT a b a.length
def Qb.zero:Qb 1 0:=⟨by decide,by decide⟩
def rO{l:List Rat}{k:Nat}(h:∀q∈l,Qb k q)(hk:1<=k)(j:Nat):Qb k (l[j]?.getD 0):=by
 cases hj:l[j]? with
 |none=>exact Qb.zero.mono hk
 |some q=>exact h q (cF hj)
def Zxv{a b:List Rat}{j k:Nat}(ha:∀q∈a,Qb j q)(hb:∀q∈b,Qb k q)(hj:1<=j)(hk:1<=k):∀n,Qb (n*(j+k+1)+1) (nT a b n)
 |0=>by simpa[nT]using Qb.zero
 |n+1=>by
  have h:=(Zxv ha hb hj hk n).add ((rO ha hj n).mul (rO hb hk n))
  exact h.mono (by rw[ji];omega)
def Tx(h:T O)(N:Nat)(v:V)(l:List Rat):Prop:=Sl h N v (tx l)
def Tx.ad{h':T O}{N':Nat}{l:List Rat}(s:Tx h N v l)(k:ab h N h' N'):Tx h' N' v l:=Sl.ad s k
def mX(h:T O)(N:Nat)(v:V)(m:List (List Rat)):Prop:=∃us:List V,Sl h N v us/\us.length=m.length/\∀(j:Nat) (l:List Rat),m[j]?=some l->∃u,us[j]?=some u/\Tx h N u l
def mX.ad{h':T O}{N':Nat}{m:List (List Rat)}(s:mX h N v m)(k:ab h N h' N'):mX h' N' v m:=by obtain⟨us,h1,h2,h3⟩:=s;refine⟨us,h1.ad k,h2,fun j l hl=>?_⟩;obtain⟨u,g1,g2⟩:=h3 j l hl;exact⟨u,g1,g2.ad k⟩
def mX.len{m:List (List Rat)}(s:mX h N v m):qg v=some m.length:=by obtain⟨us,h1,h2,_⟩:=s;rw[h1.len,h2]
variable {N:Nat} {h h':T O} {l:List Rat} {m:List (List Rat)} {u v:V}
def Ay(h:T O)(N:Nat)(u:V)(l:List Rat):Prop:=Tx h N u l/\∀i∈dk u,∃z w,h.get i=some (.cells z 38 w)
def Ye4{l:List V}(s:Sl h N v l):∀i∈dk v,i<N:=fun i hi=>by
 rcases s with⟨_,rfl|rfl⟩|⟨j,o,cp,c,e,rw,rfl,hj,_⟩
 ·simp[dk]at hi
 ·simp[dk]at hi
 ·simp[dk]at hi;omega
def Ay.ad{N':Nat}(s:Ay h N u l)(k:ab h N h' N'):Ay h' N' u l:=⟨s.1.ad k,fun i hi=>by rw[k.get i (Ye4 s.1 i hi)];exact s.2 i hi⟩
def Ay.bY{n n':Nat}{Y:V->Prop}{e:TypeId}(s:Ay h n u l)(k:er (fun i=>i∈dk v) h n h' n')(hd:nQ e Y h v)(he:e≠38):Ay h' n' u l:=by
 have hn:∀i∈dk u,i∉dk v:=fun i hi hc=>by obtain⟨z,w,hz⟩:=s.2 i hi;obtain⟨z2,eW,_⟩:=hd i hc;rw[hz]at eW;simp at eW;exact he eW.2.1.symm
 exact⟨Sl.bY s.1 k hn,fun i hi=>by rw[k.get i (Ye4 s.1 i hi) (hn i hi)];exact s.2 i hi⟩
def Yu7{N0:Nat}(s:Own 1 38 N0 h N v ((tx l).map fun y=>[y])):Ay h N v l:=by
 refine⟨Sn.one.1 s.sn,fun i hi=>?_⟩;obtain⟨_,⟨_,rfl⟩|⟨j,rfl,_,_,hg⟩⟩:=s
 ·simp[dk]at hi
 simp[dk]at hi;subst hi;exact⟨_,_,hg⟩
def za(N0:Nat)(h:T O)(N:Nat)(v:V)(m:List (List Rat)):Prop:=∃us:List V,Own 1 23 N0 h N v (us.map fun y=>[y])/\(us=[]->v=.aa)/\us.length=m.length/\∀(j:Nat) (l:List Rat),m[j]?=some l->∃u,us[j]?=some u/\Ay h N u l
def za.nil{N0:Nat}:za N0 h N .aa []:=⟨[],Own.nil,fun _=>rfl,rfl,fun j l hl=>by simp at hl⟩
def za.ad{N0:Nat}{N':Nat}(s:za N0 h N v m)(k:ab h N h' N'):za N0 h' N' v m:=by obtain⟨us,h1,h2,h3,h4⟩:=s;refine⟨us,h1.ad k,h2,h3,fun j l hl=>?_⟩;obtain⟨u,g1,g2⟩:=h4 j l hl;exact⟨u,g1,g2.ad k⟩
def za.txm{N0:Nat}(s:za N0 h N v m):mX h N v m:=by obtain⟨us,h1,h2,h3,h4⟩:=s;refine⟨us,Sn.one.1 h1.sn,h3,fun j l hl=>?_⟩;obtain⟨u,g1,g2⟩:=h4 j l hl;exact⟨u,g1,g2.1⟩
def za.push{N0:Nat}{x:V}{w:List Nat}(s:za N0 h N v m)(hu:Ay h N u l)(hN:N0<=N)(hx:gb ⟨h,N,w⟩ 1 x=some (1,[u]))(hm:m.length<100000):
  ∃v' h' w',mm ⟨h,N,w⟩ 1 24 23 v x=some (v',⟨h',N+1,w'⟩)/\ay N0 w'=ay N0 w/\ab h N0 h' (N+1)/\za N0 h' (N+1) v' (m++[l]):=by
 obtain⟨us,h1,h2,h3,h4⟩:=s;obtain⟨v',h',w',f1,f2,f3,f4,fD,f5⟩:=FO (Y:=fun _=>True) (x:=[u]) (u:=x) (bytes:=24) (w:=w) h1 (fun h0=>h2 (List.map_eq_nil_iff.1 h0)) (fun _ _ _ _=>trivial) hN (by decide) rfl hx (by rw[cG];omega);refine⟨v',h',w',f1,f2,f3,us++[u],by simpa using f5,by simp,by simp[h3],fun j r hr=>?_⟩;by_cases hj:j<m.length
 ·rw[mj hj]at hr;obtain⟨u',g1,g2⟩:=h4 j r hr;exact⟨u',by rw[mj (by omega)];exact g1,g2.bY f4 fD (by simp)⟩
 rw[pY (by omega)]at hr;cases hd:j-m.length with
 |zero=> rw[hd]at hr;simp at hr;subst hr;exact⟨u,by rw[pY (by omega),h3,hd];rfl,hu.bY f4 fD (by simp)⟩
 |succ d=>rw[hd]at hr;simp at hr
def Yn9{N i:Nat}:∀{w:List Nat},i∈w->i<N->i∈ay N w
 |[],h,_=>by simp at h
 |j::w,h,hi=>by
  simp only[ay]
  rcases iW.1 h with rfl|h
  ·rw[ar hi]
   unfold wG
   split
   ·rename_i hc;simpa using hc
   ·exact qQ
  ·have:=Yn9 h hi
   split
   ·unfold wG
    split
    ·exact this
    ·exact qz _ this
   ·exact this
def FW{w:List Nat}(h:ay N w=[]):∀i∈w,N<=i:=fun i hi=>by
 apply zB
 intro hc
 have:=Yn9 hi hc
 rw[h]at this
 simp at this
def p_(m:List (List Rat))(k:Nat):List Rat:=m.map fun r=>r[k]?.getD 0
def cn(m:List (List Rat))(n:Nat):List (List Rat):=(List.range n).map fun k=>p_ m k
def yk(r w:List Rat):List Rat:=(List.range w.length).map fun k=>r[k]?.getD 0*w[k]?.getD 0
def Lc(r w:List Rat)(n:Nat):List Rat:=(List.range n).map fun k=>r[k]?.getD 0*w[k]?.getD 0
variable {N n:Nat} {h:T O} {m:List (List aD)} {v:V} {w:List Nat}
def A.w23:=A.q Tryz.f23
def A.jV:=A.ql A.w23 0 []
def A.b23:=(fun x0=>A.qb A.w23 [x0]) A.jV
def A.k23:=@A.kk 23 32 [.tmp 4] A.b23 (by kernel_rfl) rfl
def A.w21:=A.q Tryz.f21
def A.jW:=A.ql A.w21 0 []
def A.b21:=(fun x0=>A.qb A.w21 [x0]) A.jW
def A.k21:=@A.kk 21 35 [.tmp 6] A.b21 (by kernel_rfl) rfl
def A.w19:=A.q Tryz.f19
def A.xN:=A.ql A.w19 0 []
def A.b19:=(fun x0=>A.qb A.w19 [x0]) A.xN
def A.k19:=@A.kk 19 26 [.tmp 4] A.b19 (by kernel_rfl) rfl
def Yei{u:V}{l:List aD}(hu:Sl h N u (strs l))(hv:Sl h N v (strs l))(hl:l.length<100000):A.C.call (.func 19 [] []) [u,v] ⟨h,N,w⟩=some (.bool true,⟨h,N,w⟩):=by
 apply Call.eq;have l1:=hu.len;have l2:=hv.len;rw[m7]at l1 l2;rw[aN,A.k19 (by simp)];simp[A.b19,l1,l2];refine cm [(4,5),(11,25)] (fun e r st=>st=⟨h,N,[]⟩/\e=.exit 0) (fun m r st=>st=⟨h,N,[]⟩/\∃k,k+m=l.length/\r.get 5=some (.int .i64 k)) l.length ?_ ?_ ?_
 ·exact⟨rfl,0,by omega,by simp⟩
 ·rintro m r _ hr hf ⟨rfl,k,hk,h5⟩;rw[bu];cases m with
  |zero=>
   obtain rfl:k=l.length:=by omega
   simp[A.xN,hr,hf,h5,l1]
  |succ m=>
   have aC:k<l.length:=by omega
   obtain⟨s,hs⟩:=bj aC;obtain⟨i,o,c,e,rw,q1,q2,q3,q4⟩:=hu.at (GH hs);obtain⟨i',o',c',e',rQ,p1,p2,p3,p4⟩:=hv.at (GH hs);have cI:(k:Int)<(l.length:Int):=by omega
   simp(disch:=first|(simp;done)|omega|rfl) [A.xN,hr,hf,h5,l1,l2,cI,q1,q2,q3,q4,p1,p2,p3,p4,jF];exact⟨m,by omega,k+1,by omega,by simp⟩
 rintro _ r _ hr ⟨rfl,rfl⟩;simp
def pr(s:aD):Bool:=decide (s.length<=24)
def qh(k n:Nat):Bool:=decide (k<=n\/64<k/\k<=66)
def dJ(n:Nat)(l:List aD):Bool:=qh l.length n&&l.all pr
def Zzq{k:Nat}(h:qh k n=true)(hn:n<64):k<=66:=by simp[qh]at h;omega
def Nf{l:List aD}(hs:Sl h N v (strs l))(hl:l.length<9223372036854775808)(hn:n<64):A.C.call (.func 23 [] []) [v,.int .i64 n] ⟨h,N,w⟩=some (.bool (dJ n l),⟨h,N,w⟩):=by
 apply Call.eq;have lg:=hs.len;rw[m7]at lg;rw[aN,A.k23 (by simp)];have fin:qh l.length n=true->dJ n l=l.all pr:=fun h=>by simp[dJ,h]
 by_cases c1:l.length<=n
 ·rw[fin (by simp[qh,c1])];have a1:¬(n:Int)<(l.length:Int):=by omega
  have a2:¬66<(l.length:Int):=by omega
  simp[A.b23,lg,a1,a2];refine cm [(4,5),(20,31)] (fun e r st=>st=⟨h,N,[]⟩/\((e=.exit 0/\l.all pr=true)\/(e=.ret/\l.all pr=false/\r.get 4=some (.bool false)))) (fun m r st=>st=⟨h,N,[]⟩/\∃k,k+m=l.length/\r.get 5=some (.int .i64 k)/\l.all pr=(l.drop k).all pr) l.length ?_ ?_ ?_
  ·exact⟨rfl,0,by omega,by simp,by simp⟩
  ·rintro m r _ hr hf ⟨rfl,k,hk,hx,hz⟩;rw[bu];cases m with
   |zero=>
    obtain rfl:k=l.length:=by omega
    rw[pw,List.all_nil]at hz;simp[A.jV,hr,hf,hx,lg,hz]
   |succ m=>
    have aC:k<l.length:=by omega
    have cI:(k:Int)<(l.length:Int):=by omega
    obtain⟨s,hc⟩:=bj aC;obtain⟨i,o,cc,e,rw,q1,q2,q3,q4⟩:=hs.at (GH hc);rw[jN hc,List.all_cons]at hz;by_cases c4:pr s=true
    ·rw[c4,Bool.true_and]at hz;have c6:¬24<(s.length:Int):=by simp[pr]at c4;omega
     simp(disch:=first|(simp;done)|omega|rfl) [A.jV,hr,hf,hx,lg,cI,q1,q3,q4,c6];exact⟨m,by omega,k+1,by omega,by simp,hz⟩
    have c5:pr s=false:=by simpa using c4
    rw[c5,Eu]at hz;have c6:24<(s.length:Int):=by simp[pr]at c5;omega
    simp[A.jV,hr,hf,hx,lg,cI,q1,q3,q4,c6,hz]
  rintro e r _ hr ⟨rfl,⟨rfl,hq⟩|⟨rfl,hq,h2⟩⟩
  ·simp[hq]
  simp[hq,h2]
 have a1:(n:Int)<(l.length:Int):=by omega
 have U6:n<l.length:=by omega
 by_cases c2:l.length<=64
 ·have a3:(l.length:Int)<=64:=by omega
  have e1:dJ n l=false:=by simp[dJ,qh,c1];omega
  simp[A.b23,lg,a1,a3,e1]
 have a3:¬(l.length:Int)<=64:=by omega
 by_cases c3:66<l.length
 ·have a4:66<(l.length:Int):=by omega
  have e1:dJ n l=false:=by simp[dJ,qh,c1];omega
  simp[A.b23,lg,a1,a3,a4,e1]
 have a4:¬66<(l.length:Int):=by omega
 rw[fin (by simp[qh];omega)];simp[A.b23,lg,a1,a3,a4];refine cm [(4,5),(20,31)] (fun e r st=>st=⟨h,N,[]⟩/\((e=.exit 0/\l.all pr=true)\/(e=.ret/\l.all pr=false/\r.get 4=some (.bool false)))) (fun m r st=>st=⟨h,N,[]⟩/\∃k,k+m=l.length/\r.get 5=some (.int .i64 k)/\l.all pr=(l.drop k).all pr) l.length ?_ ?_ ?_
 ·exact⟨rfl,0,by omega,by simp,by simp⟩
 ·rintro m r _ hr hf ⟨rfl,k,hk,hx,hz⟩;rw[bu];cases m with
  |zero=>
   obtain rfl:k=l.length:=by omega
   rw[pw,List.all_nil]at hz;simp[A.jV,hr,hf,hx,lg,hz]
  |succ m=>
   have aC:k<l.length:=by omega
   have cI:(k:Int)<(l.length:Int):=by omega
   obtain⟨s,hc⟩:=bj aC;obtain⟨i,o,cc,e,rw,q1,q2,q3,q4⟩:=hs.at (GH hc);rw[jN hc,List.all_cons]at hz;by_cases c4:pr s=true
   ·rw[c4,Bool.true_and]at hz;have c6:¬24<(s.length:Int):=by simp[pr]at c4;omega
    simp(disch:=first|(simp;done)|omega|rfl) [A.jV,hr,hf,hx,lg,cI,q1,q3,q4,c6];exact⟨m,by omega,k+1,by omega,by simp,hz⟩
   have c5:pr s=false:=by simpa using c4
   rw[c5,Eu]at hz;have c6:24<(s.length:Int):=by simp[pr]at c5;omega
   simp[A.jV,hr,hf,hx,lg,cI,q1,q3,q4,c6,hz]
 rintro e r _ hr ⟨rfl,⟨rfl,hq⟩|⟨rfl,hq,h2⟩⟩
 ·simp[hq]
 simp[hq,h2]
def dq(h:T O)(N:Nat)(v:V)(m:List (List aD)):Prop:=∃us:List V,Sl h N v us/\us.length=m.length/\∀(j:Nat) (l:List aD),m[j]?=some l->∃u,us[j]?=some u/\Sl h N u (strs l)
def dq.ad{h':T O}{N':Nat}(s:dq h N v m)(k:ab h N h' N'):dq h' N' v m:=by obtain⟨us,h1,h2,h3⟩:=s;refine⟨us,h1.ad k,h2,fun j l hl=>?_⟩;obtain⟨u,g1,g2⟩:=h3 j l hl;exact⟨u,g1,g2.ad k⟩
def dq.len(s:dq h N v m):qg v=some m.length:=by obtain⟨us,h1,h2,_⟩:=s;rw[h1.len,h2]
def dq.at(s:dq h N v m){j:Nat}{l:List aD}(hj:m[j]?=some l):∃i o c e rw u,yo v=some (i,o)/\i<N/\h.get i=some (.cells c e rw)/\c[o+j]?=some u/\Sl h N u (strs l):=by obtain⟨us,h1,h2,h3⟩:=s;obtain⟨u,g1,g2⟩:=h3 j l hj;obtain⟨i,o,c,e,rw,q1,q2,q3,q4⟩:=h1.at g1;exact⟨i,o,c,e,rw,u,q1,q2,q3,q4,g2⟩
def dq.txm{m:List (List Rat)}(s:dq h N v (m.map fun l=>l.map aP)):mX h N v m:=by obtain⟨us,h1,h2,h3⟩:=s;refine⟨us,h1,by simpa using h2,fun j l hl=>?_⟩;exact h3 j (l.map aP) (by simp[hl])
def nE(r c:Nat)(m:List (List aD)):Bool:=qh m.length r&&m.all (dJ c)
def Yj0{l:List (List aD)}{p:Nat}(hs:dq h N v l)(hl:l.length<9223372036854775808)(fK:∀x∈l,x.length<9223372036854775808)(hn:n<64)(hp:p<64):A.C.call (.func 21 [] []) [v,.int .i64 n,.int .i64 p] ⟨h,N,w⟩=some (.bool (nE n p l),⟨h,N,w⟩):=by
 apply Call.eq;have lg:=hs.len;rw[aN,A.k21 (by simp)];have fin:qh l.length n=true->nE n p l=l.all (dJ p):=fun h=>by simp[nE,h]
 by_cases c1:l.length<=n
 ·rw[fin (by simp[qh,c1])];have a1:¬(n:Int)<(l.length:Int):=by omega
  have a2:¬66<(l.length:Int):=by omega
  simp[A.b21,lg,a1,a2];refine cm [(6,7),(22,34)] (fun e r st=>st=⟨h,N,[]⟩/\((e=.exit 0/\l.all (dJ p)=true)\/(e=.ret/\l.all (dJ p)=false/\r.get 6=some (.bool false)))) (fun m r st=>st=⟨h,N,[]⟩/\∃k,k+m=l.length/\r.get 7=some (.int .i64 k)/\l.all (dJ p)=(l.drop k).all (dJ p)) l.length ?_ ?_ ?_
  ·exact⟨rfl,0,by omega,by simp,by simp⟩
  ·rintro m r _ hr hf ⟨rfl,k,hk,hx,hz⟩;rw[bu];cases m with
   |zero=>
    obtain rfl:k=l.length:=by omega
    rw[pw,List.all_nil]at hz;simp[A.jW,hr,hf,hx,lg,hz]
   |succ m=>
    have aC:k<l.length:=by omega
    have cI:(k:Int)<(l.length:Int):=by omega
    obtain⟨s,hc⟩:=bj aC;obtain⟨i,o,cc,e,rw,u,q1,q2,q3,q4,q5⟩:=hs.at hc;have ct:=fun w=>Nf (w:=w) q5 (fK s (cF hc)) hp;rw[jN hc,List.all_cons]at hz;by_cases c4:(dJ p) s=true
    ·rw[c4,Bool.true_and]at hz;simp(disch:=first|(simp;done)|omega|rfl) [A.jW,hr,hf,hx,lg,cI,q1,q3,q4,ct,c4];exact⟨m,by omega,k+1,by omega,by simp,hz⟩
    have c5:(dJ p) s=false:=by simpa using c4
    rw[c5,Eu]at hz;simp[A.jW,hr,hf,hx,lg,cI,q1,q3,q4,ct,c5,hz]
  rintro e r _ hr ⟨rfl,⟨rfl,hq⟩|⟨rfl,hq,h2⟩⟩
  ·simp[hq]
  simp[hq,h2]
 have a1:(n:Int)<(l.length:Int):=by omega
 have U6:n<l.length:=by omega
 by_cases c2:l.length<=64
 ·have a3:(l.length:Int)<=64:=by omega
  have e1:nE n p l=false:=by simp[nE,qh,c1];omega
  simp[A.b21,lg,a1,a3,e1]
 have a3:¬(l.length:Int)<=64:=by omega
 by_cases c3:66<l.length
 ·have a4:66<(l.length:Int):=by omega
  have e1:nE n p l=false:=by simp[nE,qh,c1];omega
  simp[A.b21,lg,a1,a3,a4,e1]
 have a4:¬66<(l.length:Int):=by omega
 rw[fin (by simp[qh];omega)];simp[A.b21,lg,a1,a3,a4];refine cm [(6,7),(22,34)] (fun e r st=>st=⟨h,N,[]⟩/\((e=.exit 0/\l.all (dJ p)=true)\/(e=.ret/\l.all (dJ p)=false/\r.get 6=some (.bool false)))) (fun m r st=>st=⟨h,N,[]⟩/\∃k,k+m=l.length/\r.get 7=some (.int .i64 k)/\l.all (dJ p)=(l.drop k).all (dJ p)) l.length ?_ ?_ ?_
 ·exact⟨rfl,0,by omega,by simp,by simp⟩
 ·rintro m r _ hr hf ⟨rfl,k,hk,hx,hz⟩;rw[bu];cases m with
  |zero=>
   obtain rfl:k=l.length:=by omega
   rw[pw,List.all_nil]at hz;simp[A.jW,hr,hf,hx,lg,hz]
  |succ m=>
   have aC:k<l.length:=by omega
   have cI:(k:Int)<(l.length:Int):=by omega
   obtain⟨s,hc⟩:=bj aC;obtain⟨i,o,cc,e,rw,u,q1,q2,q3,q4,q5⟩:=hs.at hc;have ct:=fun w=>Nf (w:=w) q5 (fK s (cF hc)) hp;rw[jN hc,List.all_cons]at hz;by_cases c4:(dJ p) s=true
   ·rw[c4,Bool.true_and]at hz;simp(disch:=first|(simp;done)|omega|rfl) [A.jW,hr,hf,hx,lg,cI,q1,q3,q4,ct,c4];exact⟨m,by omega,k+1,by omega,by simp,hz⟩
   have c5:(dJ p) s=false:=by simpa using c4
   rw[c5,Eu]at hz;simp[A.jW,hr,hf,hx,lg,cI,q1,q3,q4,ct,c5,hz]
 rintro e r _ hr ⟨rfl,⟨rfl,hq⟩|⟨rfl,hq,h2⟩⟩
 ·simp[hq]
 simp[hq,h2]
variable {N:Nat} {h:T O} {l:List aD} {v:V}
def A.w26:=A.q Tryz.f26
def A.xO:=A.ql A.w26 0 []
def A.b26:=(fun x0=>A.qb A.w26 [x0]) A.xO
def A.k26:=@A.kk 26 19 [.tmp 2] A.b26 (by kernel_rfl) rfl
def A.b7:=A.q Tryz.f7
def A.k7:=@A.kk 7 11 [.tmp 4] A.b7 (by kernel_rfl) rfl
def A.w78:=A.q Tryz.f78
def A.xP:=A.ql A.w78 0 []
def A.b78:=(fun x0=>A.qb A.w78 [x0]) A.xP
def A.k78:=@A.kk 78 49 [.tmp 6] A.b78 (by kernel_rfl) rfl
def A.w9:=A.q Tryz.f9
def A.Bg:=A.ql A.w9 0 []
def A.b9:=(fun x0=>A.qb A.w9 [x0]) A.Bg
def A.k9:=@A.kk 9 28 [.tmp 4] A.b9 (by kernel_rfl) rfl
def Ymx(hs:Sl h N v (strs l))(hl:l.length<100000)(vV:∀s∈l,s.length<9223372036854775808):Fn A.C 26 [v] h N (fun u _ _=>u=.int .i64 (bp (l.map fun s=>((aS s:Nat):Int)))):=by
 intro w;have hlen:=hs.len;rw[m7]at hlen;rw[aN,A.k26 (by simp)];simp(disch:=first|(simp;done)|omega|rfl) [-getElem?_pos,A.b26];refine cm [(2,18)] (fun e r st=>ay N st.w=[]/\ab h N st.h st.n/\((e=.exit 0/\bp (l.map fun s=>((aS s:Nat):Int))=0)\/(e=.ret/\r.get 2=some (.int .i64 (bp (l.map fun s=>((aS s:Nat):Int))))))) (fun m r st=>ay N st.w=[]/\ab h N st.h st.n/\∃k,k+m=l.length/\r.get 3=some (.int .i64 k)/\bp (l.map fun s=>((aS s:Nat):Int))=bp ((l.drop k).map fun s=>((aS s:Nat):Int))) l.length ?_ ?_ ?_
 ·exact⟨by simp,ab.refl,0,by omega,by simp,by simp⟩
 ·rintro m r ⟨H,n1,W⟩ hr hf ⟨hW,hK,k,hk,h7,hz⟩;simp only at hW hK;rw[bu];cases m with
  |zero=>
   obtain rfl:k=l.length:=by omega
   rw[pw,vF,bp]at hz;simp(disch:=first|(simp;done)|omega|rfl) [-getElem?_pos,A.xO,hr,hf,h7,hlen,hz,hW,hK]
  |succ m=>
   have aC:k<l.length:=by omega
   obtain⟨s,hc⟩:=bj aC;obtain⟨i,o,cc,e,rw,q1,q2,q3,q4⟩:=(hs.ad hK).at (GH hc);rw[jN hc,nI,bp]at hz;have cI:(k:Int)<(l.length:Int):=by omega
   simp(disch:=first|(simp;done)|omega|rfl) [-getElem?_pos,A.xO,hr,hf,h7,cI,aC,hlen,q1,q3,q4];refine av (Zq2 (vV s (cF hc))) ?_;rintro _ h3 n3 k3 rfl;have kk:=hK.trans k3;by_cases h0:aS s=0
   ·rw[ar (by omega)]at hz;simp(disch:=first|(simp;done)|omega|rfl) [-getElem?_pos,hr,hf,h7,h0,hW,bh];exact⟨m,by omega,kk,k+1,by omega,by simp,by simpa using hz⟩
   rw[ak (by omega)]at hz;have jM:¬((aS s:Nat):Int)=0:=by omega
   simp(disch:=first|(simp;done)|omega|rfl) [-getElem?_pos,hr,hf,h7,h0,jM,hW,bh,hz];exact kk
 rintro _ r ⟨H,n1,W⟩ hr ⟨hW,hK,⟨rfl,hz⟩|⟨rfl,h2⟩⟩
 ·simp only at hW hK;simp(disch:=first|(simp;done)|omega|rfl) [-getElem?_pos,hr,hz,ax,hW,hK]
 simp only at hW hK;simp(disch:=first|(simp;done)|omega|rfl) [-getElem?_pos,hr,h2,ax,hW,hK]
def dj(l:List aD)(n:Nat):Int:=if l.length=n then bp (l.map fun s=>((aS s:Nat):Int)) else 2
def ba(l:List (List aD)):Nat:=(l[0]?.getD []).length
def iF(l:List (List aD))(r c:Nat):Int:=if l.length=0\/ba l=0 then 12 else if r<l.length\/c<ba l then 5 else bp (l.map fun x=>dj x (ba l))
def q9(l:List (List aD))(n:Nat):Int:=if l.length=0 then 12 else if 16<l.length then 5 else bp (l.map fun x=>dj x n)
def Zvj{n:Nat}(hs:Sl h N v (strs l))(hl:l.length=n->l.length<100000)(vV:∀s∈l,s.length<9223372036854775808):Fn A.C 7 [v,.int .i64 n] h N (fun u _ _=>u=.int .i64 (dj l n)):=by
 intro w;have hlen:=hs.len;rw[m7]at hlen;rw[aN,A.k7 (by simp)];by_cases c:l.length=n
 ·subst c;simp(disch:=first|(simp;done)|omega|rfl) [-getElem?_pos,A.b7,hlen,bh];refine av (Ymx hs (hl rfl) vV) ?_;rintro _ H2 n2 k2 rfl;simp(disch:=first|(simp;done)|omega|rfl) [-getElem?_pos,ax,dj];exact k2
 have c':¬(l.length:Int)=(n:Int):=by omega
 simp(disch:=first|(simp;done)|omega|rfl) [-getElem?_pos,A.b7,hlen,c',dj,c,ax,bh];exact ab.refl
def Lp{n:Nat}(hs:Sl h N v (strs l))(hl:l.length<100000)(vV:∀s∈l,s.length<=100000):Fn A.C 7 [v,.int .i64 n] h N (fun u _ _=>u=.int .i64 (dj l n)):=Zvj hs (fun _=>hl) fun s h=>by have:=vV s h;omega
def Ys7{l:List (List aD)}{a b:Nat}(hs:dq h N v l)(hl:l.length<100000)(hx:∀x∈l,x.length<100000/\∀s∈x,s.length<=100000):Fn A.C 78 [v,.int .i64 a,.int .i64 b] h N (fun u _ _=>u=.int .i64 (iF l a b)):=by
 intro w;have hlen:=hs.len;rw[aN,A.k78 (by simp)];by_cases c0:l.length=0
 ·have c0':(l.length:Int)=0:=by omega
  simp[A.b78,hlen,c0,iF,ax];exact ab.refl
 have c0':¬(l.length:Int)=0:=by omega
 have nO:0<l.length:=by omega
 have q_:0<(l.length:Int):=by omega
 obtain⟨l0,cH⟩:=bj nO;obtain⟨i0,o0,Ir,e0,AU,u0,z1,z2,z3,z4,z5⟩:=hs.at cH;have z6:=z5.len;rw[m7]at z6;rw[gE]at z4;obtain⟨n,hn⟩:∃n,n=l0.length:=⟨_,rfl⟩;have en:ba l=n:=by simp[ba,cH,hn]
 rw[<-hn]at z6;have yl:n<100000:=by have:=(hx l0 (cF cH)).1;omega
 by_cases c1:n=0
 ·have c1':(n:Int)=0:=by omega
  simp[A.b78,hlen,c0,nO,z1,z3,z4,z6,c1,iF,en,ax];exact ab.refl
 have c1':¬(n:Int)=0:=by omega
 by_cases c2:a<l.length
 ·have c2':(a:Int)<(l.length:Int):=by omega
  simp[A.b78,hlen,c0,nO,z1,z3,z4,z6,c1,c2,c2',iF,en,ax];exact ab.refl
 have c2':¬(a:Int)<(l.length:Int):=by omega
 by_cases c3:b<n
 ·have c3':(b:Int)<(n:Int):=by omega
  simp[A.b78,hlen,c0,nO,z1,z3,z4,z6,c1,c2,c2',c3,c3',iF,en,ax];exact ab.refl
 have c3':¬(b:Int)<(n:Int):=by omega
 have e1:iF l a b=bp (l.map fun x=>dj x n):=by simp[iF,en,c0,c1,c2,c3]
 rw[e1];simp[A.b78,hlen,c0,nO,z1,z3,z4,z6,c1,c2',c3'];refine cm [(6,8),(31,48)] (fun e r st=>ay N st.w=[]/\ab h N st.h st.n/\((e=.exit 0/\bp (l.map fun x=>dj x n)=0)\/(e=.ret/\r.get 6=some (.int .i64 (bp (l.map fun x=>dj x n)))))) (fun m r st=>ay N st.w=[]/\ab h N st.h st.n/\∃k,k+m=l.length/\r.get 7=some (.int .i64 k)/\bp (l.map fun x=>dj x n)=bp ((l.drop k).map fun x=>dj x n)) l.length ?_ ?_ ?_
 ·exact⟨by simp,ab.refl,0,by omega,by simp,by simp⟩
 ·rintro m r ⟨H,n1,W⟩ hr hf ⟨hW,hK,k,hk,h7,hz⟩;simp only at hW hK;rw[bu];cases m with
  |zero=>
   obtain rfl:k=l.length:=by omega
   rw[pw,vF,bp]at hz;simp[A.xP,hr,hf,h7,hlen,hz,hW,hK]
  |succ m=>
   have aC:k<l.length:=by omega
   obtain⟨s,hc⟩:=bj aC;obtain⟨i,o,cc,e,rw,u,q1,q2,q3,q4,q5⟩:=(hs.ad hK).at hc;rw[jN hc,nI,bp]at hz;have cI:(k:Int)<(l.length:Int):=by omega
   obtain⟨i1,o1,UN,e1,rw1,u1,y1,y2,y3,y4,y5⟩:=(hs.ad hK).at cH;have y6:=y5.len;rw[m7,<-hn]at y6;rw[gE]at y4;obtain⟨rfl,rfl⟩:i=i1/\o=o1:=by rw[q1]at y1;simpa using y1
   obtain⟨rfl,rfl,rfl⟩:cc=UN/\e=e1/\rw=rw1:=by rw[q3]at y3;simpa using y3
   simp[A.xP,hr,h7,cI,hlen,q1,q2,q3,q4,nO,y4,y6];refine av (Lp q5 (hx s (cF hc)).1 (hx s (cF hc)).2) ?_;rintro _ h3 n3 k3 rfl;have kk:=hK.trans k3;by_cases h0:dj s n=0
   ·rw[ar h0]at hz;simp(disch:=first|(simp;done)|omega|rfl) [hf,h7,h0,hW];exact⟨m,by omega,kk,k+1,by omega,by simp,by simpa using hz⟩
   rw[ak h0]at hz;simp[hf,h0,hW,hz];exact kk
 rintro _ r ⟨H,n1,W⟩ hr ⟨hW,hK,⟨rfl,hz⟩|⟨rfl,h2⟩⟩
 ·simp only at hW hK;simp[hz,ax,hW,hK]
 simp only at hW hK;simp[h2,ax,hW,hK]
def A.w6:=A.q Tryz.f6
def A.Ck:=A.ql A.w6 0 []
def A.b6:=(fun x0=>A.qb A.w6 [x0]) A.Ck
def A.k6:=@A.kk 6 34 [.tmp 6] A.b6 (by kernel_rfl) rfl
def rI(least:Int)(s:aD):Int:=if aS s=0 then (if eE (jh s).num<least then 3 else 0) else ((aS s:Nat):Int)
def ra(l:List aD)(n:Nat)(least:Int):Int:=if l.length=n then bp (l.map (rI least)) else 2
def Ywm{h:T O}{N:Nat}{v:V}{l:List aD}{n:Nat}{z:Int}(hs:Sl h N v (strs l))(hl:l.length<100000)(vV:∀s∈l,s.length<=100000):Fn A.C 6 [v,.int .i64 n,.int .i64 z] h N (fun u _ _=>u=.int .i64 (ra l n z)):=by
 intro w;have hlen:=hs.len;rw[m7]at hlen;rw[aN,A.k6 (by simp)];by_cases c:l.length=n
 ·have e1:ra l n z=bp (l.map (rI z)):=by simp[ra,c]
  rw[e1];subst c;simp[A.b6,hlen];refine cm [(6,8),(13,33)] (fun e r st=>ay N st.w=[]/\ab h N st.h st.n/\((e=.exit 0/\bp (l.map (rI z))=0)\/(e=.ret/\r.get 6=some (.int .i64 (bp (l.map (rI z))))))) (fun m r st=>ay N st.w=[]/\ab h N st.h st.n/\∃k,k+m=l.length/\r.get 7=some (.int .i64 k)/\bp (l.map (rI z))=bp ((l.drop k).map (rI z))) l.length ?_ ?_ ?_
  ·exact⟨by simp,ab.refl,0,by omega,by simp,by simp⟩
  ·rintro m r ⟨H,n1,W⟩ hr hf ⟨hW,hK,k,hk,h7,hz⟩;simp only at hW hK;rw[bu];cases m with
   |zero=>
    obtain rfl:k=l.length:=by omega
    rw[pw,vF,bp]at hz;simp[A.Ck,hr,hf,h7,hlen,hz,hW,hK]
   |succ m=>
    have aC:k<l.length:=by omega
    obtain⟨s,hc⟩:=bj aC;have EX:=GH hc;obtain⟨i,o,cc,e,rw,q1,q2,q3,q4⟩:=(hs.ad hK).at EX;rw[jN hc,nI,bp]at hz;have cI:(k:Int)<(l.length:Int):=by omega
    simp[A.Ck,hr,h7,cI,hlen,q1,q3,q4];refine av (Zt3 (vV s (cF hc))) ?_;rintro _ h3 n3 k3 rfl;have kk:=hK.trans k3;by_cases h0:aS s=0
    ·obtain⟨t1,_⟩:=HW h0;obtain⟨i',o',Zx,e',rQ,p1,p2,p3,p4⟩:=(hs.ad kk).at EX;rw[<-t1]at p4;have jM:((aS s:Nat):Int)=0:=by omega
     by_cases h2:eE (jh s).num<z
     ·have e2:rI z s=3:=by simp[rI,h0,h2]
      rw[e2,ak (by decide)]at hz;simp[hr,hf,h7,h0,hW,cI,hlen,p1,p3,p4,Zr3,h2,hz];exact kk
     have e2:rI z s=0:=by simp[rI,h0,h2]
     rw[e2,ar rfl]at hz;simp(disch:=first|(simp;done)|omega|rfl) [hr,hf,h7,h0,hW,hlen,p1,p3,p4,Zr3,h2];exact⟨m,by omega,kk,k+1,by omega,by simp,by simpa using hz⟩
    have e2:rI z s=((aS s:Nat):Int):=by simp[rI,h0]
    have jM:¬((aS s:Nat):Int)=0:=by omega
    rw[e2,ak jM]at hz;simp[hf,h0,hW,hz];exact kk
  rintro _ r ⟨H,n1,W⟩ hr ⟨hW,hK,⟨rfl,hz⟩|⟨rfl,h2⟩⟩
  ·simp only at hW hK;simp[hz,ax,hW,hK]
  simp only at hW hK;simp[h2,ax,hW,hK]
 have c':¬(l.length:Int)=(n:Int):=by omega
 simp[A.b6,hlen,c',ra,c,ax];exact ab.refl
def yf(l:List Rat):Bool:=l.any zW
end
end Go.Mx
