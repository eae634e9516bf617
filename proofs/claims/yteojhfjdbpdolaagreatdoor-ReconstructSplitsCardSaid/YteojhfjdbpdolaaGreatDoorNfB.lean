/-num-/
import Derived.Test.YteojhfjdbpdolaaGreatDoorNdA
set_option linter.all false
namespace Go.Mx
noncomputable section
open Go Go.Proofs
variable {N:Nat} {h:T O} {l:List Rat} {v:V}
set_option maxHeartbeats 1000000
set_option maxRecDepth 1000000
def A.w40:=A.q Tryz.f40
def A.we:=A.ql A.w40 0 []
def A.b40:=(fun x0=>A.qb A.w40 [x0]) A.we
def A.k40:=@A.kk 40 23 [.tmp 2] A.b40 (by kernel_rfl) rfl
def A.NB:=A.q Tryz.f127
def A.rP:=A.ql A.NB 0 []
def A.b127:=(fun x0=>A.qb A.NB [x0]) A.rP
def A.k127:=@A.kk 127 23 [.tmp 2] A.b127 (by kernel_rfl) rfl
def fE(h:T O)(N:Nat)(c:List V)(q:Rat):Prop:=∃n1 u1 n2 u2,c=[.int .i64 n1,u1,.int .i64 n2,u2]/\In h N (.agg [.int .i64 n1,u1]) q.num/\In h N (.agg [.int .i64 n2,u2]) (q.den:Int)
def fE.ae{h':T O}{N':Nat}{c:List V}{q:Rat}(s:fE h N c q)(k:ab h N h' N'):fE h' N' c q:=by
 obtain⟨n1,u1,n2,u2,rfl,s1,s2⟩:=s
 exact⟨n1,u1,n2,u2,rfl,s1.ae k,s2.ae k⟩
def fE.fc{c:List V}{q:Rat}(s:fE h N c q):Fc h N (.agg c) q:=by
 obtain⟨n1,u1,n2,u2,rfl,s1,s2⟩:=s
 exact⟨n1,u1,n2,u2,rfl,s1,s2⟩
def Fc.c{x:V}{q:Rat}(s:Fc h N x q):∃c,x=.agg c/\fE h N c q:=by
 obtain⟨n1,u1,n2,u2,rfl,s1,s2⟩:=s
 exact⟨_,rfl,n1,u1,n2,u2,rfl,s1,s2⟩
def tP(c:List V):Prop:=∀x∈c,∀m,x≠.int .u64 m
def Zys{n:Int}{u:V}{z:Int}(s:In h N (.agg [.int .i64 n,u]) z):∀m,u≠.int .u64 m:=by
 rcases s with⟨h1,_⟩|⟨i,o,l,c,h1,_⟩
 ·simp at h1;rw[h1.2];simp
 ·simp at h1;rw[h1.2];simp
def fE.KH{c:List V}{q:Rat}(s:fE h N c q):tP c:=by
 obtain⟨n1,u1,n2,u2,rfl,s1,s2⟩:=s
 intro x hx m
 simp at hx
 rcases hx with rfl|rfl|rfl|rfl
 ·simp
 ·exact Zys s1 m
 ·simp
 ·exact Zys s2 m
def fE.len{c:List V}{q:Rat}(s:fE h N c q):c.length=4/\c.all V.one=true:=by
 obtain⟨n1,u1,n2,u2,rfl,s1,s2⟩:=s
 have o1:=dZ s1
 have o2:=dZ s2
 exact⟨rfl,by simp only[List.all_cons,List.all_nil,o1,o2,Bool.and_true];rfl⟩
def fE.aK{i:Nat}{c c0 c1:List V}{q:Rat}{e0 e1:TypeId}{w0 w1:Bool}(s:fE h N c q)(g:h.get i=some (.cells c0 e0 w0))(hn:tP c0)(hc:c1.length=c0.length):fE (h.set i (.cells c1 e1 w1)) N c q:=by
 obtain⟨n1,u1,n2,u2,rfl,s1,s2⟩:=s
 exact⟨n1,u1,n2,u2,rfl,s1.aK g hn hc,s2.aK g hn hc⟩
def jz(h:T O)(N:Nat)(v:V)(l:List Rat):Prop:=∃cs:List (List V),Sn 4 h N v cs/\cs.length=l.length/\∀(j:Nat) (q:Rat),l[j]?=some q->∃c,cs[j]?=some c/\fE h N c q
def jz.ae{h':T O}{N':Nat}(s:jz h N v l)(k:ab h N h' N'):jz h' N' v l:=by
 obtain⟨cs,h1,h2,h3⟩:=s
 refine⟨cs,h1.ae k,h2,fun j q hq=>?_⟩
 obtain⟨c,g1,g2⟩:=h3 j q hq
 exact⟨c,g1,g2.ae k⟩
def jz.len(s:jz h N v l):pD v=some l.length:=by
 obtain⟨cs,h1,h2,_⟩:=s
 rw[h1.len,h2]
def jz.at(s:jz h N v l){j:Nat}{q:Rat}(hj:l[j]?=some q):∃i o x e rw c,yd v=some (i,o)/\i<N/\h.get i=some (.cells x e rw)/\aF x (o+j*4) 4=some c/\fE h N c q:=by
 obtain⟨cs,h1,h2,h3⟩:=s
 obtain⟨c,h4,h5⟩:=h3 j q hj
 obtain⟨i,o,x,e,rw,q1,q2,q3,q4⟩:=h1.at h4
 exact⟨i,o,x,e,rw,c,q1,q2,q3,q4,h5⟩
def fl(h:T O)(N:Nat)(v:V)(l:List Rat):Prop:=jz h N v l/\∀i∈dh v,∃z w,h.get i=some (.cells z 89 w)
def tx(l:List Rat):List V:=strs (l.map aS)
def kp(l:List Rat):(tx l).length=l.length:=by simp[tx,strs]
def xV{j:Nat}{q:Rat}(h:l[j]?=some q):(tx l)[j]?=some (.str (aS q)):=by simp[tx,strs,h]
def zF:List V:=[.int .i64 0,.aa,.int .i64 0,.aa]
def Fh{z:List V}{n:Nat}:cU z (n+1)=z++cU z n:=by
 unfold cU
 rw[Nat.succ_mul,Nat.add_comm (n*z.length),List.range_add,List.map_append,List.map_map]
 congr 1
 ·apply lA
  intro j
  by_cases hj:j<z.length
  ·rw[eY,DT hj]
   simp[yn hj,hj]
  ·rw[eJ (by simp;omega),eJ (by omega)]
 ·apply zA
  intro i _
  simp[Nat.add_mod_left]
def RY{a b c x:List V}{n o:Nat}(ha:a.length=o)(hb:b.length=n)(hx:x.length=n):ad (a++(b++c)) o x=a++(x++c):=by
 unfold ad
 rw[<-ha,List.take_left,hx,<-List.drop_drop,List.drop_left,<-hb,List.drop_left,td]
structure FaI (h:T O) (N:Nat) (l:List Rat) (m:Nat) (r:T V) (st:St):Prop where
 w:ax N st.w=[]
 ae:ab h N st.h st.n
 ex:∃(k:Nat) (cs:List (List V)),k+m=l.length/\r.get 11=some (.int .i64 k)/\r.get 3=some (.slice N 0 l.length (some l.length) 4)/\N<st.n/\st.h.get N=some (.cells (cs.flatten++cU zF m) 89 true)/\cs.length=k/\∀(j:Nat) (q:Rat),j<k->l[j]?=some q->∃c,cs[j]?=some c/\fE st.h st.n c q
def NC{cs:List (List V)}(hl:cs.length<=l.length)(hc:∀(j:Nat) (q:Rat),j<cs.length->l[j]?=some q->∃c,cs[j]?=some c/\fE h N c q):(∀c∈cs,c.length=4)/\tP cs.flatten/\cs.flatten.all V.one=true:=by
 have key:∀c∈cs,∃q,fE h N c q:=fun c AB=>by
  obtain⟨j,hj⟩:=tc AB
  have ay:=iY hj
  obtain⟨q,hq⟩:=bk (l:=l) (k:=j) (by omega)
  obtain⟨c',h1,h2⟩:=hc j q ay hq
  rw[hj]at h1
  simp only[al]at h1
  subst h1
  exact⟨q,h2⟩
 refine⟨fun c AB=>?_,fun x hx m=>?_,?_⟩
 ·obtain⟨q,hq⟩:=key c AB;exact hq.len.1
 ·obtain⟨c,AB,Dr⟩:=List.mem_flatten.1 hx
  obtain⟨q,hq⟩:=key c AB
  exact hq.KH x Dr m
 ·rw[lB]
  intro x hx
  obtain⟨c,AB,Dr⟩:=List.mem_flatten.1 hx
  obtain⟨q,hq⟩:=key c AB
  exact lB.1 hq.len.2 x Dr
def RZ:∀{n:Nat},tP (cU zF n)
 |0=>by intro x hx;simp[cU]at hx
 |n+1=>by
  intro x hx m
  rw[Fh]at hx
  rcases mE.1 hx with hx|hx
  ·simp[zF]at hx
   rcases hx with rfl|rfl|rfl|rfl<;>simp
  ·exact RZ x hx m
def tP.app{a b:List V}(ha:tP a)(hb:tP b):tP (a++b):=fun x hx m=>by
 rcases mE.1 hx with hx|hx
 ·exact ha x hx m
 ·exact hb x hx m
def ZH(n:Nat):(cU zF n).length=n*4:=by
 induction n with
 |zero=>simp[cU]
 |succ n ih=>rw[Fh,iI,ih];simp[zF];omega
def Zq2{k0:Nat}(hs:Sl h N v (tx l))(hl:l.length<1000000000)(hq:∀q∈l,Qb k0 q)(uX:k0<=4000):Fn A.C 40 [v] h N (fun u h' n'=>fl h' n' u l):=by
 intro w
 have hlen:=hs.len
 rw[kp]at hlen
 have c1:(64:Int)*(l.length:Int)<=140737488355328:=by omega
 have c2:(l.length:Int)<4611686018427387904:=by omega
 have kB:ab h N (h.set N (.cells (cU zF l.length) 89 true)) (N+1):=ab.refl.new _
 rw[aR,A.k40 (by simp)]
 simp[A.b40,hlen,c1,c2]
 refine bL [(4,5),(11,21)] (fun e r st=>e=.exit 0/\FaI h N l 0 r st) (FaI h N l) l.length ?_ ?_ ?_
 ·exact⟨by simp,kB,0,[],by omega,by simp,by simp,by show N<N+1;omega,by rw[T.ag,av rfl];rfl,rfl,fun j q hj=>by omega⟩
 ·rintro m r ⟨H,n1,W⟩ hr hf ⟨hW,hK,k,cs,hk,m_,h3,pe,hM,cN,jA⟩
  simp only at hW hK hM pe jA
  rw[bl]
  cases m with
  |zero=>
   obtain rfl:k=l.length:=by omega
   simp[A.we,hr,hf,m_]
   exact⟨hW,hK,l.length,cs,by omega,by simp[m_],by simp[h3],pe,hM,cN,jA⟩
  |succ m=>
   have ay:k<l.length:=by omega
   have bb:(k:Int)<(l.length:Int):=by omega
   obtain⟨q,Ic⟩:=bk ay
   have iU:=hq q (cG Ic)
   obtain⟨i,o,cc,e,rw,q1,q2,q3,q4⟩:=(hs.ae hK).at (xV Ic)
   have la:=FB iU.1
   have R4:=DI iU.2
   simp[A.we,hr,hf,m_,h3,ay,bb,hlen,q1,q3,q4]
   refine aA (Yqc (q:=q) (by omega) (by omega)) ?_
   rintro _ H2 n2 k2 c9
   obtain⟨c,rfl,hc⟩:=c9.c
   have kX:=k2.le
   have fx:=hK.le
   have rQ:=(k2.get N pe).trans hM
   have Ie:∀(j:Nat) (q:Rat),j<cs.length->l[j]?=some q->∃c,cs[j]?=some c/\fE H2 n2 c q:=fun j q hj hq=>by
    obtain⟨c,g1,g2⟩:=jA j q (by omega) hq
    exact⟨c,g1,g2.ae k2⟩
   obtain⟨f1,f2,f3⟩:=NC (l:=l) (by omega) Ie
   have ky:=zK f1
   obtain⟨e1,e2⟩:=hc.len
   have f_:ad (cs.flatten++cU zF (m+1)) (k*4) c=(cs++[c]).flatten++cU zF m:=by
    rw[Fh,RY (n:=4) (by rw[ky,cN]) rfl e1,J6,td]
   have hb:k*4+4<=(cs.flatten++cU zF (m+1)).length:=by
    rw[iI,ky,ZH];omega
   have mA:(V.agg c).cells=c:=rfl
   have Fi:tP (cs.flatten++cU zF (m+1)):=f2.app RZ
   have oL:((cs++[c]).flatten++cU zF m).length=(cs.flatten++cU zF (m+1)).length:=by
    rw[Fh,J6];simp[e1,zF];omega
   generalize cs.flatten++cU zF (m+1)=X at*
   obtain⟨Y,hY⟩:∃Y,(cs++[c]).flatten++cU zF m=Y:=⟨_,rfl⟩
   rw[hY]at f_ oL
   simp(disch:=first|(simp;done)|omega|(simp only[bA,cA,bo];omega)|rfl) [-V.cells, -V.one,hr,hf,m_,h3,ay,bb,rQ,bC,mA,e1,e2,hb,f_]
   have ij:¬N<N:=by omega
   refine⟨m,by omega,⟨by simp[ax,hW],(hK.trans k2).set (aM N),k+1,cs++[c],by omega,by simp,by simp[h3],by show N<n2;omega,by show T.get _ N=_;rw[T.ag,av rfl,hY],by simp[cN],fun j q' hj uL=>?_⟩⟩
   by_cases pR:j<k
   ·obtain⟨c',g1,g2⟩:=jA j q' pR uL
    exact⟨c',by rw[iM (by omega)];exact g1,(g2.ae k2).aK rQ Fi oL⟩
   ·obtain rfl:j=k:=by omega
    rw[Ic]at uL
    simp only[al]at uL
    subst uL
    exact⟨c,by rw[kY (by omega),cN];simp,hc.aK rQ Fi oL⟩
 ·rintro _ r ⟨H,n1,W⟩ hr ⟨rfl,hW,hK,k,cs,hk,m_,h3,pe,hM,cN,jA⟩
  simp only at hW hK hM pe jA
  obtain rfl:k=l.length:=by omega
  simp[hr,h3,aE,hW,hK]
  have hz:cU zF 0=[]:=by simp[cU]
  obtain⟨f1,_,_⟩:=NC (l:=l) (by omega) (fun j q hj hq=>jA j q (by omega) hq)
  have ky:=zK f1
  rw[hz,wU]at hM
  refine⟨⟨cs,.inr ⟨N,0,some l.length,cs.flatten,_,true,by rw[cN],pe,hM,fun j x hx=>by rw[xg];exact MF f1 hx,by omega,fun k hk=>by simp at hk;omega⟩,cN,fun j q hq=>jA j q (iY hq) hq⟩,fun i hi=>?_⟩
  simp[dh]at hi
  subst hi
  exact⟨_,_,hM⟩
structure TaI (h:T O) (N:Nat) (l:List Rat) (m:Nat) (r:T V) (st:St):Prop where
 w:ax N st.w=[]
 ae:ab h N st.h st.n
 ex:∃(k:Nat),k+m=l.length/\r.get 11=some (.int .i64 k)/\r.get 3=some (.slice N 0 l.length (some l.length) 1)/\N<st.n/\st.h.get N=some (.cells (tx (l.take k)++List.replicate m (V.str [])) 39 true)
def Yh7{k0:Nat}(hs:jz h N v l)(hP:kZ h N)(hl:l.length<1000000000)(hq:∀q∈l,Qb k0 q)(uX:k0<=400000000):Fn A.C 127 [v] h N (fun u h' n'=>Sl h' n' u (tx l)/\∀i∈dh u,∃z w,h'.get i=some (.cells z 39 w)):=by
 intro w
 have hlen:=hs.len
 have c1:(16:Int)*(l.length:Int)<=140737488355328:=by omega
 have c2:(l.length:Int)<4611686018427387904:=by omega
 have kB:ab h N (h.set N (.cells (cU [.str []] l.length) 39 true)) (N+1):=ab.refl.new _
 rw[aR,A.k127 (by simp)]
 simp[A.b127,hlen,c1,c2]
 refine bL [(4,5),(11,21)] (fun e r st=>e=.exit 0/\TaI h N l 0 r st) (TaI h N l) l.length ?_ ?_ ?_
 ·exact⟨by simp,kB,0,by omega,by simp,by simp,by show N<N+1;omega,by rw[T.ag,av rfl,PJ];simp[tx,strs]⟩
 ·rintro m r ⟨H,n1,W⟩ hr hf ⟨hW,hK,k,hk,m_,h3,pe,hM⟩
  simp only at hW hK hM pe
  rw[bl]
  cases m with
  |zero=>
   obtain rfl:k=l.length:=by omega
   simp[A.rP,hr,hf,m_]
   exact⟨hW,hK,l.length,by omega,by simp[m_],by simp[h3],pe,hM⟩
  |succ m=>
   have ay:k<l.length:=by omega
   have bb:(k:Int)<(l.length:Int):=by omega
   obtain⟨q,Ic⟩:=bk ay
   have iU:=hq q (cG Ic)
   obtain⟨i,o,x,e,rw,c,q1,q2,q3,q4,q5⟩:=(hs.ae hK).at Ic
   obtain⟨xM,u1,pG,u2,rfl,s1,s2⟩:=q5
   have o1:=dZ s1
   have o2:=dZ s2
   unfold V.one at o1 o2
   have la:=Mp iU.1
   have R4:=Mp iU.2
   have fx:=hK.le
   have e4:ad [.int .i64 0,.aa,.int .i64 0,.aa] 0 [.int .i64 xM,u1,.int .i64 pG,u2]=[.int .i64 xM,u1,.int .i64 pG,u2]:=rfl
   have e5:aF [.int .i64 xM,u1,.int .i64 pG,u2] 0 4=some [.int .i64 xM,u1,.int .i64 pG,u2]:=rfl
   have kA:ab H n1 ((H.set n1 (.cells [.int .i64 0,.aa,.int .i64 0,.aa] 89 true)).set n1 (.cells [.int .i64 xM,u1,.int .i64 pG,u2] 89 true)) (n1+1):=(ab.refl.new _).set (aM _)
   simp[A.rP,hr,hf,m_,h3,ay,bb,hlen,q1,q3,q4,aO,bC,o1,o2,e4,e5]
   refine aA (Ynn (q:=q) (Fc.ae ⟨xM,u1,pG,u2,rfl,s1,s2⟩ kA) ((hP.ae hK).ae kA) (by omega) (by omega)) ?_
   rintro _ H2 n2 k2 rfl
   have kX:=k2.le
   have rQ:=(k2.get N (by omega)).trans ((kA.get N pe).trans hM)
   have hb:k+1<=(tx (l.take k)++List.replicate (m+1) (V.str [])).length:=by
    rw[iI,kp,List.length_replicate,gD];omega
   have f_:ad (tx (l.take k)++List.replicate (m+1) (V.str [])) k [.str (aS q)]=tx (l.take (k+1))++List.replicate m (V.str []):=by
    have e1:(tx (l.take k)++List.replicate (m+1) (V.str []))=tx (l.take k)++([V.str []]++List.replicate m (V.str [])):=by rw[List.replicate_succ];rfl
    rw[e1,RY (n:=1) (by rw[kp,gD];omega) rfl rfl,uJ,Ic]
    simp[tx,strs]
   generalize tx (l.take k)++List.replicate (m+1) (V.str [])=X at*
   obtain⟨Y,hY⟩:∃Y,tx (l.take (k+1))++List.replicate m (V.str [])=Y:=⟨_,rfl⟩
   rw[hY]at f_
   simp(disch:=first|(simp;done)|omega|(simp only[bA,cA,bo];omega)|rfl) [hr,hf,m_,h3,ay,bb,rQ,bC,hb,f_]
   refine⟨m,by omega,⟨by simp[ax,hW];omega,((hK.trans kA).trans k2).set (aM N),k+1,by omega,by simp,by simp[h3],by show N<n2;omega,by show T.get _ N=_;rw[T.ag,av rfl,hY]⟩⟩
 ·rintro _ r ⟨H,n1,W⟩ hr ⟨rfl,hW,hK,k,hk,m_,h3,pe,hM⟩
  simp only at hW hK hM pe
  obtain rfl:k=l.length:=by omega
  rw[xU]at hM
  simp only[List.replicate_zero,wU]at hM
  simp[hr,h3,aE,hW,hK]
  exact⟨Sl.row pe hM (kp l) (fun k hk=>by simp at hk;omega),fun i hi=>by simp[dh]at hi;subst hi;exact⟨_,.inr hM⟩⟩
variable {N j k:Nat} {b l:List Rat} {h:T O} {m:List (List Rat)} {v:V}
def A.ND:=A.q Tryz.f133
def A.rS:=A.ql A.ND 0 []
def A.b133:=(fun x0=>A.qb A.ND [x0]) A.rS
def A.k133:=@A.kk 133 25 [.tmp 4] A.b133 (by kernel_rfl) rfl
def A.w60:=A.q Tryz.f60
def A.wg:=A.ql A.w60 0 []
def A.b60:=(fun x0=>A.qb A.w60 [x0]) A.wg
def A.k60:=@A.kk 60 23 [.tmp 4] A.b60 (by kernel_rfl) rfl
def jT(a b:List Rat):Nat->Rat
 |0=>0
 |k+1=>jT a b k+a[k]?.getD 0*b[k]?.getD 0
def de(a b:List Rat):Rat:=jT a b a.length
def Qb.zero:Qb 1 0:=⟨by decide,by decide⟩
def yi{l:List Rat}{k:Nat}(h:∀q∈l,Qb k q)(hk:1<=k)(j:Nat):Qb k (l[j]?.getD 0):=by
 cases hj:l[j]? with
 |none=>exact Qb.zero.mono hk
 |some q=>exact h q (cG hj)
def R5{a b:List Rat}{j k:Nat}(ha:∀q∈a,Qb j q)(hb:∀q∈b,Qb k q)(hj:1<=j)(hk:1<=k):∀n,Qb (n*(j+k+1)+1) (jT a b n)
 |0=>by simpa[jT]using Qb.zero
 |n+1=>by
  have h:=(R5 ha hb hj hk n).add ((yi ha hj n).mul (yi hb hk n))
  exact h.mono (by rw[iZ];omega)
def Tx(h:T O)(N:Nat)(v:V)(l:List Rat):Prop:=Sl h N v (tx l)
def Tx.ae{h':T O}{N':Nat}(s:Tx h N v l)(k:ab h N h' N'):Tx h' N' v l:=Sl.ae s k
def Tx.len(s:Tx h N v l):pD v=some l.length:=by
 have:=Sl.len s
 rwa [kp]at this
def Yoj{u:V}{a:List Rat}(hu:Tx h N u a)(hv:Tx h N v b)(gp:a.length<=b.length)(ha:∀q∈a,Qb j q)(hb:∀q∈b,Qb k q)(hj:1<=j)(hk:1<=k)(hl:a.length*(j+k+1)+j+k+1<=400000000):Fn A.C 133 [u,v] h N (fun x _ _=>x=.str (aS (de a b))):=by
 intro w
 have l1:=hu.len
 have l2:=hv.len
 have hal:a.length<=400000000:=by have:=Nat.le_mul_of_pos_right a.length (show 0<j+k+1 by omega);omega
 rw[aR,A.k133 (by simp)]
 simp[A.b133]
 refine bL [(5,23)] (fun e r st=>e=.exit 0/\ax N st.w=[]/\ab h N st.h st.n/\r.get 5=some (.str (aS (de a b)))) (fun m r st=>ax N st.w=[]/\ab h N st.h st.n/\∃t,t+m=a.length/\r.get 6=some (.int .i64 t)/\r.get 5=some (.str (aS (jT a b t)))) a.length ?_ ?_ ?_
 ·exact⟨by simp,ab.refl,0,by omega,by simp,by simp[jT,ZI]⟩
 ·rintro m r ⟨H,n1,W⟩ hr hf ⟨hW,hK,t,ht,h6,h5⟩
  simp only at hW hK
  rw[bl]
  cases m with
  |zero=>
   obtain rfl:t=a.length:=by omega
   simp[A.rS,hr,hf,h6,h5,l1,hW,hK]
   rfl
  |succ m=>
   have ay:t<a.length:=by omega
   have bb:(t:Int)<(a.length:Int):=by omega
   have js:t<b.length:=by omega
   have AS:(t:Int)<(b.length:Int):=by omega
   obtain⟨p,hp⟩:=bk ay
   obtain⟨q,hq⟩:=bk js
   have xW:=ha p (cG hp)
   have iU:=hb q (cG hq)
   have zn:=R5 ha hb hj hk t
   have hmul:t*(j+k+1)<=a.length*(j+k+1):=jB _ (by omega)
   have e1:jT a b (t+1)=jT a b t+p*q:=by simp[jT,hp,hq]
   obtain⟨i,o,cc,e,rw,q1,q2,q3,q4⟩:=(Sl.ae hu hK).at (xV hp)
   obtain⟨i',o',cc',e',pO,p1,p2,p3,p4⟩:=(Sl.ae hv hK).at (xV hq)
   simp[A.rS,hr,hf,h6,h5,l1,l2,ay,bb,js,AS,q1,q2,q3,q4,p1,p2,p3,p4]
   refine aA (Yem xW iU (by omega) (by omega)) ?_
   rintro _ H2 n2 k2 rfl
   simp[]
   refine aA (Yhi zn (xW.mul iU) (by omega) (by omega)) ?_
   rintro _ H3 n3 k3 rfl
   rw[<-e1]
   simp(disch:=first|(simp;done)|omega|rfl) [hr,hf,h6,ct.cv,hW]
   exact⟨m,by omega,(hK.trans k2).trans k3,t+1,by omega,by simp,by simp⟩
 ·rintro _ r ⟨H,n1,W⟩ hr ⟨rfl,hW,hK,h5⟩
  simp only at hW hK
  simp[hr,h5,aE,hW,hK]
def iw(h:T O)(N:Nat)(v:V)(m:List (List Rat)):Prop:=∃us:List V,Sl h N v us/\us.length=m.length/\∀(j:Nat) (l:List Rat),m[j]?=some l->∃u,us[j]?=some u/\Tx h N u l
def iw.ae{h':T O}{N':Nat}(s:iw h N v m)(k:ab h N h' N'):iw h' N' v m:=by
 obtain⟨us,h1,h2,h3⟩:=s
 refine⟨us,h1.ae k,h2,fun j l hl=>?_⟩
 obtain⟨u,g1,g2⟩:=h3 j l hl
 exact⟨u,g1,g2.ae k⟩
def iw.len(s:iw h N v m):pD v=some m.length:=by
 obtain⟨us,h1,h2,_⟩:=s
 rw[h1.len,h2]
def iw.at(s:iw h N v m){j:Nat}{l:List Rat}(hj:m[j]?=some l):∃i o c e rw u,yd v=some (i,o)/\i<N/\h.get i=some (.cells c e rw)/\c[o+j]?=some u/\Tx h N u l:=by
 obtain⟨us,h1,h2,h3⟩:=s
 obtain⟨u,g1,g2⟩:=h3 j l hj
 obtain⟨i,o,c,e,rw,q1,q2,q3,q4⟩:=h1.at g1
 exact⟨i,o,c,e,rw,u,q1,q2,q3,q4,g2⟩
def Qa{u:V}{n:Nat}(hu:iw h N u m)(hv:Tx h N v b)(hm:∀r∈m,r.length=n/\∀q∈r,Qb j q)(hn:n<=b.length)(hb:∀q∈b,Qb k q)(hj:1<=j)(hk:1<=k)(hl:n*(j+k+1)+j+k+1<=400000000)(mw:m.length<100000):Fn A.C 60 [u,v] h N (fun x h' n'=>Own 1 39 N h' n' x ((tx (m.map fun r=>de r b)).map fun y=>[y])):=by
 intro w
 have l1:=hu.len
 rw[aR,A.k60 (by simp)]
 simp[A.b60]
 refine bL [(5,21)] (fun e r st=>e=.exit 0/\ax N st.w=[]/\ab h N st.h st.n/\∃x,r.get 5=some x/\Own 1 39 N st.h st.n x ((tx (m.map fun r=>de r b)).map fun y=>[y])) (fun i r st=>ax N st.w=[]/\ab h N st.h st.n/\∃t x,t+i=m.length/\r.get 6=some (.int .i64 t)/\r.get 5=some x/\Own 1 39 N st.h st.n x ((tx ((m.take t).map fun r=>de r b)).map fun y=>[y])) m.length ?_ ?_ ?_
 ·exact⟨by simp,ab.refl,0,.aa,by omega,by simp,by simp,by simpa[tx,strs]using Own.nil⟩
 ·rintro i r ⟨H,n1,W⟩ hr hf ⟨hW,hK,t,x,ht,h6,h5,ho⟩
  simp only at hW hK ho
  rw[bl]
  cases i with
  |zero=>
   obtain rfl:t=m.length:=by omega
   rw[xU]at ho
   simp[A.wg,hr,hf,h6,h5,l1,hW,hK]
   exact ho
  |succ i=>
   have ay:t<m.length:=by omega
   have bb:(t:Int)<(m.length:Int):=by omega
   obtain⟨row,aq⟩:=bk ay
   obtain⟨a1,a2⟩:=hm row (cG aq)
   obtain⟨i',o,cc,e,rw,ru,q1,q2,q3,q4,q5⟩:=(hu.ae hK).at aq
   simp[A.wg,hr,hf,h6,h5,l1,ay,bb,q1,q2,q3,q4]
   refine aA (Yoj q5 (hv.ae hK) (by omega) a2 hb hj hk (by rw[a1];exact hl)) ?_
   rintro _ H2 n2 k2 rfl
   have kX:=k2.le
   have fx:=hK.le
   have i_:(((tx ((m.take t).map fun r=>de r b)).map fun y=>[y])).length<=100000:=by simp[kp];omega
   obtain⟨v',h',w',f1,f2,f3,_,f5⟩:=tU (x:=[.str (aS (de row b))]) (u:=.slice n2 0 1 (some 1) 1) (bytes:=16) (w:=W) ((ho.ae k2).ae (ab.refl.new (.cells [.str (aS (de row b))] 39 true))) (by omega) (by decide) rfl (by simp[eL,St.row,aF]) (by omega)
   have e7:((tx ((m.take t).map fun r=>de r b)).map fun y=>[y])++[[.str (aS (de row b))]]=(tx ((m.take (t+1)).map fun r=>de r b)).map fun y=>[y]:=by rw[uJ,aq];simp[tx,strs]
   rw[e7]at f5
   simp(disch:=first|(simp;done)|omega|rfl) [hr,hf,h6,h5,ad,f1]
   exact⟨i,by omega,by rw[f2];exact hW,((hK.trans k2).trans (ab.refl.new (.cells [.str (aS (de row b))] 39 true))).then f3,t+1,by omega,by simp,by rw[<-List.map_take];exact f5⟩
 ·rintro _ r ⟨H,n1,W⟩ hr ⟨rfl,hW,hK,x,h5,ho⟩
  simp only at hW hK ho
  simp[hr,h5,aE,hW,hK]
  exact ho
variable {N n:Nat} {h h':T O} {l:List Rat} {m:List (List Rat)} {u v:V} {w:List Nat}
set_option maxHeartbeats 1000000
def A.ZJ:=A.q Tryz.f59
def A.wh:=A.ql A.ZJ 1 []
def A.wi:=(fun x0=>A.ql A.ZJ 0 [x0]) A.wh
def A.b59:=(fun x0=>A.qb A.ZJ [x0]) A.wi
def A.k59:=@A.kk 59 41 [.tmp 2] A.b59 (by kernel_rfl) rfl
def tV(h:T O)(N:Nat)(u:V)(l:List Rat):Prop:=Tx h N u l/\∀i∈dh u,∃z w,h.get i=some (.cells z 39 w)
def PB{l:List V}(s:Sl h N v l):∀i∈dh v,i<N:=fun i hi=>by
 rcases s with⟨_,rfl|rfl⟩|⟨j,o,cp,c,e,rw,rfl,hj,_⟩
 ·simp[dh]at hi
 ·simp[dh]at hi
 ·simp[dh]at hi;omega
def tV.ae{N':Nat}(s:tV h N u l)(k:ab h N h' N'):tV h' N' u l:=⟨s.1.ae k,fun i hi=>by rw[k.get i (PB s.1 i hi)];exact s.2 i hi⟩
def tV.cE{n':Nat}{Y:V->Prop}{e:TypeId}(s:tV h n u l)(k:eE (fun i=>i∈dh v) h n h' n')(hd:nP e Y h v)(he:e≠39):tV h' n' u l:=by
 have hn:∀i∈dh u,i∉dh v:=fun i hi hc=>by
  obtain⟨z,w,hz⟩:=s.2 i hi
  obtain⟨z2,dT,_⟩:=hd i hc
  rw[hz]at dT
  simp at dT
  exact he dT.2.1.symm
 exact⟨Sl.cE s.1 k hn,fun i hi=>by rw[k.get i (PB s.1 i hi) (hn i hi)];exact s.2 i hi⟩
def xZ{N0:Nat}(s:Own 1 39 N0 h N v ((tx l).map fun y=>[y])):tV h N v l:=by
 refine⟨Sn.one.1 s.sn,fun i hi=>?_⟩
 obtain⟨_,⟨_,rfl⟩|⟨j,rfl,_,_,hg⟩⟩:=s
 ·simp[dh]at hi
 ·simp[dh]at hi;subst hi;exact⟨_,_,hg⟩
def ka(N0:Nat)(h:T O)(N:Nat)(v:V)(m:List (List Rat)):Prop:=∃us:List V,Own 1 23 N0 h N v (us.map fun y=>[y])/\(us=[]->v=.aa)/\us.length=m.length/\∀(j:Nat) (l:List Rat),m[j]?=some l->∃u,us[j]?=some u/\tV h N u l
def ka.nil{N0:Nat}:ka N0 h N .aa []:=⟨[],Own.nil,fun _=>rfl,rfl,fun j l hl=>by simp at hl⟩
def ka.ae{N0:Nat}{N':Nat}(s:ka N0 h N v m)(k:ab h N h' N'):ka N0 h' N' v m:=by
 obtain⟨us,h1,h2,h3,h4⟩:=s
 refine⟨us,h1.ae k,h2,h3,fun j l hl=>?_⟩
 obtain⟨u,g1,g2⟩:=h4 j l hl
 exact⟨u,g1,g2.ae k⟩
def ka.yB{N0:Nat}(s:ka N0 h N v m):iw h N v m:=by
 obtain⟨us,h1,h2,h3,h4⟩:=s
 refine⟨us,Sn.one.1 h1.sn,h3,fun j l hl=>?_⟩
 obtain⟨u,g1,g2⟩:=h4 j l hl
 exact⟨u,g1,g2.1⟩
def ka.push{N0:Nat}{x:V}(s:ka N0 h N v m)(hu:tV h N u l)(hN:N0<=N)(hx:eL ⟨h,N,w⟩ 1 x=some (1,[u]))(hm:m.length<100000):
  ∃v' h' w',fY ⟨h,N,w⟩ 1 24 23 v x=some (v',⟨h',N+1,w'⟩)/\ax N0 w'=ax N0 w/\ab h N0 h' (N+1)/\ka N0 h' (N+1) v' (m++[l]):=by
 obtain⟨us,h1,h2,h3,h4⟩:=s
 obtain⟨v',h',w',f1,f2,f3,f4,fD,f5⟩:=DN (Y:=fun _=>True) (x:=[u]) (u:=x) (bytes:=24) (w:=w) h1 (fun h0=>h2 (List.map_eq_nil_iff.1 h0)) (fun _ _ _ _=>trivial) hN (by decide) rfl hx (by rw[dL];omega)
 refine⟨v',h',w',f1,f2,f3,us++[u],by simpa using f5,by simp,by simp[h3],fun j r hr=>?_⟩
 by_cases hj:j<m.length
 ·rw[iM hj]at hr
  obtain⟨u',g1,g2⟩:=h4 j r hr
  exact⟨u',by rw[iM (by omega)];exact g1,g2.cE f4 fD (by simp)⟩
 ·rw[kY (by omega)]at hr
  cases hd:j-m.length with
  |zero=>
   rw[hd]at hr
   simp at hr
   subst hr
   exact⟨u,by rw[kY (by omega),h3,hd];rfl,hu.cE f4 fD (by simp)⟩
  |succ d=>rw[hd]at hr;simp at hr
def R6{N i:Nat}:∀{w:List Nat},i∈w->i<N->i∈ax N w
 |[],h,_=>by simp at h
 |j::w,h,hi=>by
  simp only[ax]
  rcases kW.1 h with rfl|h
  ·rw[av hi]
   unfold uW
   split
   ·rename_i hc;simpa using hc
   ·exact ph
  ·have:=R6 h hi
   split
   ·unfold uW
    split
    ·exact this
    ·exact oU _ this
   ·exact this
def Zyb{n1:Nat}{w':List Nat}(h:ax n1 w'=ax n1 w)(hN:N<=n1)(hw:ax N w=[]):ax N w'=[]:=by
 apply List.eq_nil_iff_forall_not_mem.2
 intro i hi
 obtain⟨h1,h2⟩:=Bc hi
 have h3:=R6 h1 (show i<n1 by omega)
 rw[h]at h3
 have h4:=R6 (Bc h3).1 h2
 rw[hw]at h4
 simp at h4
def DH(h:ax N w=[]):∀i∈w,N<=i:=fun i hi=>by
 apply yX
 intro hc
 have:=R6 hi hc
 rw[h]at this
 simp at this
def Yo0{a b:List Nat}(ha:ax N a=[])(hb:ax N b=[]):ax N (ax n a++b)=[]:=yD fun i hi=>by
 rcases mE.1 hi with hi|hi
 ·exact DH ha i (Bc hi).1
 ·exact DH hb i hi
def kf(m:List (List Rat))(k:Nat):List Rat:=m.map fun r=>r[k]?.getD 0
def eI(m:List (List Rat))(n:Nat):List (List Rat):=(List.range n).map fun k=>kf m k
def Yla{k t:Nat}{r:List Rat}{q:Rat}(h:m[t]?=some r)(hq:r[k]?=some q):kf (m.take (t+1)) k=kf (m.take t) k++[q]:=by
 unfold kf
 rw[uJ,h]
 simp[hq]
def V3(hu:iw h N u m)(hm:∀r∈m,r.length=n)(mw:m.length<1000)(hn:n<1000)(h0:0<m.length):Fn A.C 59 [u] h N (fun x h' n'=>ka N h' n' x (eI m n)):=by
 intro w
 have l1:=hu.len
 obtain⟨r0,iS⟩:=bk h0
 have ZK:=hm r0 (cG iS)
 have iO:(0:Int)<(m.length:Int):=by omega
 rw[aR,A.k59 (by simp)]
 simp[A.b59]
 refine bL [(3,39)] (fun e r st=>e=.exit 0/\ax N st.w=[]/\ab h N st.h st.n/\∃x,r.get 3=some x/\ka N st.h st.n x (eI m n)) (fun i r st=>ax N st.w=[]/\ab h N st.h st.n/\∃k x,k+i=n/\r.get 4=some (.int .i64 k)/\r.get 3=some x/\ka N st.h st.n x (eI m k)) n ?_ ?_ ?_
 ·exact⟨by simp,ab.refl,0,.aa,by omega,by simp,by simp,ka.nil⟩
 ·rintro i r ⟨H,n1,W⟩ hr hf ⟨hW,hK,k,x,hk,h4,h3,ho⟩
  simp only at hW hK ho
  obtain⟨i0,o0,c0,e0,DV,u0,z1,z2,z3,z4,z5⟩:=(hu.ae hK).at iS
  have z6:=z5.len
  rw[ZK]at z6
  rw[kv]at z4
  rw[bl]
  cases i with
  |zero=>
   obtain rfl:k=n:=by omega
   simp[A.wi,hr,hf,h4,h3,l1,h0,iO,z1,z3,z4,z6,hW,hK]
   exact ho
  |succ i=>
   have ay:k<n:=by omega
   have bb:(k:Int)<(n:Int):=by omega
   simp[A.wi,hr,hf,h4,h3,l1,h0,iO,z1,z3,z4,z6,ay,bb]
   refine bL [(5,6),(20,35)] (fun e r1 st=>e=.exit 2/\ax N st.w=[]/\ab H n1 st.h st.n/\∃y,r1.get 5=some y/\tV st.h st.n y (kf m k)) (fun j r1 st=>ax N st.w=[]/\ab H n1 st.h st.n/\∃t y,t+j=m.length/\r1.get 6=some (.int .i64 t)/\r1.get 5=some y/\Own 1 39 n1 st.h st.n y ((tx (kf (m.take t) k)).map fun y=>[y])) m.length ?_ ?_ ?_
   ·exact⟨hW,ab.refl,0,.aa,by omega,by simp,by simp,by simpa[kf,tx,strs]using Own.nil⟩
   ·rintro j r1 ⟨H2,n2,W2⟩ mG xy ⟨eH,ib,t,y,ht,h6,h5,hy⟩
    simp only at eH ib hy
    rw[bl]
    cases j with
    |zero=>
     obtain rfl:t=m.length:=by omega
     rw[xU]at hy
     simp[A.wh,hr,mG,hf,xy,h6,h5,l1,eH,ib]
     exact xZ hy
    |succ j=>
     have dj:t<m.length:=by omega
     have NF:(t:Int)<(m.length:Int):=by omega
     obtain⟨row,aq⟩:=bk dj
     have hrn:=hm row (cG aq)
     obtain⟨q,hq⟩:=bk (l:=row) (k:=k) (by omega)
     obtain⟨i1,o1,c1,e1,rw1,u1,q1,q2,q3,q4,q5⟩:=((hu.ae hK).ae ib).at aq
     have q6:=q5.len
     rw[hrn]at q6
     obtain⟨i3,o3,c3,e3,rw3,p1,p2,p3,p4⟩:=Sl.at q5 (xV hq)
     have fx:=hK.le
     have ZL:=ib.le
     obtain⟨v',h',w',f1,f2,f3,_,f5⟩:=tU (x:=[.str (aS q)]) (u:=.slice n2 0 1 (some 1) 1) (bytes:=16) (w:=W2) (hy.ae (ab.refl.new (.cells [.str (aS q)] 39 true))) (by omega) (by decide) rfl (by simp[eL,St.row,aF]) (by simp[kp,kf];omega)
     have e7:((tx (kf (m.take t) k)).map fun y=>[y])++[[.str (aS q)]]=(tx (kf (m.take (t+1)) k)).map fun y=>[y]:=by rw[Yla aq hq];simp[tx,strs]
     rw[e7]at f5
     simp(disch:=first|(simp;done)|omega|rfl) [A.wh,hr,mG,hf,xy,h4,h6,h5,l1,dj,NF,ay,bb,q1,q2,q3,q4,q6,p1,p2,p3,p4,ad,f1]
     have ow:ax N w'=[]:=Zyb f2 (by omega) eH
     exact⟨j,by omega,ow,(ib.trans (ab.refl.new (.cells [.str (aS q)] 39 true))).then f3,t+1,by omega,by simp,f5⟩
   ·rintro _ r1 ⟨H2,n2,W2⟩ mG ⟨rfl,eH,ib,y,h5,hy⟩
    simp only at eH ib hy
    have fx:=hK.le
    have ZL:=ib.le
    have tQ:=(Sl.form hy.1).one
    have yL:=(Sl.form hy.1).cells
    unfold V.one at tQ
    unfold V.cells at yL
    obtain⟨v',h',w',f1,f2,f3,f4⟩:=((ho.ae ib).ae (ab.refl.new (.cells [y] 23 true))).push (w:=W2) (x:=.slice n2 0 1 (some 1) 1) (hy.ae (ab.refl.new (.cells [y] 23 true))) (by omega) (by simp[eL,St.row,aF]) (by simp[eI];omega)
    have e8:eI m k++[kf m k]=eI m (k+1):=by simp[eI,List.range_succ]
    rw[e8]at f4
    have Ig:=hf.inner (D':=[(5,6),(20,35)]) rfl (by simp) mG
    simp(disch:=first|(simp;done)|omega|rfl) [hr,mG,hf,Ig,h4,h3,h5,tQ,yL,ad,f1]
    exact⟨i,by omega,by rw[f2];exact eH,(((hK.trans ib).trans (ab.refl.new (.cells [y] 23 true)))).then f3,k+1,by omega,by simp,f4⟩
 ·rintro _ r ⟨H,n1,W⟩ hr ⟨rfl,hW,hK,x,h3,ho⟩
  simp only at hW hK ho
  simp[hr,h3,aE,hW,hK]
  exact ho
end
end Go.Mx
