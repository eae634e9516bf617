/-num-/
import Derived.Test.YtlfdeoomaccciaaGreatDoorNdA
set_option linter.all false
namespace Go.Mx
noncomputable section
open Go Go.Proofs
variable {N:Nat} {h:T O} {l:List Rat} {v:V}
set_option maxHeartbeats 1000000
set_option maxRecDepth 1000000
def A.w42:=A.q Tryz.f42
def A.wi:=A.ql A.w42 0 []
def A.b42:=(fun x0=>A.qb A.w42 [x0]) A.wi
def A.k42:=@A.kk 42 23 [.tmp 2] A.b42 (by kernel_rfl) rfl
def A.NB:=A.q Tryz.f153
def A.rN:=A.ql A.NB 0 []
def A.b153:=(fun x0=>A.qb A.NB [x0]) A.rN
def A.k153:=@A.kk 153 23 [.tmp 2] A.b153 (by kernel_rfl) rfl
def fj(h:T O)(N:Nat)(c:List V)(q:Rat):Prop:=∃n1 u1 n2 u2,c=[.int .i64 n1,u1,.int .i64 n2,u2]/\In h N (.agg [.int .i64 n1,u1]) q.num/\In h N (.agg [.int .i64 n2,u2]) (q.den:Int)
def fj.ae{h':T O}{N':Nat}{c:List V}{q:Rat}(s:fj h N c q)(k:ab h N h' N'):fj h' N' c q:=by
 obtain⟨n1,u1,n2,u2,rfl,s1,s2⟩:=s
 exact⟨n1,u1,n2,u2,rfl,s1.ae k,s2.ae k⟩
def fj.fc{c:List V}{q:Rat}(s:fj h N c q):Fc h N (.agg c) q:=by
 obtain⟨n1,u1,n2,u2,rfl,s1,s2⟩:=s
 exact⟨n1,u1,n2,u2,rfl,s1,s2⟩
def Fc.c{x:V}{q:Rat}(s:Fc h N x q):∃c,x=.agg c/\fj h N c q:=by
 obtain⟨n1,u1,n2,u2,rfl,s1,s2⟩:=s
 exact⟨_,rfl,n1,u1,n2,u2,rfl,s1,s2⟩
def uJ(c:List V):Prop:=∀x∈c,∀m,x≠.int .u64 m
def Zxp{n:Int}{u:V}{z:Int}(s:In h N (.agg [.int .i64 n,u]) z):∀m,u≠.int .u64 m:=by
 rcases s with⟨h1,_⟩|⟨i,o,l,c,h1,_⟩
 ·simp at h1;rw[h1.2];simp
 ·simp at h1;rw[h1.2];simp
def fj.Hn{c:List V}{q:Rat}(s:fj h N c q):uJ c:=by
 obtain⟨n1,u1,n2,u2,rfl,s1,s2⟩:=s
 intro x hx m
 simp at hx
 rcases hx with rfl|rfl|rfl|rfl
 ·simp
 ·exact Zxp s1 m
 ·simp
 ·exact Zxp s2 m
def fj.len{c:List V}{q:Rat}(s:fj h N c q):c.length=4/\c.all V.one=true:=by
 obtain⟨n1,u1,n2,u2,rfl,s1,s2⟩:=s
 have o1:=dN s1
 have o2:=dN s2
 exact⟨rfl,by simp only[List.all_cons,List.all_nil,o1,o2,Bool.and_true];rfl⟩
def fj.aI{i:Nat}{c c0 c1:List V}{q:Rat}{e0 e1:TypeId}{w0 w1:Bool}(s:fj h N c q)(g:h.get i=some (.cells c0 e0 w0))(hn:uJ c0)(hc:c1.length=c0.length):fj (h.set i (.cells c1 e1 w1)) N c q:=by
 obtain⟨n1,u1,n2,u2,rfl,s1,s2⟩:=s
 exact⟨n1,u1,n2,u2,rfl,s1.aI g hn hc,s2.aI g hn hc⟩
def lV(h:T O)(N:Nat)(v:V)(l:List Rat):Prop:=∃cs:List (List V),Sn 4 h N v cs/\cs.length=l.length/\∀(j:Nat) (q:Rat),l[j]?=some q->∃c,cs[j]?=some c/\fj h N c q
def lV.ae{h':T O}{N':Nat}(s:lV h N v l)(k:ab h N h' N'):lV h' N' v l:=by
 obtain⟨cs,h1,h2,h3⟩:=s
 refine⟨cs,h1.ae k,h2,fun j q hq=>?_⟩
 obtain⟨c,g1,g2⟩:=h3 j q hq
 exact⟨c,g1,g2.ae k⟩
def lV.len(s:lV h N v l):pw v=some l.length:=by
 obtain⟨cs,h1,h2,_⟩:=s
 rw[h1.len,h2]
def lV.at(s:lV h N v l){j:Nat}{q:Rat}(hj:l[j]?=some q):∃i o x e rw c,w_ v=some (i,o)/\i<N/\h.get i=some (.cells x e rw)/\aD x (o+j*4) 4=some c/\fj h N c q:=by
 obtain⟨cs,h1,h2,h3⟩:=s
 obtain⟨c,h4,h5⟩:=h3 j q hj
 obtain⟨i,o,x,e,rw,q1,q2,q3,q4⟩:=h1.at h4
 exact⟨i,o,x,e,rw,c,q1,q2,q3,q4,h5⟩
def ec(h:T O)(N:Nat)(v:V)(l:List Rat):Prop:=lV h N v l/\∀i∈bZ v,∃z w,h.get i=some (.cells z 80 w)
def tx(l:List Rat):List V:=strs (l.map aR)
def kM(l:List Rat):(tx l).length=l.length:=by simp[tx,strs]
def uV{j:Nat}{q:Rat}(h:l[j]?=some q):(tx l)[j]?=some (.str (aR q)):=by simp[tx,strs,h]
def zF:List V:=[.int .i64 0,.aa,.int .i64 0,.aa]
def Kb{z:List V}{n:Nat}:dp z (n+1)=z++dp z n:=by
 unfold dp
 rw[Nat.succ_mul,Nat.add_comm (n*z.length),List.range_add,List.map_append,List.map_map]
 congr 1
 ·apply oe
  intro j
  by_cases hj:j<z.length
  ·rw[fV,FF hj]
   simp[yk hj,hj]
  ·rw[fl (by simp;omega),fl (by omega)]
 ·apply A6
  intro i _
  simp[Nat.add_mod_left]
def Zs{a b c x:List V}{n o:Nat}(ha:a.length=o)(hb:b.length=n)(hx:x.length=n):ad (a++(b++c)) o x=a++(x++c):=by
 unfold ad
 rw[<-ha,List.take_left,hx,<-List.drop_drop,List.drop_left,<-hb,List.drop_left,tv]
structure FaI (h:T O) (N:Nat) (l:List Rat) (m:Nat) (r:T V) (st:St):Prop where
 w:av N st.w=[]
 ae:ab h N st.h st.n
 ex:∃(k:Nat) (cs:List (List V)),k+m=l.length/\r.get 11=some (.int .i64 k)/\r.get 3=some (.slice N 0 l.length (some l.length) 4)/\N<st.n/\st.h.get N=some (.cells (cs.flatten++dp zF m) 80 true)/\cs.length=k/\∀(j:Nat) (q:Rat),j<k->l[j]?=some q->∃c,cs[j]?=some c/\fj st.h st.n c q
def RL{cs:List (List V)}(hl:cs.length<=l.length)(hc:∀(j:Nat) (q:Rat),j<cs.length->l[j]?=some q->∃c,cs[j]?=some c/\fj h N c q):(∀c∈cs,c.length=4)/\uJ cs.flatten/\cs.flatten.all V.one=true:=by
 have key:∀c∈cs,∃q,fj h N c q:=fun c Az=>by
  obtain⟨j,hj⟩:=xW Az
  have ax:=f_ hj
  obtain⟨q,hq⟩:=bh (l:=l) (k:=j) (by omega)
  obtain⟨c',h1,h2⟩:=hc j q ax hq
  rw[hj]at h1
  simp only[aq]at h1
  subst h1
  exact⟨q,h2⟩
 refine⟨fun c Az=>?_,fun x hx m=>?_,?_⟩
 ·obtain⟨q,hq⟩:=key c Az;exact hq.len.1
 ·obtain⟨c,Az,Dp⟩:=List.mem_flatten.1 hx
  obtain⟨q,hq⟩:=key c Az
  exact hq.Hn x Dp m
 ·rw[l7]
  intro x hx
  obtain⟨c,Az,Dp⟩:=List.mem_flatten.1 hx
  obtain⟨q,hq⟩:=key c Az
  exact l7.1 hq.len.2 x Dp
def Zt:∀{n:Nat},uJ (dp zF n)
 |0=>by intro x hx;simp[dp]at hx
 |n+1=>by
  intro x hx m
  rw[Kb]at hx
  rcases kh.1 hx with hx|hx
  ·simp[zF]at hx
   rcases hx with rfl|rfl|rfl|rfl<;>simp
  ·exact Zt x hx m
def uJ.app{a b:List V}(ha:uJ a)(hb:uJ b):uJ (a++b):=fun x hx m=>by
 rcases kh.1 hx with hx|hx
 ·exact ha x hx m
 ·exact hb x hx m
def Ykc(n:Nat):(dp zF n).length=n*4:=by
 induction n with
 |zero=>simp[dp]
 |succ n ih=>rw[Kb,i_,ih];simp[zF];omega
def Zp8{k0:Nat}(hs:Sl h N v (tx l))(hl:l.length<1000000000)(hq:∀q∈l,Qb k0 q)(qH:k0<=4000):Fn A.C 42 [v] h N (fun u h' n'=>ec h' n' u l):=by
 intro w
 have hlen:=hs.len
 rw[kM]at hlen
 have c1:(64:Int)*(l.length:Int)<=140737488355328:=by omega
 have c2:(l.length:Int)<4611686018427387904:=by omega
 have kB:ab h N (h.set N (.cells (dp zF l.length) 80 true)) (N+1):=ab.refl.new _
 rw[aN,A.k42 (by simp)]
 simp[A.b42,hlen,c1,c2]
 refine bG [(4,5),(11,21)] (fun e r st=>e=.exit 0/\FaI h N l 0 r st) (FaI h N l) l.length ?_ ?_ ?_
 ·exact⟨by simp,kB,0,[],by omega,by simp,by simp,by show N<N+1;omega,by rw[T.ag,ay rfl];rfl,rfl,fun j q hj=>by omega⟩
 ·rintro m r ⟨H,n1,W⟩ hr hf ⟨hW,hK,k,cs,hk,ku,h3,pz,hM,cO,kI⟩
  simp only at hW hK hM pz kI
  rw[bk]
  cases m with
  |zero=>
   obtain rfl:k=l.length:=by omega
   simp[A.wi,hr,hf,ku]
   exact⟨hW,hK,l.length,cs,by omega,by simp[ku],by simp[h3],pz,hM,cO,kI⟩
  |succ m=>
   have ax:k<l.length:=by omega
   have a_:(k:Int)<(l.length:Int):=by omega
   obtain⟨q,Ig⟩:=bh ax
   have gF:=hq q (bU Ig)
   obtain⟨i,o,cc,e,rw,q1,q2,q3,q4⟩:=(hs.ae hK).at (uV Ig)
   have la:=Hi gF.1
   have RM:=EL gF.2
   simp[A.wi,hr,hf,ku,h3,ax,a_,hlen,q1,q3,q4]
   refine aB (UT (q:=q) (by omega) (by omega)) ?_
   rintro _ H2 n2 k2 cU
   obtain⟨c,rfl,hc⟩:=cU.c
   have kK:=k2.le
   have fh:=hK.le
   have rO:=(k2.get N pz).trans hM
   have Ih:∀(j:Nat) (q:Rat),j<cs.length->l[j]?=some q->∃c,cs[j]?=some c/\fj H2 n2 c q:=fun j q hj hq=>by
    obtain⟨c,g1,g2⟩:=kI j q (by omega) hq
    exact⟨c,g1,g2.ae k2⟩
   obtain⟨f1,f2,f3⟩:=RL (l:=l) (by omega) Ih
   have mA:=zj f1
   obtain⟨e1,e2⟩:=hc.len
   have ix:ad (cs.flatten++dp zF (m+1)) (k*4) c=(cs++[c]).flatten++dp zF m:=by
    rw[Kb,Zs (n:=4) (by rw[mA,cO]) rfl e1,RN,tv]
   have hb:k*4+4<=(cs.flatten++dp zF (m+1)).length:=by
    rw[i_,mA,Ykc];omega
   have mI:(V.agg c).cells=c:=rfl
   have NC:uJ (cs.flatten++dp zF (m+1)):=f2.app Zt
   have oV:((cs++[c]).flatten++dp zF m).length=(cs.flatten++dp zF (m+1)).length:=by
    rw[Kb,RN];simp[e1,zF];omega
   generalize cs.flatten++dp zF (m+1)=X at*
   obtain⟨Y,hY⟩:∃Y,(cs++[c]).flatten++dp zF m=Y:=⟨_,rfl⟩
   rw[hY]at ix oV
   simp(disch:=first|(simp;done)|omega|(simp only[bC,cB,bp];omega)|rfl) [-V.cells, -V.one,hr,hf,ku,h3,ax,a_,rO,bD,mI,e1,e2,hb,ix]
   have fH:¬N<N:=by omega
   refine⟨m,by omega,⟨by simp[av,hW],(hK.trans k2).set (aQ N),k+1,cs++[c],by omega,by simp,by simp[h3],by show N<n2;omega,by show T.get _ N=_;rw[T.ag,ay rfl,hY],by simp[cO],fun j q' hj kO=>?_⟩⟩
   by_cases p_:j<k
   ·obtain⟨c',g1,g2⟩:=kI j q' p_ kO
    exact⟨c',by rw[kJ (by omega)];exact g1,(g2.ae k2).aI rO NC oV⟩
   ·obtain rfl:j=k:=by omega
    rw[Ig]at kO
    simp only[aq]at kO
    subst kO
    exact⟨c,by rw[nU (by omega),cO];simp,hc.aI rO NC oV⟩
 ·rintro _ r ⟨H,n1,W⟩ hr ⟨rfl,hW,hK,k,cs,hk,ku,h3,pz,hM,cO,kI⟩
  simp only at hW hK hM pz kI
  obtain rfl:k=l.length:=by omega
  simp[hr,h3,aA,hW,hK]
  have hz:dp zF 0=[]:=by simp[dp]
  obtain⟨f1,_,_⟩:=RL (l:=l) (by omega) (fun j q hj hq=>kI j q (by omega) hq)
  have mA:=zj f1
  rw[hz,zy]at hM
  refine⟨⟨cs,.inr ⟨N,0,some l.length,cs.flatten,_,true,by rw[cO],pz,hM,fun j x hx=>by rw[wX];exact Mt f1 hx,by omega,fun k hk=>by simp at hk;omega⟩,cO,fun j q hq=>kI j q (f_ hq) hq⟩,fun i hi=>?_⟩
  simp[bZ]at hi
  subst hi
  exact⟨_,_,hM⟩
structure TaI (h:T O) (N:Nat) (l:List Rat) (m:Nat) (r:T V) (st:St):Prop where
 w:av N st.w=[]
 ae:ab h N st.h st.n
 ex:∃(k:Nat),k+m=l.length/\r.get 11=some (.int .i64 k)/\r.get 3=some (.slice N 0 l.length (some l.length) 1)/\N<st.n/\st.h.get N=some (.cells (tx (l.take k)++List.replicate m (V.str [])) 24 true)
def Ygo{k0:Nat}(hs:lV h N v l)(hP:l_ h N)(hl:l.length<1000000000)(hq:∀q∈l,Qb k0 q)(qH:k0<=400000000):Fn A.C 153 [v] h N (fun u h' n'=>Sl h' n' u (tx l)/\∀i∈bZ u,∃z w,h'.get i=some (.cells z 24 w)):=by
 intro w
 have hlen:=hs.len
 have c1:(16:Int)*(l.length:Int)<=140737488355328:=by omega
 have c2:(l.length:Int)<4611686018427387904:=by omega
 have kB:ab h N (h.set N (.cells (dp [.str []] l.length) 24 true)) (N+1):=ab.refl.new _
 rw[aN,A.k153 (by simp)]
 simp[A.b153,hlen,c1,c2]
 refine bG [(4,5),(11,21)] (fun e r st=>e=.exit 0/\TaI h N l 0 r st) (TaI h N l) l.length ?_ ?_ ?_
 ·exact⟨by simp,kB,0,by omega,by simp,by simp,by show N<N+1;omega,by rw[T.ag,ay rfl,VN];simp[tx,strs]⟩
 ·rintro m r ⟨H,n1,W⟩ hr hf ⟨hW,hK,k,hk,ku,h3,pz,hM⟩
  simp only at hW hK hM pz
  rw[bk]
  cases m with
  |zero=>
   obtain rfl:k=l.length:=by omega
   simp[A.rN,hr,hf,ku]
   exact⟨hW,hK,l.length,by omega,by simp[ku],by simp[h3],pz,hM⟩
  |succ m=>
   have ax:k<l.length:=by omega
   have a_:(k:Int)<(l.length:Int):=by omega
   obtain⟨q,Ig⟩:=bh ax
   have gF:=hq q (bU Ig)
   obtain⟨i,o,x,e,rw,c,q1,q2,q3,q4,q5⟩:=(hs.ae hK).at Ig
   obtain⟨xL,u1,mH,u2,rfl,s1,s2⟩:=q5
   have o1:=dN s1
   have o2:=dN s2
   unfold V.one at o1 o2
   have la:=Mi gF.1
   have RM:=Mi gF.2
   have fh:=hK.le
   have e4:ad [.int .i64 0,.aa,.int .i64 0,.aa] 0 [.int .i64 xL,u1,.int .i64 mH,u2]=[.int .i64 xL,u1,.int .i64 mH,u2]:=rfl
   have e5:aD [.int .i64 xL,u1,.int .i64 mH,u2] 0 4=some [.int .i64 xL,u1,.int .i64 mH,u2]:=rfl
   have kA:ab H n1 ((H.set n1 (.cells [.int .i64 0,.aa,.int .i64 0,.aa] 80 true)).set n1 (.cells [.int .i64 xL,u1,.int .i64 mH,u2] 80 true)) (n1+1):=(ab.refl.new _).set (aQ _)
   simp[A.rN,hr,hf,ku,h3,ax,a_,hlen,q1,q3,q4,aO,bD,o1,o2,e4,e5]
   refine aB (Yl5 (q:=q) (Fc.ae ⟨xL,u1,mH,u2,rfl,s1,s2⟩ kA) ((hP.ae hK).ae kA) (by omega) (by omega)) ?_
   rintro _ H2 n2 k2 rfl
   have kK:=k2.le
   have rO:=(k2.get N (by omega)).trans ((kA.get N pz).trans hM)
   have hb:k+1<=(tx (l.take k)++List.replicate (m+1) (V.str [])).length:=by
    rw[i_,kM,List.length_replicate,gG];omega
   have ix:ad (tx (l.take k)++List.replicate (m+1) (V.str [])) k [.str (aR q)]=tx (l.take (k+1))++List.replicate m (V.str []):=by
    have e1:(tx (l.take k)++List.replicate (m+1) (V.str []))=tx (l.take k)++([V.str []]++List.replicate m (V.str [])):=by rw[List.replicate_succ];rfl
    rw[e1,Zs (n:=1) (by rw[kM,gG];omega) rfl rfl,uC,Ig]
    simp[tx,strs]
   generalize tx (l.take k)++List.replicate (m+1) (V.str [])=X at*
   obtain⟨Y,hY⟩:∃Y,tx (l.take (k+1))++List.replicate m (V.str [])=Y:=⟨_,rfl⟩
   rw[hY]at ix
   simp(disch:=first|(simp;done)|omega|(simp only[bC,cB,bp];omega)|rfl) [hr,hf,ku,h3,ax,a_,rO,bD,hb,ix]
   refine⟨m,by omega,⟨by simp[av,hW];omega,((hK.trans kA).trans k2).set (aQ N),k+1,by omega,by simp,by simp[h3],by show N<n2;omega,by show T.get _ N=_;rw[T.ag,ay rfl,hY]⟩⟩
 ·rintro _ r ⟨H,n1,W⟩ hr ⟨rfl,hW,hK,k,hk,ku,h3,pz,hM⟩
  simp only at hW hK hM pz
  obtain rfl:k=l.length:=by omega
  rw[xg]at hM
  simp only[List.replicate_zero,zy]at hM
  simp[hr,h3,aA,hW,hK]
  exact⟨Sl.row pz hM (kM l) (fun k hk=>by simp at hk;omega),fun i hi=>by simp[bZ]at hi;subst hi;exact⟨_,.inr hM⟩⟩
variable {N j k:Nat} {b l:List Rat} {h:T O} {m:List (List Rat)} {v:V}
def A.ND:=A.q Tryz.f201
def A.rP:=A.ql A.ND 0 []
def A.b201:=(fun x0=>A.qb A.ND [x0]) A.rP
def A.k201:=@A.kk 201 25 [.tmp 4] A.b201 (by kernel_rfl) rfl
def A.NF:=A.q Tryz.f133
def A.rQ:=A.ql A.NF 0 []
def A.b133:=(fun x0=>A.qb A.NF [x0]) A.rQ
def A.k133:=@A.kk 133 23 [.tmp 4] A.b133 (by kernel_rfl) rfl
def kR(a b:List Rat):Nat->Rat
 |0=>0
 |k+1=>kR a b k+a[k]?.getD 0*b[k]?.getD 0
def mm(a b:List Rat):Rat:=kR a b a.length
def Qb.zero:Qb 1 0:=⟨by decide,by decide⟩
def FM{l:List Rat}{k:Nat}(h:∀q∈l,Qb k q)(hk:1<=k)(j:Nat):Qb k (l[j]?.getD 0):=by
 cases hj:l[j]? with
 |none=>exact Qb.zero.mono hk
 |some q=>exact h q (bU hj)
def RO{a b:List Rat}{j k:Nat}(ha:∀q∈a,Qb j q)(hb:∀q∈b,Qb k q)(hj:1<=j)(hk:1<=k):∀n,Qb (n*(j+k+1)+1) (kR a b n)
 |0=>by simpa[kR]using Qb.zero
 |n+1=>by
  have h:=(RO ha hb hj hk n).add ((FM ha hj n).mul (FM hb hk n))
  exact h.mono (by rw[iU];omega)
def Tx(h:T O)(N:Nat)(v:V)(l:List Rat):Prop:=Sl h N v (tx l)
def Tx.ae{h':T O}{N':Nat}(s:Tx h N v l)(k:ab h N h' N'):Tx h' N' v l:=Sl.ae s k
def Tx.len(s:Tx h N v l):pw v=some l.length:=by
 have:=Sl.len s
 rwa [kM]at this
def Ymz{u:V}{a:List Rat}(hu:Tx h N u a)(hv:Tx h N v b)(fU:a.length<=b.length)(ha:∀q∈a,Qb j q)(hb:∀q∈b,Qb k q)(hj:1<=j)(hk:1<=k)(hl:a.length*(j+k+1)+j+k+1<=400000000):Fn A.C 201 [u,v] h N (fun x _ _=>x=.str (aR (mm a b))):=by
 intro w
 have l1:=hu.len
 have l2:=hv.len
 have hal:a.length<=400000000:=by have:=Nat.le_mul_of_pos_right a.length (show 0<j+k+1 by omega);omega
 rw[aN,A.k201 (by simp)]
 simp[A.b201]
 refine bG [(5,23)] (fun e r st=>e=.exit 0/\av N st.w=[]/\ab h N st.h st.n/\r.get 5=some (.str (aR (mm a b)))) (fun m r st=>av N st.w=[]/\ab h N st.h st.n/\∃t,t+m=a.length/\r.get 6=some (.int .i64 t)/\r.get 5=some (.str (aR (kR a b t)))) a.length ?_ ?_ ?_
 ·exact⟨by simp,ab.refl,0,by omega,by simp,by simp[kR,Zu]⟩
 ·rintro m r ⟨H,n1,W⟩ hr hf ⟨hW,hK,t,ht,h6,h5⟩
  simp only at hW hK
  rw[bk]
  cases m with
  |zero=>
   obtain rfl:t=a.length:=by omega
   simp[A.rP,hr,hf,h6,h5,l1,hW,hK]
   rfl
  |succ m=>
   have ax:t<a.length:=by omega
   have a_:(t:Int)<(a.length:Int):=by omega
   have jz:t<b.length:=by omega
   have AN:(t:Int)<(b.length:Int):=by omega
   obtain⟨p,hp⟩:=bh ax
   obtain⟨q,hq⟩:=bh jz
   have uv:=ha p (bU hp)
   have gF:=hb q (bU hq)
   have zh:=RO ha hb hj hk t
   have hmul:t*(j+k+1)<=a.length*(j+k+1):=mr _ (by omega)
   have e1:kR a b (t+1)=kR a b t+p*q:=by simp[kR,hp,hq]
   obtain⟨i,o,cc,e,rw,q1,q2,q3,q4⟩:=(Sl.ae hu hK).at (uV hp)
   obtain⟨i',o',Zv,e',pn,p1,p2,p3,p4⟩:=(Sl.ae hv hK).at (uV hq)
   simp[A.rP,hr,hf,h6,h5,l1,l2,ax,a_,jz,AN,q1,q2,q3,q4,p1,p2,p3,p4]
   refine aB (Zw uv gF (by omega) (by omega)) ?_
   rintro _ H2 n2 k2 rfl
   simp[]
   refine aB (U6 zh (uv.mul gF) (by omega) (by omega)) ?_
   rintro _ H3 n3 k3 rfl
   rw[<-e1]
   simp(disch:=first|(simp;done)|omega|rfl) [hr,hf,h6,ct.cv,hW]
   exact⟨m,by omega,(hK.trans k2).trans k3,t+1,by omega,by simp,by simp⟩
 ·rintro _ r ⟨H,n1,W⟩ hr ⟨rfl,hW,hK,h5⟩
  simp only at hW hK
  simp[hr,h5,aA,hW,hK]
def gj(h:T O)(N:Nat)(v:V)(m:List (List Rat)):Prop:=∃us:List V,Sl h N v us/\us.length=m.length/\∀(j:Nat) (l:List Rat),m[j]?=some l->∃u,us[j]?=some u/\Tx h N u l
def gj.ae{h':T O}{N':Nat}(s:gj h N v m)(k:ab h N h' N'):gj h' N' v m:=by
 obtain⟨us,h1,h2,h3⟩:=s
 refine⟨us,h1.ae k,h2,fun j l hl=>?_⟩
 obtain⟨u,g1,g2⟩:=h3 j l hl
 exact⟨u,g1,g2.ae k⟩
def gj.len(s:gj h N v m):pw v=some m.length:=by
 obtain⟨us,h1,h2,_⟩:=s
 rw[h1.len,h2]
def gj.at(s:gj h N v m){j:Nat}{l:List Rat}(hj:m[j]?=some l):∃i o c e rw u,w_ v=some (i,o)/\i<N/\h.get i=some (.cells c e rw)/\c[o+j]?=some u/\Tx h N u l:=by
 obtain⟨us,h1,h2,h3⟩:=s
 obtain⟨u,g1,g2⟩:=h3 j l hj
 obtain⟨i,o,c,e,rw,q1,q2,q3,q4⟩:=h1.at g1
 exact⟨i,o,c,e,rw,u,q1,q2,q3,q4,g2⟩
def Ycn{u:V}{n:Nat}(hu:gj h N u m)(hv:Tx h N v b)(hm:∀r∈m,r.length=n/\∀q∈r,Qb j q)(hn:n<=b.length)(hb:∀q∈b,Qb k q)(hj:1<=j)(hk:1<=k)(hl:n*(j+k+1)+j+k+1<=400000000)(kg:m.length<100000):Fn A.C 133 [u,v] h N (fun x h' n'=>Own 1 24 N h' n' x ((tx (m.map fun r=>mm r b)).map fun y=>[y])):=by
 intro w
 have l1:=hu.len
 rw[aN,A.k133 (by simp)]
 simp[A.b133]
 refine bG [(5,21)] (fun e r st=>e=.exit 0/\av N st.w=[]/\ab h N st.h st.n/\∃x,r.get 5=some x/\Own 1 24 N st.h st.n x ((tx (m.map fun r=>mm r b)).map fun y=>[y])) (fun i r st=>av N st.w=[]/\ab h N st.h st.n/\∃t x,t+i=m.length/\r.get 6=some (.int .i64 t)/\r.get 5=some x/\Own 1 24 N st.h st.n x ((tx ((m.take t).map fun r=>mm r b)).map fun y=>[y])) m.length ?_ ?_ ?_
 ·exact⟨by simp,ab.refl,0,.aa,by omega,by simp,by simp,by simpa[tx,strs]using Own.nil⟩
 ·rintro i r ⟨H,n1,W⟩ hr hf ⟨hW,hK,t,x,ht,h6,h5,ho⟩
  simp only at hW hK ho
  rw[bk]
  cases i with
  |zero=>
   obtain rfl:t=m.length:=by omega
   rw[xg]at ho
   simp[A.rQ,hr,hf,h6,h5,l1,hW,hK]
   exact ho
  |succ i=>
   have ax:t<m.length:=by omega
   have a_:(t:Int)<(m.length:Int):=by omega
   obtain⟨row,al⟩:=bh ax
   obtain⟨a1,a2⟩:=hm row (bU al)
   obtain⟨i',o,cc,e,rw,ru,q1,q2,q3,q4,q5⟩:=(hu.ae hK).at al
   simp[A.rQ,hr,hf,h6,h5,l1,ax,a_,q1,q2,q3,q4]
   refine aB (Ymz q5 (hv.ae hK) (by omega) a2 hb hj hk (by rw[a1];exact hl)) ?_
   rintro _ H2 n2 k2 rfl
   have kK:=k2.le
   have fh:=hK.le
   have jj:(((tx ((m.take t).map fun r=>mm r b)).map fun y=>[y])).length<=100000:=by simp[kM];omega
   obtain⟨v',h',w',f1,f2,f3,_,f5⟩:=tP (x:=[.str (aR (mm row b))]) (u:=.slice n2 0 1 (some 1) 1) (bytes:=16) (w:=W) ((ho.ae k2).ae (ab.refl.new (.cells [.str (aR (mm row b))] 24 true))) (by omega) (by decide) rfl (by simp[eA,St.row,aD]) (by omega)
   have e7:((tx ((m.take t).map fun r=>mm r b)).map fun y=>[y])++[[.str (aR (mm row b))]]=(tx ((m.take (t+1)).map fun r=>mm r b)).map fun y=>[y]:=by rw[uC,al];simp[tx,strs]
   rw[e7]at f5
   simp(disch:=first|(simp;done)|omega|rfl) [hr,hf,h6,h5,ad,f1]
   exact⟨i,by omega,by rw[f2];exact hW,((hK.trans k2).trans (ab.refl.new (.cells [.str (aR (mm row b))] 24 true))).then f3,t+1,by omega,by simp,by rw[<-List.map_take];exact f5⟩
 ·rintro _ r ⟨H,n1,W⟩ hr ⟨rfl,hW,hK,x,h5,ho⟩
  simp only at hW hK ho
  simp[hr,h5,aA,hW,hK]
  exact ho
variable {N n:Nat} {h h':T O} {l:List Rat} {m:List (List Rat)} {u v:V} {w:List Nat}
set_option maxHeartbeats 1000000
def A.Zx:=A.q Tryz.f52
def A.wj:=A.ql A.Zx 1 []
def A.wk:=(fun x0=>A.ql A.Zx 0 [x0]) A.wj
def A.b52:=(fun x0=>A.qb A.Zx [x0]) A.wk
def A.k52:=@A.kk 52 41 [.tmp 2] A.b52 (by kernel_rfl) rfl
def A.Zy:=A.q Tryz.f51
def A.wm:=A.ql A.Zy 1 []
def A.wo:=(fun x0=>A.ql A.Zy 0 [x0]) A.wm
def A.b51:=(fun x0=>A.qb A.Zy [x0]) A.wo
def A.k51:=@A.kk 51 41 [.tmp 4] A.b51 (by kernel_rfl) rfl
def tQ(h:T O)(N:Nat)(u:V)(l:List Rat):Prop:=Tx h N u l/\∀i∈bZ u,∃z w,h.get i=some (.cells z 24 w)
def Kx{l:List V}(s:Sl h N v l):∀i∈bZ v,i<N:=fun i hi=>by
 rcases s with⟨_,rfl|rfl⟩|⟨j,o,cp,c,e,rw,rfl,hj,_⟩
 ·simp[bZ]at hi
 ·simp[bZ]at hi
 ·simp[bZ]at hi;omega
def tQ.ae{N':Nat}(s:tQ h N u l)(k:ab h N h' N'):tQ h' N' u l:=⟨s.1.ae k,fun i hi=>by rw[k.get i (Kx s.1 i hi)];exact s.2 i hi⟩
def tQ.bz{n':Nat}{Y:V->Prop}{e:TypeId}(s:tQ h n u l)(k:dG (fun i=>i∈bZ v) h n h' n')(hd:kl e Y h v)(he:e≠24):tQ h' n' u l:=by
 have hn:∀i∈bZ u,i∉bZ v:=fun i hi hc=>by
  obtain⟨z,w,hz⟩:=s.2 i hi
  obtain⟨z2,dL,_⟩:=hd i hc
  rw[hz]at dL
  simp at dL
  exact he dL.2.1.symm
 exact⟨Sl.bz s.1 k hn,fun i hi=>by rw[k.get i (Kx s.1 i hi) (hn i hi)];exact s.2 i hi⟩
def F5{N0:Nat}(s:Own 1 24 N0 h N v ((tx l).map fun y=>[y])):tQ h N v l:=by
 refine⟨Sn.one.1 s.sn,fun i hi=>?_⟩
 obtain⟨_,⟨_,rfl⟩|⟨j,rfl,_,_,hg⟩⟩:=s
 ·simp[bZ]at hi
 ·simp[bZ]at hi;subst hi;exact⟨_,_,hg⟩
def gT(N0:Nat)(h:T O)(N:Nat)(v:V)(m:List (List Rat)):Prop:=∃us:List V,Own 1 23 N0 h N v (us.map fun y=>[y])/\(us=[]->v=.aa)/\us.length=m.length/\∀(j:Nat) (l:List Rat),m[j]?=some l->∃u,us[j]?=some u/\tQ h N u l
def gT.nil{N0:Nat}:gT N0 h N .aa []:=⟨[],Own.nil,fun _=>rfl,rfl,fun j l hl=>by simp at hl⟩
def gT.ae{N0:Nat}{N':Nat}(s:gT N0 h N v m)(k:ab h N h' N'):gT N0 h' N' v m:=by
 obtain⟨us,h1,h2,h3,h4⟩:=s
 refine⟨us,h1.ae k,h2,h3,fun j l hl=>?_⟩
 obtain⟨u,g1,g2⟩:=h4 j l hl
 exact⟨u,g1,g2.ae k⟩
def gT.ya{N0:Nat}(s:gT N0 h N v m):gj h N v m:=by
 obtain⟨us,h1,h2,h3,h4⟩:=s
 refine⟨us,Sn.one.1 h1.sn,h3,fun j l hl=>?_⟩
 obtain⟨u,g1,g2⟩:=h4 j l hl
 exact⟨u,g1,g2.1⟩
def gT.push{N0:Nat}{x:V}(s:gT N0 h N v m)(hu:tQ h N u l)(hN:N0<=N)(hx:eA ⟨h,N,w⟩ 1 x=some (1,[u]))(hm:m.length<100000):
  ∃v' h' w',gJ ⟨h,N,w⟩ 1 24 23 v x=some (v',⟨h',N+1,w'⟩)/\av N0 w'=av N0 w/\ab h N0 h' (N+1)/\gT N0 h' (N+1) v' (m++[l]):=by
 obtain⟨us,h1,h2,h3,h4⟩:=s
 obtain⟨v',h',w',f1,f2,f3,f4,fD,f5⟩:=Cf (Y:=fun _=>True) (x:=[u]) (u:=x) (bytes:=24) (w:=w) h1 (fun h0=>h2 (List.map_eq_nil_iff.1 h0)) (fun _ _ _ _=>trivial) hN (by decide) rfl hx (by rw[je];omega)
 refine⟨v',h',w',f1,f2,f3,us++[u],by simpa using f5,by simp,by simp[h3],fun j r hr=>?_⟩
 by_cases hj:j<m.length
 ·rw[kJ hj]at hr
  obtain⟨u',g1,g2⟩:=h4 j r hr
  exact⟨u',by rw[kJ (by omega)];exact g1,g2.bz f4 fD (by simp)⟩
 ·rw[nU (by omega)]at hr
  cases hd:j-m.length with
  |zero=>
   rw[hd]at hr
   simp at hr
   subst hr
   exact⟨u,by rw[nU (by omega),h3,hd];rfl,hu.bz f4 fD (by simp)⟩
  |succ d=>rw[hd]at hr;simp at hr
def RP{N i:Nat}:∀{w:List Nat},i∈w->i<N->i∈av N w
 |[],h,_=>by simp at h
 |j::w,h,hi=>by
  simp only[av]
  rcases kv.1 h with rfl|h
  ·rw[ay hi]
   unfold vD
   split
   ·rename_i hc;simpa using hc
   ·exact nR
  ·have:=RP h hi
   split
   ·unfold vD
    split
    ·exact this
    ·exact nS _ this
   ·exact this
def Zz{n1:Nat}{w':List Nat}(h:av n1 w'=av n1 w)(hN:N<=n1)(hw:av N w=[]):av N w'=[]:=by
 apply List.eq_nil_iff_forall_not_mem.2
 intro i hi
 obtain⟨h1,h2⟩:=yJ hi
 have h3:=RP h1 (show i<n1 by omega)
 rw[h]at h3
 have h4:=RP (yJ h3).1 h2
 rw[hw]at h4
 simp at h4
def yI(h:av N w=[]):∀i∈w,N<=i:=fun i hi=>by
 apply yY
 intro hc
 have:=RP hi hc
 rw[h]at this
 simp at this
def Ycz{a b:List Nat}(ha:av N a=[])(hb:av N b=[]):av N (av n a++b)=[]:=ui fun i hi=>by
 rcases kh.1 hi with hi|hi
 ·exact yI ha i (yJ hi).1
 ·exact yI hb i hi
def jy(m:List (List Rat))(k:Nat):List Rat:=m.map fun r=>r[k]?.getD 0
def eE(m:List (List Rat))(n:Nat):List (List Rat):=(List.range n).map fun k=>jy m k
def Yjt{k t:Nat}{r:List Rat}{q:Rat}(h:m[t]?=some r)(hq:r[k]?=some q):jy (m.take (t+1)) k=jy (m.take t) k++[q]:=by
 unfold jy
 rw[uC,h]
 simp[hq]
def Zwt(hu:gj h N u m)(hm:∀r∈m,r.length=n)(kg:m.length<1000)(hn:n<1000)(h0:0<m.length):Fn A.C 52 [u] h N (fun x h' n'=>gT N h' n' x (eE m n)):=by
 intro w
 have l1:=hu.len
 obtain⟨r0,ef⟩:=bh h0
 have ZA:=hm r0 (bU ef)
 have jU:(0:Int)<(m.length:Int):=by omega
 rw[aN,A.k52 (by simp)]
 simp[A.b52]
 refine bG [(3,39)] (fun e r st=>e=.exit 0/\av N st.w=[]/\ab h N st.h st.n/\∃x,r.get 3=some x/\gT N st.h st.n x (eE m n)) (fun i r st=>av N st.w=[]/\ab h N st.h st.n/\∃k x,k+i=n/\r.get 4=some (.int .i64 k)/\r.get 3=some x/\gT N st.h st.n x (eE m k)) n ?_ ?_ ?_
 ·exact⟨by simp,ab.refl,0,.aa,by omega,by simp,by simp,gT.nil⟩
 ·rintro i r ⟨H,n1,W⟩ hr hf ⟨hW,hK,k,x,hk,h4,h3,ho⟩
  simp only at hW hK ho
  obtain⟨i0,o0,c0,e0,HH,u0,z1,z2,z3,z4,z5⟩:=(hu.ae hK).at ef
  have z6:=z5.len
  rw[ZA]at z6
  rw[mP]at z4
  rw[bk]
  cases i with
  |zero=>
   obtain rfl:k=n:=by omega
   simp[A.wk,hr,hf,h4,h3,l1,h0,jU,z1,z3,z4,z6,hW,hK]
   exact ho
  |succ i=>
   have ax:k<n:=by omega
   have a_:(k:Int)<(n:Int):=by omega
   simp[A.wk,hr,hf,h4,h3,l1,h0,jU,z1,z3,z4,z6,ax,a_]
   refine bG [(5,6),(20,35)] (fun e r1 st=>e=.exit 2/\av N st.w=[]/\ab H n1 st.h st.n/\∃y,r1.get 5=some y/\tQ st.h st.n y (jy m k)) (fun j r1 st=>av N st.w=[]/\ab H n1 st.h st.n/\∃t y,t+j=m.length/\r1.get 6=some (.int .i64 t)/\r1.get 5=some y/\Own 1 24 n1 st.h st.n y ((tx (jy (m.take t) k)).map fun y=>[y])) m.length ?_ ?_ ?_
   ·exact⟨hW,ab.refl,0,.aa,by omega,by simp,by simp,by simpa[jy,tx,strs]using Own.nil⟩
   ·rintro j r1 ⟨H2,n2,W2⟩ jr tf ⟨dZ,eN,t,y,ht,h6,h5,hy⟩
    simp only at dZ eN hy
    rw[bk]
    cases j with
    |zero=>
     obtain rfl:t=m.length:=by omega
     rw[xg]at hy
     simp[A.wj,hr,jr,hf,tf,h6,h5,l1,dZ,eN]
     exact F5 hy
    |succ j=>
     have cX:t<m.length:=by omega
     have AO:(t:Int)<(m.length:Int):=by omega
     obtain⟨row,al⟩:=bh cX
     have hrn:=hm row (bU al)
     obtain⟨q,hq⟩:=bh (l:=row) (k:=k) (by omega)
     obtain⟨i1,o1,c1,e1,ZB,u1,q1,q2,q3,q4,q5⟩:=((hu.ae hK).ae eN).at al
     have q6:=q5.len
     rw[hrn]at q6
     obtain⟨i3,o3,c3,e3,rw3,p1,p2,p3,p4⟩:=Sl.at q5 (uV hq)
     have fh:=hK.le
     have Ii:=eN.le
     obtain⟨v',h',w',f1,f2,f3,_,f5⟩:=tP (x:=[.str (aR q)]) (u:=.slice n2 0 1 (some 1) 1) (bytes:=16) (w:=W2) (hy.ae (ab.refl.new (.cells [.str (aR q)] 24 true))) (by omega) (by decide) rfl (by simp[eA,St.row,aD]) (by simp[kM,jy];omega)
     have e7:((tx (jy (m.take t) k)).map fun y=>[y])++[[.str (aR q)]]=(tx (jy (m.take (t+1)) k)).map fun y=>[y]:=by rw[Yjt al hq];simp[tx,strs]
     rw[e7]at f5
     simp(disch:=first|(simp;done)|omega|rfl) [A.wj,hr,jr,hf,tf,h4,h6,h5,l1,cX,AO,ax,a_,q1,q2,q3,q4,q6,p1,p2,p3,p4,ad,f1]
     have ow:av N w'=[]:=Zz f2 (by omega) dZ
     exact⟨j,by omega,ow,(eN.trans (ab.refl.new (.cells [.str (aR q)] 24 true))).then f3,t+1,by omega,by simp,f5⟩
   ·rintro _ r1 ⟨H2,n2,W2⟩ jr ⟨rfl,dZ,eN,y,h5,hy⟩
    simp only at dZ eN hy
    have fh:=hK.le
    have Ii:=eN.le
    have qu:=(Sl.form hy.1).one
    have tR:=(Sl.form hy.1).cells
    unfold V.one at qu
    unfold V.cells at tR
    obtain⟨v',h',w',f1,f2,f3,f4⟩:=((ho.ae eN).ae (ab.refl.new (.cells [y] 23 true))).push (w:=W2) (x:=.slice n2 0 1 (some 1) 1) (hy.ae (ab.refl.new (.cells [y] 23 true))) (by omega) (by simp[eA,St.row,aD]) (by simp[eE];omega)
    have e8:eE m k++[jy m k]=eE m (k+1):=by simp[eE,List.range_succ]
    rw[e8]at f4
    have Dq:=hf.inner (D':=[(5,6),(20,35)]) rfl (by simp) jr
    simp(disch:=first|(simp;done)|omega|rfl) [hr,jr,hf,Dq,h4,h3,h5,qu,tR,ad,f1]
    exact⟨i,by omega,by rw[f2];exact dZ,(((hK.trans eN).trans (ab.refl.new (.cells [y] 23 true)))).then f3,k+1,by omega,by simp,f4⟩
 ·rintro _ r ⟨H,n1,W⟩ hr ⟨rfl,hW,hK,x,h3,ho⟩
  simp only at hW hK ho
  simp[hr,h3,aA,hW,hK]
  exact ho
def yH(r w:List Rat):List Rat:=(List.range w.length).map fun k=>r[k]?.getD 0*w[k]?.getD 0
def wN(r w:List Rat)(n:Nat):List Rat:=(List.range n).map fun k=>r[k]?.getD 0*w[k]?.getD 0
def Yf8{r w:List Rat}{t:Nat}{p q:Rat}(hp:r[t]?=some p)(hq:w[t]?=some q):wN r w (t+1)=wN r w t++[p*q]:=by
 simp[wN,List.range_succ,hp,hq]
def Zyx{b:List Rat}{j k:Nat}(hu:gj h N u m)(hv:Tx h N v b)(hm:∀r∈m,r.length=b.length/\∀q∈r,Qb j q)(hb:∀q∈b,Qb k q)(hj:j<=400000000)(hk:k<=400000000)(kg:m.length<1000)(hbl:b.length<1000):Fn A.C 51 [u,v] h N (fun x h' n'=>gT N h' n' x (m.map fun r=>yH r b)):=by
 intro w
 have l1:=hu.len
 have l2:=hv.len
 rw[aN,A.k51 (by simp)]
 simp[A.b51]
 refine bG [(5,39)] (fun e r st=>e=.exit 0/\av N st.w=[]/\ab h N st.h st.n/\∃x,r.get 5=some x/\gT N st.h st.n x (m.map fun r=>yH r b)) (fun i r st=>av N st.w=[]/\ab h N st.h st.n/\∃t x,t+i=m.length/\r.get 6=some (.int .i64 t)/\r.get 5=some x/\gT N st.h st.n x ((m.take t).map fun r=>yH r b)) m.length ?_ ?_ ?_
 ·exact⟨by simp,ab.refl,0,.aa,by omega,by simp,by simp,by simpa using gT.nil⟩
 ·rintro i r ⟨H,n1,W⟩ hr hf ⟨hW,hK,t,x,ht,h6,h5,ho⟩
  simp only at hW hK ho
  rw[bk]
  cases i with
  |zero=>
   obtain rfl:t=m.length:=by omega
   rw[xg]at ho
   simp[A.wo,hr,hf,h6,h5,l1,hW,hK]
   exact ho
  |succ i=>
   have ax:t<m.length:=by omega
   have a_:(t:Int)<(m.length:Int):=by omega
   obtain⟨row,al⟩:=bh ax
   obtain⟨a1,a2⟩:=hm row (bU al)
   simp[A.wo,hr,hf,h6,h5,l1,ax,a_]
   refine bG [(7,8),(15,35)] (fun e r1 st=>e=.exit 2/\av N st.w=[]/\ab H n1 st.h st.n/\∃y,r1.get 7=some y/\tQ st.h st.n y (yH row b)) (fun s r1 st=>av N st.w=[]/\ab H n1 st.h st.n/\∃c y,c+s=b.length/\r1.get 8=some (.int .i64 c)/\r1.get 7=some y/\Own 1 24 n1 st.h st.n y ((tx (wN row b c)).map fun y=>[y])) b.length ?_ ?_ ?_
   ·exact⟨hW,ab.refl,0,.aa,by omega,by simp,by simp,by simpa[wN,tx,strs]using Own.nil⟩
   ·rintro s r1 ⟨H2,n2,W2⟩ jr tf ⟨dZ,eN,c,y,hc,h8,h7,hy⟩
    simp only at dZ eN hy
    rw[bk]
    cases s with
    |zero=>
     obtain rfl:c=b.length:=by omega
     simp[A.wm,hr,jr,hf,tf,h8,h7,l2,dZ,eN]
     exact F5 hy
    |succ s=>
     have cX:c<b.length:=by omega
     have AO:(c:Int)<(b.length:Int):=by omega
     obtain⟨q,hq⟩:=bh cX
     obtain⟨p,hp⟩:=bh (l:=row) (k:=c) (by omega)
     obtain⟨i1,o1,c1,e1,ZB,u1,q1,q2,q3,q4,q5⟩:=((hu.ae hK).ae eN).at al
     have q6:=q5.len
     rw[a1]at q6
     obtain⟨i3,o3,c3,e3,rw3,p1,p2,p3,p4⟩:=Sl.at q5 (uV hp)
     obtain⟨i4,o4,c4,e4,rw4,z1,z2,z3,z4⟩:=Sl.at ((hv.ae hK).ae eN) (uV hq)
     have fh:=hK.le
     have Ii:=eN.le
     simp[A.wm,hr,jr,hf,tf,h6,h7,h8,h5,l1,l2,cX,AO,ax,a_,q1,q2,q3,q4,q6,p1,p2,p3,p4,z1,z2,z3,z4]
     refine aB (Zw (a2 p (bU hp)) (hb q (bU hq)) hj hk) ?_
     rintro _ H3 n3 k3 rfl
     have yM:=k3.le
     obtain⟨v',h',w',f1,f2,f3,_,f5⟩:=tP (x:=[.str (aR (p*q))]) (u:=.slice n3 0 1 (some 1) 1) (bytes:=16) (w:=[]) ((hy.ae k3).ae (ab.refl.new (.cells [.str (aR (p*q))] 24 true))) (by omega) (by decide) rfl (by simp[eA,St.row,aD]) (by simp[kM,wN];omega)
     have e7:((tx (wN row b c)).map fun y=>[y])++[[.str (aR (p*q))]]=(tx (wN row b (c+1))).map fun y=>[y]:=by rw[Yf8 hp hq];simp[tx,strs]
     rw[e7]at f5
     have ow:av N w'=[]:=Zz f2 (by omega) rfl
     have Fj:i1<n2:=q2
     have r3':i3<n2:=p2
     have J6:i4<n2:=z2
     simp(disch:=first|(simp;done)|omega|rfl) [-av,hr,jr,hf,tf,h8,ad,f1]
     exact⟨s,by omega,Ycz ow dZ,((eN.trans k3).trans (ab.refl.new (.cells [.str (aR (p*q))] 24 true))).then f3,c+1,by omega,by simp,f5⟩
   ·rintro _ r1 ⟨H2,n2,W2⟩ jr ⟨rfl,dZ,eN,y,h7,hy⟩
    simp only at dZ eN hy
    have fh:=hK.le
    have Ii:=eN.le
    have qu:=(Sl.form hy.1).one
    have tR:=(Sl.form hy.1).cells
    unfold V.one at qu
    unfold V.cells at tR
    obtain⟨v',h',w',f1,f2,f3,f4⟩:=((ho.ae eN).ae (ab.refl.new (.cells [y] 23 true))).push (w:=W2) (x:=.slice n2 0 1 (some 1) 1) (hy.ae (ab.refl.new (.cells [y] 23 true))) (by omega) (by simp[eA,St.row,aD]) (by simp;omega)
    have e8:(m.take t).map (fun r=>yH r b)++[yH row b]=(m.take (t+1)).map fun r=>yH r b:=by rw[uC,al];simp
    rw[e8]at f4
    have Dq:=hf.inner (D':=[(7,8),(15,35)]) rfl (by simp) jr
    simp(disch:=first|(simp;done)|omega|rfl) [hr,jr,hf,Dq,h6,h7,h5,qu,tR,ad,f1]
    exact⟨i,by omega,by rw[f2];exact dZ,(((hK.trans eN).trans (ab.refl.new (.cells [y] 23 true)))).then f3,t+1,by omega,by simp,by rw[<-List.map_take];exact f4⟩
 ·rintro _ r ⟨H,n1,W⟩ hr ⟨rfl,hW,hK,x,h5,ho⟩
  simp only at hW hK ho
  simp[hr,h5,aA,hW,hK]
  exact ho
end
end Go.Mx
