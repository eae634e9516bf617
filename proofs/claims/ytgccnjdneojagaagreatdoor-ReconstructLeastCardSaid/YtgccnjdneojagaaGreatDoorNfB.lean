/-num-/
import Derived.Test.YtgccnjdneojagaaGreatDoorNdA
set_option linter.all false
namespace Go.Mx
noncomputable section
open Go Go.Proofs
variable {N:Nat} {h:T O} {l:List Rat} {v:V}
set_option maxHeartbeats 1000000
set_option maxRecDepth 1000000
def A.w51:=A.q Tryz.f51
def A.yi:=A.ql A.w51 0 []
def A.b51:=(fun x0=>A.qb A.w51 [x0]) A.yi
def A.k51:=@A.kk 51 23 [.tmp 2] A.b51 (by kernel_rfl) rfl
def A.Q0:=A.q Tryz.f137
def A.tZ:=A.ql A.Q0 0 []
def A.b137:=(fun x0=>A.qb A.Q0 [x0]) A.tZ
def A.k137:=@A.kk 137 23 [.tmp 2] A.b137 (by kernel_rfl) rfl
def fS(h:T O)(N:Nat)(c:List V)(q:Rat):Prop:=∃n1 u1 n2 u2,c=[.int .i64 n1,u1,.int .i64 n2,u2]/\In h N (.agg [.int .i64 n1,u1]) q.num/\In h N (.agg [.int .i64 n2,u2]) (q.den:Int)
def fS.ad{h':T O}{N':Nat}{c:List V}{q:Rat}(s:fS h N c q)(k:ab h N h' N'):fS h' N' c q:=by obtain⟨n1,u1,n2,u2,rfl,s1,s2⟩:=s;exact⟨n1,u1,n2,u2,rfl,s1.ad k,s2.ad k⟩
def fS.fc{c:List V}{q:Rat}(s:fS h N c q):Fc h N (.agg c) q:=by obtain⟨n1,u1,n2,u2,rfl,s1,s2⟩:=s;exact⟨n1,u1,n2,u2,rfl,s1,s2⟩
def Fc.c{x:V}{q:Rat}(s:Fc h N x q):∃c,x=.agg c/\fS h N c q:=by obtain⟨n1,u1,n2,u2,rfl,s1,s2⟩:=s;exact⟨_,rfl,n1,u1,n2,u2,rfl,s1,s2⟩
def uH(c:List V):Prop:=∀x∈c,∀m,x≠.int .u64 m
def Ybc{n:Int}{u:V}{z:Int}(s:In h N (.agg [.int .i64 n,u]) z):∀m,u≠.int .u64 m:=by
 rcases s with⟨h1,_⟩|⟨i,o,l,c,h1,_⟩
 ·simp at h1;rw[h1.2];simp
 simp at h1;rw[h1.2];simp
def fS.Ng{c:List V}{q:Rat}(s:fS h N c q):uH c:=by
 obtain⟨n1,u1,n2,u2,rfl,s1,s2⟩:=s;intro x hx m;simp at hx;rcases hx with rfl|rfl|rfl|rfl
 ·simp
 ·exact Ybc s1 m
 ·simp
 exact Ybc s2 m
def fS.len{c:List V}{q:Rat}(s:fS h N c q):c.length=4/\c.all V.one=true:=by obtain⟨n1,u1,n2,u2,rfl,s1,s2⟩:=s;have o1:=eD s1;have o2:=eD s2;exact⟨rfl,by simp only[List.all_cons,List.all_nil,o1,o2,Bool.and_true];rfl⟩
def fS.aI{i:Nat}{c c0 c1:List V}{q:Rat}{e0 e1:TypeId}{w0 w1:Bool}(s:fS h N c q)(g:h.get i=some (.cells c0 e0 w0))(hn:uH c0)(hc:c1.length=c0.length):fS (h.set i (.cells c1 e1 w1)) N c q:=by obtain⟨n1,u1,n2,u2,rfl,s1,s2⟩:=s;exact⟨n1,u1,n2,u2,rfl,s1.aI g hn hc,s2.aI g hn hc⟩
def jm(h:T O)(N:Nat)(v:V)(l:List Rat):Prop:=∃cs:List (List V),Sn 4 h N v cs/\cs.length=l.length/\∀(j:Nat) (q:Rat),l[j]?=some q->∃c,cs[j]?=some c/\fS h N c q
def jm.ad{h':T O}{N':Nat}(s:jm h N v l)(k:ab h N h' N'):jm h' N' v l:=by obtain⟨cs,h1,h2,h3⟩:=s;refine⟨cs,h1.ad k,h2,fun j q hq=>?_⟩;obtain⟨c,g1,g2⟩:=h3 j q hq;exact⟨c,g1,g2.ad k⟩
def jm.len(s:jm h N v l):qQ v=some l.length:=by obtain⟨cs,h1,h2,_⟩:=s;rw[h1.len,h2]
def jm.at(s:jm h N v l){j:Nat}{q:Rat}(hj:l[j]?=some q):∃i o x e rw c,yJ v=some (i,o)/\i<N/\h.get i=some (.cells x e rw)/\aP x (o+j*4) 4=some c/\fS h N c q:=by obtain⟨cs,h1,h2,h3⟩:=s;obtain⟨c,h4,h5⟩:=h3 j q hj;obtain⟨i,o,x,e,rw,q1,q2,q3,q4⟩:=h1.at h4;exact⟨i,o,x,e,rw,c,q1,q2,q3,q4,h5⟩
def d_(h:T O)(N:Nat)(v:V)(l:List Rat):Prop:=jm h N v l/\∀i∈dm v,∃z w,h.get i=some (.cells z 96 w)
def tx(l:List Rat):List V:=strs (l.map aO)
def FR(l:List Rat):(tx l).length=l.length:=by simp[tx,strs]
def FQ{j:Nat}{q:Rat}(h:l[j]?=some q):(tx l)[j]?=some (.str (aO q)):=by simp[tx,strs,h]
def zF:List V:=[.int .i64 0,.aa,.int .i64 0,.aa]
def HC{z:List V}{n:Nat}:cW z (n+1)=z++cW z n:=by
 unfold cW;rw[Nat.succ_mul,Nat.add_comm (n*z.length),List.range_add,List.map_append,List.map_map];congr 1
 ·apply nN;intro j;by_cases hj:j<z.length
  ·rw[eH,wY hj];simp[z_ hj,hj]
  rw[fy (by simp;omega),fy (by omega)]
 apply Aq;intro i _;simp[Nat.add_mod_left]
def Q1{a b c x:List V}{n o:Nat}(ha:a.length=o)(hb:b.length=n)(hx:x.length=n):ae (a++(b++c)) o x=a++(x++c):=by unfold ae;rw[<-ha,List.take_left,hx,<-List.drop_drop,List.drop_left,<-hb,List.drop_left,uQ]
structure FaI (h:T O) (N:Nat) (l:List Rat) (m:Nat) (r:T V) (st:St):Prop where
 w:ay N st.w=[]
 ad:ab h N st.h st.n
 ex:∃(k:Nat) (cs:List (List V)),k+m=l.length/\r.get 11=some (.int .i64 k)/\r.get 3=some (.slice N 0 l.length (some l.length) 4)/\N<st.n/\st.h.get N=some (.cells (cs.flatten++cW zF m) 96 true)/\cs.length=k/\∀(j:Nat) (q:Rat),j<k->l[j]?=some q->∃c,cs[j]?=some c/\fS st.h st.n c q
def Q2{cs:List (List V)}(hl:cs.length<=l.length)(hc:∀(j:Nat) (q:Rat),j<cs.length->l[j]?=some q->∃c,cs[j]?=some c/\fS h N c q):(∀c∈cs,c.length=4)/\uH cs.flatten/\cs.flatten.all V.one=true:=by
 have key:∀c∈cs,∃q,fS h N c q:=fun c B4=>by obtain⟨j,hj⟩:=pK B4;have aE:=gI hj;obtain⟨q,hq⟩:=bj (l:=l) (k:=j) (by omega);obtain⟨c',h1,h2⟩:=hc j q aE hq;rw[hj]at h1;simp only[au]at h1;subst h1;exact⟨q,h2⟩
 refine⟨fun c B4=>?_,fun x hx m=>?_,?_⟩
 ·obtain⟨q,hq⟩:=key c B4;exact hq.len.1
 ·obtain⟨c,B4,Ky⟩:=List.mem_flatten.1 hx;obtain⟨q,hq⟩:=key c B4;exact hq.Ng x Ky m
 rw[iK];intro x hx;obtain⟨c,B4,Ky⟩:=List.mem_flatten.1 hx;obtain⟨q,hq⟩:=key c B4;exact iK.1 hq.len.2 x Ky
def Q3:∀{n:Nat},uH (cW zF n)
 |0=>by intro x hx;simp[cW]at hx
 |n+1=>by
  intro x hx m
  rw[HC]at hx
  rcases jn.1 hx with hx|hx
  ·simp[zF]at hx
   rcases hx with rfl|rfl|rfl|rfl<;>simp
  ·exact Q3 x hx m
def uH.app{a b:List V}(ha:uH a)(hb:uH b):uH (a++b):=fun x hx m=>by
 rcases jn.1 hx with hx|hx
 ·exact ha x hx m
 ·exact hb x hx m
def Yey(n:Nat):(cW zF n).length=n*4:=by
 induction n with
 |zero=>simp[cW]
 |succ n ih=>rw[HC,iI,ih];simp[zF];omega
def Ek{k0:Nat}(hs:Sl h N v (tx l))(hl:l.length<1000000000)(hq:∀q∈l,Qb k0 q)(oh:k0<=4000):Fn A.C 51 [v] h N (fun u h' n'=>d_ h' n' u l):=by
 intro w;have hlen:=hs.len;rw[FR]at hlen;have c1:(64:Int)*(l.length:Int)<=140737488355328:=by omega
 have c2:(l.length:Int)<4611686018427387904:=by omega
 have kB:ab h N (h.set N (.cells (cW zF l.length) 96 true)) (N+1):=ab.refl.new _;rw[aQ,A.k51 (by simp)];simp[A.b51,hlen,c1,c2];refine b_ [(4,5),(11,21)] (fun e r st=>e=.exit 0/\FaI h N l 0 r st) (FaI h N l) l.length ?_ ?_ ?_
 ·exact⟨by simp,kB,0,[],by omega,by simp,by simp,by show N<N+1;omega,by rw[T.ag,av rfl];rfl,rfl,fun j q hj=>by omega⟩
 ·rintro m r ⟨H,n1,W⟩ hr hf ⟨hW,hK,k,cs,hk,mR,h3,ra,hM,cM,jX⟩;simp only at hW hK hM ra jX;rw[bu];cases m with
  |zero=>
   obtain rfl:k=l.length:=by omega
   simp[A.yi,hr,hf,mR];exact⟨hW,hK,l.length,cs,by omega,by simp[mR],by simp[h3],ra,hM,cM,jX⟩
  |succ m=>
   have aE:k<l.length:=by omega
   have bG:(k:Int)<(l.length:Int):=by omega
   obtain⟨q,Kz⟩:=bj aE;have mG:=hq q (cy Kz);obtain⟨i,o,cc,e,rw,q1,q2,q3,q4⟩:=(hs.ad hK).at (FQ Kz);have la:=K7 mG.1;have Q4:=HY mG.2;simp[A.yi,hr,mR,bG,hlen,q1,q3,q4];refine ar (Yiw (q:=q) (by omega) (by omega)) ?_;rintro _ H2 n2 k2 ef;obtain⟨c,rfl,hc⟩:=ef.c;have kR:=k2.le;have ij:=hK.le;have t_:=(k2.get N ra).trans hM;have KC:∀(j:Nat) (q:Rat),j<cs.length->l[j]?=some q->∃c,cs[j]?=some c/\fS H2 n2 c q:=fun j q hj hq=>by obtain⟨c,g1,g2⟩:=jX j q (by omega) hq;exact⟨c,g1,g2.ad k2⟩
   obtain⟨f1,f2,f3⟩:=Q2 (l:=l) (by omega) KC;have jr:=yN f1;obtain⟨e1,e2⟩:=hc.len;have gZ:ae (cs.flatten++cW zF (m+1)) (k*4) c=(cs++[c]).flatten++cW zF m:=by rw[HC,Q1 (n:=4) (by rw[jr,cM]) rfl e1,MQ,uQ]
   have hb:k*4+4<=(cs.flatten++cW zF (m+1)).length:=by rw[iI,jr,Yey];omega
   have kJ:(V.agg c).cells=c:=rfl;have Ct:uH (cs.flatten++cW zF (m+1)):=f2.app Q3;have qp:((cs++[c]).flatten++cW zF m).length=(cs.flatten++cW zF (m+1)).length:=by rw[HC,MQ];simp[e1,zF];omega
   generalize cs.flatten++cW zF (m+1)=X at*;obtain⟨Y,hY⟩:∃Y,(cs++[c]).flatten++cW zF m=Y:=⟨_,rfl⟩;rw[hY]at gZ qp;simp(disch:=first|(simp;done)|omega|(simp only[bz,cm,bl];omega)|rfl) [-V.cells, -V.one,hr,hf,mR,h3,aE,bG,t_,bO,kJ,e1,e2,hb,gZ];have jV:¬N<N:=by omega
   refine⟨m,by omega,⟨by simp[ay,hW],(hK.trans k2).set (aM N),k+1,cs++[c],by omega,by simp,by simp[h3],by show N<n2;omega,by show T.get _ N=_;rw[T.ag,av rfl,hY],by simp[cM],fun j q' hj zH=>?_⟩⟩;by_cases rL:j<k
   ·obtain⟨c',g1,g2⟩:=jX j q' rL zH;exact⟨c',by rw[mH (by omega)];exact g1,(g2.ad k2).aI t_ Ct qp⟩
   obtain rfl:j=k:=by omega
   rw[Kz]at zH;simp only[au]at zH;subst zH;exact⟨c,by rw[qI (by omega),cM];simp,hc.aI t_ Ct qp⟩
 rintro _ r ⟨H,n1,W⟩ hr ⟨rfl,hW,hK,k,cs,hk,mR,h3,ra,hM,cM,jX⟩;simp only at hW hK hM ra jX;obtain rfl:k=l.length:=by omega
 simp[hr,az,hW,hK];have hz:cW zF 0=[]:=by simp[cW]
 obtain⟨f1,_,_⟩:=Q2 (l:=l) (by omega) (fun j q hj hq=>jX j q (by omega) hq);have jr:=yN f1;rw[hz,zQ]at hM;refine⟨⟨cs,.inr ⟨N,0,some l.length,cs.flatten,_,true,by rw[cM],ra,hM,fun j x hx=>by rw[yR];exact PU f1 hx,by omega,fun k hk=>by simp at hk;omega⟩,cM,fun j q hq=>jX j q (gI hq) hq⟩,fun i hi=>?_⟩;simp[dm]at hi;subst hi;exact⟨_,_,hM⟩
structure TaI (h:T O) (N:Nat) (l:List Rat) (m:Nat) (r:T V) (st:St):Prop where
 w:ay N st.w=[]
 ad:ab h N st.h st.n
 ex:∃(k:Nat),k+m=l.length/\r.get 11=some (.int .i64 k)/\r.get 3=some (.slice N 0 l.length (some l.length) 1)/\N<st.n/\st.h.get N=some (.cells (tx (l.take k)++List.replicate m (V.str [])) 40 true)
def Yk7{k0:Nat}(hs:jm h N v l)(hP:iG h N)(hl:l.length<1000000000)(hq:∀q∈l,Qb k0 q)(oh:k0<=400000000):Fn A.C 137 [v] h N (fun u h' n'=>Sl h' n' u (tx l)/\∀i∈dm u,∃z w,h'.get i=some (.cells z 40 w)):=by
 intro w;have hlen:=hs.len;have c1:(16:Int)*(l.length:Int)<=140737488355328:=by omega
 have c2:(l.length:Int)<4611686018427387904:=by omega
 have kB:ab h N (h.set N (.cells (cW [.str []] l.length) 40 true)) (N+1):=ab.refl.new _;rw[aQ,A.k137 (by simp)];simp[A.b137,hlen,c1,c2];refine b_ [(4,5),(11,21)] (fun e r st=>e=.exit 0/\TaI h N l 0 r st) (TaI h N l) l.length ?_ ?_ ?_
 ·exact⟨by simp,kB,0,by omega,by simp,by simp,by show N<N+1;omega,by rw[T.ag,av rfl,Yev];simp[tx,strs]⟩
 ·rintro m r ⟨H,n1,W⟩ hr hf ⟨hW,hK,k,hk,mR,h3,ra,hM⟩;simp only at hW hK hM ra;rw[bu];cases m with
  |zero=>
   obtain rfl:k=l.length:=by omega
   simp[A.tZ,hr,hf,mR];exact⟨hW,hK,l.length,by omega,by simp[mR],by simp[h3],ra,hM⟩
  |succ m=>
   have aE:k<l.length:=by omega
   have bG:(k:Int)<(l.length:Int):=by omega
   obtain⟨q,Kz⟩:=bj aE;have mG:=hq q (cy Kz);obtain⟨i,o,x,e,rw,c,q1,q2,q3,q4,q5⟩:=(hs.ad hK).at Kz;obtain⟨oF,u1,nW,u2,rfl,s1,s2⟩:=q5;have o1:=eD s1;have o2:=eD s2;unfold V.one at o1 o2;have la:=IE mG.1;have Q4:=IE mG.2;have ij:=hK.le;have e4:ae [.int .i64 0,.aa,.int .i64 0,.aa] 0 [.int .i64 oF,u1,.int .i64 nW,u2]=[.int .i64 oF,u1,.int .i64 nW,u2]:=rfl;have e5:aP [.int .i64 oF,u1,.int .i64 nW,u2] 0 4=some [.int .i64 oF,u1,.int .i64 nW,u2]:=rfl;have kA:ab H n1 ((H.set n1 (.cells [.int .i64 0,.aa,.int .i64 0,.aa] 96 true)).set n1 (.cells [.int .i64 oF,u1,.int .i64 nW,u2] 96 true)) (n1+1):=(ab.refl.new _).set (aM _);simp[A.tZ,hr,mR,bG,hlen,q1,q3,q4,aS,bO,o1,o2,e4,e5];refine ar (Yfg (q:=q) (Fc.ad ⟨oF,u1,nW,u2,rfl,s1,s2⟩ kA) ((hP.ad hK).ad kA) (by omega) (by omega)) ?_;rintro _ H2 n2 k2 rfl;have kR:=k2.le;have t_:=(k2.get N (by omega)).trans ((kA.get N ra).trans hM);have hb:k+1<=(tx (l.take k)++List.replicate (m+1) (V.str [])).length:=by rw[iI,FR,List.length_replicate,ik];omega
   have gZ:ae (tx (l.take k)++List.replicate (m+1) (V.str [])) k [.str (aO q)]=tx (l.take (k+1))++List.replicate m (V.str []):=by
    have e1:(tx (l.take k)++List.replicate (m+1) (V.str []))=tx (l.take k)++([V.str []]++List.replicate m (V.str [])):=by rw[List.replicate_succ];rfl
    rw[e1,Q1 (n:=1) (by rw[FR,ik];omega) rfl rfl,C1,Kz];simp[tx,strs]
   generalize tx (l.take k)++List.replicate (m+1) (V.str [])=X at*;obtain⟨Y,hY⟩:∃Y,tx (l.take (k+1))++List.replicate m (V.str [])=Y:=⟨_,rfl⟩;rw[hY]at gZ;simp(disch:=first|(simp;done)|omega|(simp only[bz,cm,bl];omega)|rfl) [hr,hf,mR,h3,aE,bG,t_,bO,hb,gZ];refine⟨m,by omega,⟨by simp[ay,hW];omega,((hK.trans kA).trans k2).set (aM N),k+1,by omega,by simp,by simp[h3],by show N<n2;omega,by show T.get _ N=_;rw[T.ag,av rfl,hY]⟩⟩
 rintro _ r ⟨H,n1,W⟩ hr ⟨rfl,hW,hK,k,hk,mR,h3,ra,hM⟩;simp only at hW hK hM ra;obtain rfl:k=l.length:=by omega
 rw[Dj]at hM;simp only[List.replicate_zero,zQ]at hM;simp[hr,az,hW,hK];exact⟨Sl.row ra hM (FR l) (fun k hk=>by simp at hk;omega),fun i hi=>by simp[dm]at hi;subst hi;exact⟨_,.inr hM⟩⟩
variable {N k:Nat} {h:T O} {l:List Rat} {m:List (List Rat)} {v:V}
def A.w19:=A.q Tryz.f19
def A.yk:=A.ql A.w19 0 []
def A.b19:=(fun x0=>A.qb A.w19 [x0]) A.yk
def A.k19:=@A.kk 19 25 [.tmp 4] A.b19 (by kernel_rfl) rfl
def kY(a b:List Rat):Nat->Rat
 |0=>0
 |k+1=>kY a b k+a[k]?.getD 0*b[k]?.getD 0
def dh(a b:List Rat):Rat:=kY a b a.length
def Qb.zero:Qb 1 0:=⟨by decide,by decide⟩
def mS{l:List Rat}{k:Nat}(h:∀q∈l,Qb k q)(hk:1<=k)(j:Nat):Qb k (l[j]?.getD 0):=by
 cases hj:l[j]? with
 |none=>exact Qb.zero.mono hk
 |some q=>exact h q (cy hj)
def VC{a b:List Rat}{j k:Nat}(ha:∀q∈a,Qb j q)(hb:∀q∈b,Qb k q)(hj:1<=j)(hk:1<=k):∀n,Qb (n*(j+k+1)+1) (kY a b n)
 |0=>by simpa[kY]using Qb.zero
 |n+1=>by
  have h:=(VC ha hb hj hk n).add ((mS ha hj n).mul (mS hb hk n))
  exact h.mono (by rw[js];omega)
def Tx(h:T O)(N:Nat)(v:V)(l:List Rat):Prop:=Sl h N v (tx l)
def Tx.ad{h':T O}{N':Nat}(s:Tx h N v l)(k:ab h N h' N'):Tx h' N' v l:=Sl.ad s k
def Tx.len(s:Tx h N v l):qQ v=some l.length:=by have:=Sl.len s;rwa [FR]at this
def Tj{u:V}{a b:List Rat}{j:Nat}(hu:Tx h N u a)(hv:Tx h N v b)(f_:a.length<=b.length)(ha:∀q∈a,Qb j q)(hb:∀q∈b,Qb k q)(hj:1<=j)(hk:1<=k)(hl:a.length*(j+k+1)+j+k+1<=400000000):Fn A.C 19 [u,v] h N (fun x _ _=>x=.str (aO (dh a b))):=by
 intro w;have l1:=hu.len;have l2:=hv.len;have hal:a.length<=400000000:=by have:=Nat.le_mul_of_pos_right a.length (show 0<j+k+1 by omega);omega
 rw[aQ,A.k19 (by simp)];simp[A.b19];refine b_ [(5,23)] (fun e r st=>e=.exit 0/\ay N st.w=[]/\ab h N st.h st.n/\r.get 5=some (.str (aO (dh a b)))) (fun m r st=>ay N st.w=[]/\ab h N st.h st.n/\∃t,t+m=a.length/\r.get 6=some (.int .i64 t)/\r.get 5=some (.str (aO (kY a b t)))) a.length ?_ ?_ ?_
 ·exact⟨by simp,ab.refl,0,by omega,by simp,by simp[kY,Iw]⟩
 ·rintro m r ⟨H,n1,W⟩ hr hf ⟨hW,hK,t,ht,h6,h5⟩;simp only at hW hK;rw[bu];cases m with
  |zero=>
   obtain rfl:t=a.length:=by omega
   simp[A.yk,hr,hf,h6,h5,l1,hW,hK];rfl
  |succ m=>
   have aE:t<a.length:=by omega
   have bG:(t:Int)<(a.length:Int):=by omega
   have nk:t<b.length:=by omega
   have Cu:(t:Int)<(b.length:Int):=by omega
   obtain⟨p,hp⟩:=bj aE;obtain⟨q,hq⟩:=bj nk;have zE:=ha p (cy hp);have mG:=hb q (cy hq);have AS:=VC ha hb hj hk t;have hmul:t*(j+k+1)<=a.length*(j+k+1):=jz _ (by omega);have e1:kY a b (t+1)=kY a b t+p*q:=by simp[kY,hp,hq]
   obtain⟨i,o,cc,e,rw,q1,q2,q3,q4⟩:=(Sl.ad hu hK).at (FQ hp);obtain⟨i',o',Ok,e',rj,p1,p2,p3,p4⟩:=(Sl.ad hv hK).at (FQ hq);simp[A.yk,hr,h6,h5,l1,l2,bG,Cu,q1,q2,q3,q4,p1,p2,p3,p4];refine ar (ZC zE mG (by omega) (by omega)) ?_;rintro _ H2 n2 k2 rfl;simp[];refine ar (SM AS (zE.mul mG) (by omega) (by omega)) ?_;rintro _ H3 n3 k3 rfl;rw[<-e1];simp(disch:=first|(simp;done)|omega|rfl) [hf,h6,hW];exact⟨m,by omega,(hK.trans k2).trans k3,t+1,by omega,by simp,by simp⟩
 rintro _ r ⟨H,n1,W⟩ hr ⟨rfl,hW,hK,h5⟩;simp only at hW hK;simp[h5,az,hW,hK]
def oa(h:T O)(N:Nat)(v:V)(m:List (List Rat)):Prop:=∃us:List V,Sl h N v us/\us.length=m.length/\∀(j:Nat) (l:List Rat),m[j]?=some l->∃u,us[j]?=some u/\Tx h N u l
def oa.ad{h':T O}{N':Nat}(s:oa h N v m)(k:ab h N h' N'):oa h' N' v m:=by obtain⟨us,h1,h2,h3⟩:=s;refine⟨us,h1.ad k,h2,fun j l hl=>?_⟩;obtain⟨u,g1,g2⟩:=h3 j l hl;exact⟨u,g1,g2.ad k⟩
def oa.len(s:oa h N v m):qQ v=some m.length:=by obtain⟨us,h1,h2,_⟩:=s;rw[h1.len,h2]
def oa.at(s:oa h N v m){j:Nat}{l:List Rat}(hj:m[j]?=some l):∃i o c e rw u,yJ v=some (i,o)/\i<N/\h.get i=some (.cells c e rw)/\c[o+j]?=some u/\Tx h N u l:=by obtain⟨us,h1,h2,h3⟩:=s;obtain⟨u,g1,g2⟩:=h3 j l hj;obtain⟨i,o,c,e,rw,q1,q2,q3,q4⟩:=h1.at g1;exact⟨i,o,c,e,rw,u,q1,q2,q3,q4,g2⟩
variable {N:Nat} {h h':T O} {l:List Rat} {m:List (List Rat)} {u v:V} {w:List Nat}
def AX(h:T O)(N:Nat)(u:V)(l:List Rat):Prop:=Tx h N u l/\∀i∈dm u,∃z w,h.get i=some (.cells z 40 w)
def Ygb{l:List V}(s:Sl h N v l):∀i∈dm v,i<N:=fun i hi=>by
 rcases s with⟨_,rfl|rfl⟩|⟨j,o,cp,c,e,rw,rfl,hj,_⟩
 ·simp[dm]at hi
 ·simp[dm]at hi
 ·simp[dm]at hi;omega
def AX.ad{N':Nat}(s:AX h N u l)(k:ab h N h' N'):AX h' N' u l:=⟨s.1.ad k,fun i hi=>by rw[k.get i (Ygb s.1 i hi)];exact s.2 i hi⟩
def AX.cf{n n':Nat}{Y:V->Prop}{e:TypeId}(s:AX h n u l)(k:dR (fun i=>i∈dm v) h n h' n')(hd:n_ e Y h v)(he:e≠40):AX h' n' u l:=by
 have hn:∀i∈dm u,i∉dm v:=fun i hi hc=>by obtain⟨z,w,hz⟩:=s.2 i hi;obtain⟨z2,eQ,_⟩:=hd i hc;rw[hz]at eQ;simp at eQ;exact he eQ.2.1.symm
 exact⟨Sl.cf s.1 k hn,fun i hi=>by rw[k.get i (Ygb s.1 i hi) (hn i hi)];exact s.2 i hi⟩
def Yw8{N0:Nat}(s:Own 1 40 N0 h N v ((tx l).map fun y=>[y])):AX h N v l:=by
 refine⟨Sn.one.1 s.sn,fun i hi=>?_⟩;obtain⟨_,⟨_,rfl⟩|⟨j,rfl,_,_,hg⟩⟩:=s
 ·simp[dm]at hi
 simp[dm]at hi;subst hi;exact⟨_,_,hg⟩
def zz(N0:Nat)(h:T O)(N:Nat)(v:V)(m:List (List Rat)):Prop:=∃us:List V,Own 1 23 N0 h N v (us.map fun y=>[y])/\(us=[]->v=.aa)/\us.length=m.length/\∀(j:Nat) (l:List Rat),m[j]?=some l->∃u,us[j]?=some u/\AX h N u l
def zz.nil{N0:Nat}:zz N0 h N .aa []:=⟨[],Own.nil,fun _=>rfl,rfl,fun j l hl=>by simp at hl⟩
def zz.ad{N0:Nat}{N':Nat}(s:zz N0 h N v m)(k:ab h N h' N'):zz N0 h' N' v m:=by obtain⟨us,h1,h2,h3,h4⟩:=s;refine⟨us,h1.ad k,h2,h3,fun j l hl=>?_⟩;obtain⟨u,g1,g2⟩:=h4 j l hl;exact⟨u,g1,g2.ad k⟩
def zz.VD{N0:Nat}(s:zz N0 h N v m):oa h N v m:=by obtain⟨us,h1,h2,h3,h4⟩:=s;refine⟨us,Sn.one.1 h1.sn,h3,fun j l hl=>?_⟩;obtain⟨u,g1,g2⟩:=h4 j l hl;exact⟨u,g1,g2.1⟩
def zz.push{N0:Nat}{x:V}(s:zz N0 h N v m)(hu:AX h N u l)(hN:N0<=N)(hx:fQ ⟨h,N,w⟩ 1 x=some (1,[u]))(hm:m.length<100000):
  ∃v' h' w',oc ⟨h,N,w⟩ 1 24 23 v x=some (v',⟨h',N+1,w'⟩)/\ay N0 w'=ay N0 w/\ab h N0 h' (N+1)/\zz N0 h' (N+1) v' (m++[l]):=by
 obtain⟨us,h1,h2,h3,h4⟩:=s;obtain⟨v',h',w',f1,f2,f3,f4,fD,f5⟩:=FT (Y:=fun _=>True) (x:=[u]) (u:=x) (bytes:=24) (w:=w) h1 (fun h0=>h2 (List.map_eq_nil_iff.1 h0)) (fun _ _ _ _=>trivial) hN (by decide) rfl hx (by rw[di];omega);refine⟨v',h',w',f1,f2,f3,us++[u],by simpa using f5,by simp,by simp[h3],fun j r hr=>?_⟩;by_cases hj:j<m.length
 ·rw[mH hj]at hr;obtain⟨u',g1,g2⟩:=h4 j r hr;exact⟨u',by rw[mH (by omega)];exact g1,g2.cf f4 fD (by simp)⟩
 rw[qI (by omega)]at hr;cases hd:j-m.length with
 |zero=> rw[hd]at hr;simp at hr;subst hr;exact⟨u,by rw[qI (by omega),h3,hd];rfl,hu.cf f4 fD (by simp)⟩
 |succ d=>rw[hd]at hr;simp at hr
def VE{N i:Nat}:∀{w:List Nat},i∈w->i<N->i∈ay N w
 |[],h,_=>by simp at h
 |j::w,h,hi=>by
  simp only[ay]
  rcases ky.1 h with rfl|h
  ·rw[av hi]
   unfold Ac
   split
   ·rename_i hc;simpa using hc
   ·exact rI
  ·have:=VE h hi
   split
   ·unfold Ac
    split
    ·exact this
    ·exact ri _ this
   ·exact this
def Ymi{n1:Nat}{w':List Nat}(h:ay n1 w'=ay n1 w)(hN:N<=n1)(hw:ay N w=[]):ay N w'=[]:=by apply List.eq_nil_iff_forall_not_mem.2;intro i hi;obtain⟨h1,h2⟩:=CV hi;have h3:=VE h1 (show i<n1 by omega);rw[h]at h3;have h4:=VE (CV h3).1 h2;rw[hw]at h4;simp at h4
def CN(h:ay N w=[]):∀i∈w,N<=i:=fun i hi=>by
 apply AG
 intro hc
 have:=VE hi hc
 rw[h]at this
 simp at this
def Ysx{n:Nat}{a b:List Nat}(ha:ay N a=[])(hb:ay N b=[]):ay N (ay n a++b)=[]:=HX fun i hi=>by
 rcases jn.1 hi with hi|hi
 ·exact CN ha i (CV hi).1
 ·exact CN hb i hi
def kX(m:List (List Rat))(k:Nat):List Rat:=m.map fun r=>r[k]?.getD 0
def dt(m:List (List Rat))(n:Nat):List (List Rat):=(List.range n).map fun k=>kX m k
def CU(r w:List Rat):List Rat:=(List.range w.length).map fun k=>r[k]?.getD 0*w[k]?.getD 0
def zP(r w:List Rat)(n:Nat):List Rat:=(List.range n).map fun k=>r[k]?.getD 0*w[k]?.getD 0
variable {N n:Nat} {h:T O} {m:List (List aG)} {v:V} {w:List Nat}
def A.w27:=A.q Tryz.f27
def A.ks:=A.ql A.w27 0 []
def A.b27:=(fun x0=>A.qb A.w27 [x0]) A.ks
def A.k27:=@A.kk 27 32 [.tmp 4] A.b27 (by kernel_rfl) rfl
def A.w25:=A.q Tryz.f25
def A.ku:=A.ql A.w25 0 []
def A.b25:=(fun x0=>A.qb A.w25 [x0]) A.ku
def A.k25:=@A.kk 25 35 [.tmp 6] A.b25 (by kernel_rfl) rfl
def A.w22:=A.q Tryz.f22
def A.yl:=A.ql A.w22 0 []
def A.b22:=(fun x0=>A.qb A.w22 [x0]) A.yl
def A.k22:=@A.kk 22 26 [.tmp 4] A.b22 (by kernel_rfl) rfl
def Zxc{u:V}{l:List aG}(hu:Sl h N u (strs l))(hv:Sl h N v (strs l))(hl:l.length<100000):A.C.call (.func 22 [] []) [u,v] ⟨h,N,w⟩=some (.bool true,⟨h,N,w⟩):=by
 apply Call.eq;have l1:=hu.len;have l2:=hv.len;rw[mY]at l1 l2;rw[aQ,A.k22 (by simp)];simp[A.b22,l1,l2];refine b_ [(4,5),(11,25)] (fun e r st=>st=⟨h,N,[]⟩/\e=.exit 0) (fun m r st=>st=⟨h,N,[]⟩/\∃k,k+m=l.length/\r.get 5=some (.int .i64 k)) l.length ?_ ?_ ?_
 ·exact⟨rfl,0,by omega,by simp⟩
 ·rintro m r _ hr hf ⟨rfl,k,hk,h5⟩;rw[bu];cases m with
  |zero=>
   obtain rfl:k=l.length:=by omega
   simp[A.yl,hr,hf,h5,l1]
  |succ m=>
   have aE:k<l.length:=by omega
   obtain⟨s,hs⟩:=bj aE;obtain⟨i,o,c,e,rw,q1,q2,q3,q4⟩:=hu.at (GB hs);obtain⟨i',o',c',e',rj,p1,p2,p3,p4⟩:=hv.at (GB hs);have cK:(k:Int)<(l.length:Int):=by omega
   simp(disch:=first|(simp;done)|omega|rfl) [A.yl,hr,hf,h5,l1,l2,cK,q1,q2,q3,q4,p1,p2,p3,p4,jE];exact⟨m,by omega,k+1,by omega,by simp⟩
 rintro _ r _ hr ⟨rfl,rfl⟩;simp
def qq(s:aG):Bool:=decide (s.length<=24)
def mL(k n:Nat):Bool:=decide (k<=n\/64<k/\k<=66)
def dr(n:Nat)(l:List aG):Bool:=mL l.length n&&l.all qq
def Yaz{k:Nat}(h:mL k n=true)(hn:n<64):k<=66:=by simp[mL]at h;omega
def Nk{l:List aG}(hs:Sl h N v (strs l))(hl:l.length<9223372036854775808)(hn:n<64):A.C.call (.func 27 [] []) [v,.int .i64 n] ⟨h,N,w⟩=some (.bool (dr n l),⟨h,N,w⟩):=by
 apply Call.eq;have lg:=hs.len;rw[mY]at lg;rw[aQ,A.k27 (by simp)];have fin:mL l.length n=true->dr n l=l.all qq:=fun h=>by simp[dr,h]
 by_cases c1:l.length<=n
 ·rw[fin (by simp[mL,c1])];have a1:¬(n:Int)<(l.length:Int):=by omega
  have a2:¬66<(l.length:Int):=by omega
  simp[A.b27,lg,a1,a2];refine b_ [(4,5),(20,31)] (fun e r st=>st=⟨h,N,[]⟩/\((e=.exit 0/\l.all qq=true)\/(e=.ret/\l.all qq=false/\r.get 4=some (.bool false)))) (fun m r st=>st=⟨h,N,[]⟩/\∃k,k+m=l.length/\r.get 5=some (.int .i64 k)/\l.all qq=(l.drop k).all qq) l.length ?_ ?_ ?_
  ·exact⟨rfl,0,by omega,by simp,by simp⟩
  ·rintro m r _ hr hf ⟨rfl,k,hk,hx,hz⟩;rw[bu];cases m with
   |zero=>
    obtain rfl:k=l.length:=by omega
    rw[qZ,List.all_nil]at hz;simp[A.ks,hr,hf,hx,lg,hz]
   |succ m=>
    have aE:k<l.length:=by omega
    have cK:(k:Int)<(l.length:Int):=by omega
    obtain⟨s,hc⟩:=bj aE;obtain⟨i,o,cc,e,rw,q1,q2,q3,q4⟩:=hs.at (GB hc);rw[nf hc,List.all_cons]at hz;by_cases c4:qq s=true
    ·rw[c4,Bool.true_and]at hz;have c6:¬24<(s.length:Int):=by simp[qq]at c4;omega
     simp(disch:=first|(simp;done)|omega|rfl) [A.ks,hr,hf,hx,lg,cK,q1,q3,q4,c6];exact⟨m,by omega,k+1,by omega,by simp,hz⟩
    have c5:qq s=false:=by simpa using c4
    rw[c5,EA]at hz;have c6:24<(s.length:Int):=by simp[qq]at c5;omega
    simp[A.ks,hr,hf,hx,lg,cK,q1,q3,q4,c6,hz]
  rintro e r _ hr ⟨rfl,⟨rfl,hq⟩|⟨rfl,hq,h2⟩⟩
  ·simp[hq]
  simp[hq,h2]
 have a1:(n:Int)<(l.length:Int):=by omega
 have Vs:n<l.length:=by omega
 by_cases c2:l.length<=64
 ·have a3:(l.length:Int)<=64:=by omega
  have e1:dr n l=false:=by simp[dr,mL,c1];omega
  simp[A.b27,lg,a1,a3,e1]
 have a3:¬(l.length:Int)<=64:=by omega
 by_cases c3:66<l.length
 ·have a4:66<(l.length:Int):=by omega
  have e1:dr n l=false:=by simp[dr,mL,c1];omega
  simp[A.b27,lg,a1,a3,a4,e1]
 have a4:¬66<(l.length:Int):=by omega
 rw[fin (by simp[mL];omega)];simp[A.b27,lg,a1,a3,a4];refine b_ [(4,5),(20,31)] (fun e r st=>st=⟨h,N,[]⟩/\((e=.exit 0/\l.all qq=true)\/(e=.ret/\l.all qq=false/\r.get 4=some (.bool false)))) (fun m r st=>st=⟨h,N,[]⟩/\∃k,k+m=l.length/\r.get 5=some (.int .i64 k)/\l.all qq=(l.drop k).all qq) l.length ?_ ?_ ?_
 ·exact⟨rfl,0,by omega,by simp,by simp⟩
 ·rintro m r _ hr hf ⟨rfl,k,hk,hx,hz⟩;rw[bu];cases m with
  |zero=>
   obtain rfl:k=l.length:=by omega
   rw[qZ,List.all_nil]at hz;simp[A.ks,hr,hf,hx,lg,hz]
  |succ m=>
   have aE:k<l.length:=by omega
   have cK:(k:Int)<(l.length:Int):=by omega
   obtain⟨s,hc⟩:=bj aE;obtain⟨i,o,cc,e,rw,q1,q2,q3,q4⟩:=hs.at (GB hc);rw[nf hc,List.all_cons]at hz;by_cases c4:qq s=true
   ·rw[c4,Bool.true_and]at hz;have c6:¬24<(s.length:Int):=by simp[qq]at c4;omega
    simp(disch:=first|(simp;done)|omega|rfl) [A.ks,hr,hf,hx,lg,cK,q1,q3,q4,c6];exact⟨m,by omega,k+1,by omega,by simp,hz⟩
   have c5:qq s=false:=by simpa using c4
   rw[c5,EA]at hz;have c6:24<(s.length:Int):=by simp[qq]at c5;omega
   simp[A.ks,hr,hf,hx,lg,cK,q1,q3,q4,c6,hz]
 rintro e r _ hr ⟨rfl,⟨rfl,hq⟩|⟨rfl,hq,h2⟩⟩
 ·simp[hq]
 simp[hq,h2]
def eN(h:T O)(N:Nat)(v:V)(m:List (List aG)):Prop:=∃us:List V,Sl h N v us/\us.length=m.length/\∀(j:Nat) (l:List aG),m[j]?=some l->∃u,us[j]?=some u/\Sl h N u (strs l)
def eN.ad{h':T O}{N':Nat}(s:eN h N v m)(k:ab h N h' N'):eN h' N' v m:=by obtain⟨us,h1,h2,h3⟩:=s;refine⟨us,h1.ad k,h2,fun j l hl=>?_⟩;obtain⟨u,g1,g2⟩:=h3 j l hl;exact⟨u,g1,g2.ad k⟩
def eN.len(s:eN h N v m):qQ v=some m.length:=by obtain⟨us,h1,h2,_⟩:=s;rw[h1.len,h2]
def eN.at(s:eN h N v m){j:Nat}{l:List aG}(hj:m[j]?=some l):∃i o c e rw u,yJ v=some (i,o)/\i<N/\h.get i=some (.cells c e rw)/\c[o+j]?=some u/\Sl h N u (strs l):=by obtain⟨us,h1,h2,h3⟩:=s;obtain⟨u,g1,g2⟩:=h3 j l hj;obtain⟨i,o,c,e,rw,q1,q2,q3,q4⟩:=h1.at g1;exact⟨i,o,c,e,rw,u,q1,q2,q3,q4,g2⟩
def eN.VD{m:List (List Rat)}(s:eN h N v (m.map fun l=>l.map aO)):oa h N v m:=by obtain⟨us,h1,h2,h3⟩:=s;refine⟨us,h1,by simpa using h2,fun j l hl=>?_⟩;exact h3 j (l.map aO) (by simp[hl])
def jO(r c:Nat)(m:List (List aG)):Bool:=mL m.length r&&m.all (dr c)
def Yli{l:List (List aG)}{p:Nat}(hs:eN h N v l)(hl:l.length<9223372036854775808)(jK:∀x∈l,x.length<9223372036854775808)(hn:n<64)(hp:p<64):A.C.call (.func 25 [] []) [v,.int .i64 n,.int .i64 p] ⟨h,N,w⟩=some (.bool (jO n p l),⟨h,N,w⟩):=by
 apply Call.eq;have lg:=hs.len;rw[aQ,A.k25 (by simp)];have fin:mL l.length n=true->jO n p l=l.all (dr p):=fun h=>by simp[jO,h]
 by_cases c1:l.length<=n
 ·rw[fin (by simp[mL,c1])];have a1:¬(n:Int)<(l.length:Int):=by omega
  have a2:¬66<(l.length:Int):=by omega
  simp[A.b25,lg,a1,a2];refine b_ [(6,7),(22,34)] (fun e r st=>st=⟨h,N,[]⟩/\((e=.exit 0/\l.all (dr p)=true)\/(e=.ret/\l.all (dr p)=false/\r.get 6=some (.bool false)))) (fun m r st=>st=⟨h,N,[]⟩/\∃k,k+m=l.length/\r.get 7=some (.int .i64 k)/\l.all (dr p)=(l.drop k).all (dr p)) l.length ?_ ?_ ?_
  ·exact⟨rfl,0,by omega,by simp,by simp⟩
  ·rintro m r _ hr hf ⟨rfl,k,hk,hx,hz⟩;rw[bu];cases m with
   |zero=>
    obtain rfl:k=l.length:=by omega
    rw[qZ,List.all_nil]at hz;simp[A.ku,hr,hf,hx,lg,hz]
   |succ m=>
    have aE:k<l.length:=by omega
    have cK:(k:Int)<(l.length:Int):=by omega
    obtain⟨s,hc⟩:=bj aE;obtain⟨i,o,cc,e,rw,u,q1,q2,q3,q4,q5⟩:=hs.at hc;have cC:=fun w=>Nk (w:=w) q5 (jK s (cy hc)) hp;rw[nf hc,List.all_cons]at hz;by_cases c4:(dr p) s=true
    ·rw[c4,Bool.true_and]at hz;simp(disch:=first|(simp;done)|omega|rfl) [A.ku,hr,hf,hx,lg,cK,q1,q3,q4,cC,c4];exact⟨m,by omega,k+1,by omega,by simp,hz⟩
    have c5:(dr p) s=false:=by simpa using c4
    rw[c5,EA]at hz;simp[A.ku,hr,hf,hx,lg,cK,q1,q3,q4,cC,c5,hz]
  rintro e r _ hr ⟨rfl,⟨rfl,hq⟩|⟨rfl,hq,h2⟩⟩
  ·simp[hq]
  simp[hq,h2]
 have a1:(n:Int)<(l.length:Int):=by omega
 have Vs:n<l.length:=by omega
 by_cases c2:l.length<=64
 ·have a3:(l.length:Int)<=64:=by omega
  have e1:jO n p l=false:=by simp[jO,mL,c1];omega
  simp[A.b25,lg,a1,a3,e1]
 have a3:¬(l.length:Int)<=64:=by omega
 by_cases c3:66<l.length
 ·have a4:66<(l.length:Int):=by omega
  have e1:jO n p l=false:=by simp[jO,mL,c1];omega
  simp[A.b25,lg,a1,a3,a4,e1]
 have a4:¬66<(l.length:Int):=by omega
 rw[fin (by simp[mL];omega)];simp[A.b25,lg,a1,a3,a4];refine b_ [(6,7),(22,34)] (fun e r st=>st=⟨h,N,[]⟩/\((e=.exit 0/\l.all (dr p)=true)\/(e=.ret/\l.all (dr p)=false/\r.get 6=some (.bool false)))) (fun m r st=>st=⟨h,N,[]⟩/\∃k,k+m=l.length/\r.get 7=some (.int .i64 k)/\l.all (dr p)=(l.drop k).all (dr p)) l.length ?_ ?_ ?_
 ·exact⟨rfl,0,by omega,by simp,by simp⟩
 ·rintro m r _ hr hf ⟨rfl,k,hk,hx,hz⟩;rw[bu];cases m with
  |zero=>
   obtain rfl:k=l.length:=by omega
   rw[qZ,List.all_nil]at hz;simp[A.ku,hr,hf,hx,lg,hz]
  |succ m=>
   have aE:k<l.length:=by omega
   have cK:(k:Int)<(l.length:Int):=by omega
   obtain⟨s,hc⟩:=bj aE;obtain⟨i,o,cc,e,rw,u,q1,q2,q3,q4,q5⟩:=hs.at hc;have cC:=fun w=>Nk (w:=w) q5 (jK s (cy hc)) hp;rw[nf hc,List.all_cons]at hz;by_cases c4:(dr p) s=true
   ·rw[c4,Bool.true_and]at hz;simp(disch:=first|(simp;done)|omega|rfl) [A.ku,hr,hf,hx,lg,cK,q1,q3,q4,cC,c4];exact⟨m,by omega,k+1,by omega,by simp,hz⟩
   have c5:(dr p) s=false:=by simpa using c4
   rw[c5,EA]at hz;simp[A.ku,hr,hf,hx,lg,cK,q1,q3,q4,cC,c5,hz]
 rintro e r _ hr ⟨rfl,⟨rfl,hq⟩|⟨rfl,hq,h2⟩⟩
 ·simp[hq]
 simp[hq,h2]
variable {N:Nat} {h:T O} {l:List aG} {v:V}
def A.w29:=A.q Tryz.f29
def A.ym:=A.ql A.w29 0 []
def A.b29:=(fun x0=>A.qb A.w29 [x0]) A.ym
def A.k29:=@A.kk 29 19 [.tmp 2] A.b29 (by kernel_rfl) rfl
def A.b7:=A.q Tryz.f7
def A.k7:=@A.kk 7 11 [.tmp 4] A.b7 (by kernel_rfl) rfl
def A.w93:=A.q Tryz.f93
def A.yn:=A.ql A.w93 0 []
def A.b93:=(fun x0=>A.qb A.w93 [x0]) A.yn
def A.k93:=@A.kk 93 49 [.tmp 6] A.b93 (by kernel_rfl) rfl
def Yoi(hs:Sl h N v (strs l))(hl:l.length<100000)(wO:∀s∈l,s.length<9223372036854775808):Fn A.C 29 [v] h N (fun u _ _=>u=.int .i64 (cg (l.map fun s=>((aV s:Nat):Int)))):=by
 intro w;have hlen:=hs.len;rw[mY]at hlen;rw[aQ,A.k29 (by simp)];simp(disch:=first|(simp;done)|omega|rfl) [-getElem?_pos,A.b29];refine b_ [(2,18)] (fun e r st=>ay N st.w=[]/\ab h N st.h st.n/\((e=.exit 0/\cg (l.map fun s=>((aV s:Nat):Int))=0)\/(e=.ret/\r.get 2=some (.int .i64 (cg (l.map fun s=>((aV s:Nat):Int))))))) (fun m r st=>ay N st.w=[]/\ab h N st.h st.n/\∃k,k+m=l.length/\r.get 3=some (.int .i64 k)/\cg (l.map fun s=>((aV s:Nat):Int))=cg ((l.drop k).map fun s=>((aV s:Nat):Int))) l.length ?_ ?_ ?_
 ·exact⟨by simp,ab.refl,0,by omega,by simp,by simp⟩
 ·rintro m r ⟨H,n1,W⟩ hr hf ⟨hW,hK,k,hk,h7,hz⟩;simp only at hW hK;rw[bu];cases m with
  |zero=>
   obtain rfl:k=l.length:=by omega
   rw[qZ,yZ,cg]at hz;simp(disch:=first|(simp;done)|omega|rfl) [-getElem?_pos,A.ym,hr,hf,h7,hlen,hz,hW,hK]
  |succ m=>
   have aE:k<l.length:=by omega
   obtain⟨s,hc⟩:=bj aE;obtain⟨i,o,cc,e,rw,q1,q2,q3,q4⟩:=(hs.ad hK).at (GB hc);rw[nf hc,pX,cg]at hz;have cK:(k:Int)<(l.length:Int):=by omega
   simp(disch:=first|(simp;done)|omega|rfl) [-getElem?_pos,A.ym,hr,hf,h7,cK,aE,hlen,q1,q3,q4];refine ar (Zrx (wO s (cy hc))) ?_;rintro _ h3 n3 k3 rfl;have kk:=hK.trans k3;by_cases h0:aV s=0
   ·rw[av (by omega)]at hz;simp(disch:=first|(simp;done)|omega|rfl) [-getElem?_pos,hr,hf,h7,h0,hW,bA];exact⟨m,by omega,kk,k+1,by omega,by simp,by simpa using hz⟩
   rw[ak (by omega)]at hz;have jJ:¬((aV s:Nat):Int)=0:=by omega
   simp(disch:=first|(simp;done)|omega|rfl) [-getElem?_pos,hr,hf,h7,h0,jJ,hW,bA,hz];exact kk
 rintro _ r ⟨H,n1,W⟩ hr ⟨hW,hK,⟨rfl,hz⟩|⟨rfl,h2⟩⟩
 ·simp only at hW hK;simp(disch:=first|(simp;done)|omega|rfl) [-getElem?_pos,hr,hz,az,hW,hK]
 simp only at hW hK;simp(disch:=first|(simp;done)|omega|rfl) [-getElem?_pos,hr,h2,az,hW,hK]
def dj(l:List aG)(n:Nat):Int:=if l.length=n then cg (l.map fun s=>((aV s:Nat):Int)) else 2
def aW(l:List (List aG)):Nat:=(l[0]?.getD []).length
def fI(l:List (List aG))(r c:Nat):Int:=if l.length=0\/aW l=0 then 12 else if r<l.length\/c<aW l then 5 else cg (l.map fun x=>dj x (aW l))
def Zwi{n:Nat}(hs:Sl h N v (strs l))(hl:l.length=n->l.length<100000)(wO:∀s∈l,s.length<9223372036854775808):Fn A.C 7 [v,.int .i64 n] h N (fun u _ _=>u=.int .i64 (dj l n)):=by
 intro w;have hlen:=hs.len;rw[mY]at hlen;rw[aQ,A.k7 (by simp)];by_cases c:l.length=n
 ·subst c;simp(disch:=first|(simp;done)|omega|rfl) [-getElem?_pos,A.b7,hlen,bA];refine ar (Yoi hs (hl rfl) wO) ?_;rintro _ H2 n2 k2 rfl;simp(disch:=first|(simp;done)|omega|rfl) [-getElem?_pos,az,dj];exact k2
 have c':¬(l.length:Int)=(n:Int):=by omega
 simp(disch:=first|(simp;done)|omega|rfl) [-getElem?_pos,A.b7,hlen,c',dj,c,az,bA];exact ab.refl
def Em{n:Nat}(hs:Sl h N v (strs l))(hl:l.length<100000)(wO:∀s∈l,s.length<=100000):Fn A.C 7 [v,.int .i64 n] h N (fun u _ _=>u=.int .i64 (dj l n)):=Zwi hs (fun _=>hl) fun s h=>by have:=wO s h;omega
def Yvc{l:List (List aG)}{a b:Nat}(hs:eN h N v l)(hl:l.length<100000)(hx:∀x∈l,x.length<100000/\∀s∈x,s.length<=100000):Fn A.C 93 [v,.int .i64 a,.int .i64 b] h N (fun u _ _=>u=.int .i64 (fI l a b)):=by
 intro w;have hlen:=hs.len;rw[aQ,A.k93 (by simp)];by_cases c0:l.length=0
 ·have c0':(l.length:Int)=0:=by omega
  simp[A.b93,hlen,c0,fI,az];exact ab.refl
 have c0':¬(l.length:Int)=0:=by omega
 have nY:0<l.length:=by omega
 have rX:0<(l.length:Int):=by omega
 obtain⟨l0,cB⟩:=bj nY;obtain⟨i0,o0,Lq,e0,C7,u0,z1,z2,z3,z4,z5⟩:=hs.at cB;have z6:=z5.len;rw[mY]at z6;rw[gE]at z4;obtain⟨n,hn⟩:∃n,n=l0.length:=⟨_,rfl⟩;have en:aW l=n:=by simp[aW,cB,hn]
 rw[<-hn]at z6;have wA:n<100000:=by have:=(hx l0 (cy cB)).1;omega
 by_cases c1:n=0
 ·have c1':(n:Int)=0:=by omega
  simp[A.b93,hlen,c0,nY,z1,z3,z4,z6,c1,fI,en,az];exact ab.refl
 have c1':¬(n:Int)=0:=by omega
 by_cases c2:a<l.length
 ·have c2':(a:Int)<(l.length:Int):=by omega
  simp[A.b93,hlen,c0,nY,z1,z3,z4,z6,c1,c2,c2',fI,en,az];exact ab.refl
 have c2':¬(a:Int)<(l.length:Int):=by omega
 by_cases c3:b<n
 ·have c3':(b:Int)<(n:Int):=by omega
  simp[A.b93,hlen,c0,nY,z1,z3,z4,z6,c1,c2,c2',c3,c3',fI,en,az];exact ab.refl
 have c3':¬(b:Int)<(n:Int):=by omega
 have e1:fI l a b=cg (l.map fun x=>dj x n):=by simp[fI,en,c0,c1,c2,c3]
 rw[e1];simp[A.b93,hlen,c0,nY,z1,z3,z4,z6,c1,c2',c3'];refine b_ [(6,8),(31,48)] (fun e r st=>ay N st.w=[]/\ab h N st.h st.n/\((e=.exit 0/\cg (l.map fun x=>dj x n)=0)\/(e=.ret/\r.get 6=some (.int .i64 (cg (l.map fun x=>dj x n)))))) (fun m r st=>ay N st.w=[]/\ab h N st.h st.n/\∃k,k+m=l.length/\r.get 7=some (.int .i64 k)/\cg (l.map fun x=>dj x n)=cg ((l.drop k).map fun x=>dj x n)) l.length ?_ ?_ ?_
 ·exact⟨by simp,ab.refl,0,by omega,by simp,by simp⟩
 ·rintro m r ⟨H,n1,W⟩ hr hf ⟨hW,hK,k,hk,h7,hz⟩;simp only at hW hK;rw[bu];cases m with
  |zero=>
   obtain rfl:k=l.length:=by omega
   rw[qZ,yZ,cg]at hz;simp[A.yn,hr,hf,h7,hlen,hz,hW,hK]
  |succ m=>
   have aE:k<l.length:=by omega
   obtain⟨s,hc⟩:=bj aE;obtain⟨i,o,cc,e,rw,u,q1,q2,q3,q4,q5⟩:=(hs.ad hK).at hc;rw[nf hc,pX,cg]at hz;have cK:(k:Int)<(l.length:Int):=by omega
   obtain⟨i1,o1,UY,e1,rw1,u1,y1,y2,y3,y4,y5⟩:=(hs.ad hK).at cB;have y6:=y5.len;rw[mY,<-hn]at y6;rw[gE]at y4;obtain⟨rfl,rfl⟩:i=i1/\o=o1:=by rw[q1]at y1;simpa using y1
   obtain⟨rfl,rfl,rfl⟩:cc=UY/\e=e1/\rw=rw1:=by rw[q3]at y3;simpa using y3
   simp[A.yn,hr,h7,cK,hlen,q1,q2,q3,q4,nY,y4,y6];refine ar (Em q5 (hx s (cy hc)).1 (hx s (cy hc)).2) ?_;rintro _ h3 n3 k3 rfl;have kk:=hK.trans k3;by_cases h0:dj s n=0
   ·rw[av h0]at hz;simp(disch:=first|(simp;done)|omega|rfl) [hf,h7,h0,hW];exact⟨m,by omega,kk,k+1,by omega,by simp,by simpa using hz⟩
   rw[ak h0]at hz;simp[hf,h0,hW,hz];exact kk
 rintro _ r ⟨H,n1,W⟩ hr ⟨hW,hK,⟨rfl,hz⟩|⟨rfl,h2⟩⟩
 ·simp only at hW hK;simp[hz,az,hW,hK]
 simp only at hW hK;simp[h2,az,hW,hK]
end
end Go.Mx
