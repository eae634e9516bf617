/-
  num.FromAll, num.Texts.
-/
import Derived.Test.YtlbophlgohokkaaGreatDoorNdA
import Derived.Test.YtlbophlgohokkaaGreatDoorMxRg
import Derived.Test.YtlbophlgohokkaaGreatDoorNbA
set_option linter.all false
namespace Go.Mx
open Go Go.Proofs
variable {N:Nat} {h:T O} {l:List Rat} {q:Rat} {v:V}
set_option maxHeartbeats 1000000
set_option maxRecDepth 1000000
def A.lb72_0:Zae:=sr [bi 12 .lss 11 10]
 (.seq (cd 12
 (.skip)
 (.exit 0))
 (.seq (.block 1 (sr [mv 13 11,ia 14 1 9 11,ld 15 14,mv 4 13,mv 5 15]
 (.reg [mv 16 3,mv 17 4,mv 18 5,c1 19 146 18,ia 20 4 16 17,⟨none,.store 4 (.tmp 20) (.tmp 19),none⟩])))
 (.reg [bc 21 .add 11 1,mv 11 21])))
def A.b72:Zae:=sr [mN 2]
 (sr [mv 6 0,ln 7 6,⟨(some 8),.mkslice 114 4 64 [(.int .i64 0),.nilslice,(.int .i64 0),.nilslice] (.tmp 7) (.tmp 7),none⟩,mv 3 8]
 (.seq (sr [mv 9 0,ln 10 9,mc 11 0]
 (.block 0 (.loop A.lb72_0)))
 (sr [mv 22 3,mv 2 22]
 (.ret))))
theorem A.c72:A.F 72=some ⟨23,[.tmp 2],A.b72⟩:=by kernel_rfl
def A.k72:=@A.kk 72 _ _ _ A.c72 rfl
def FcC(h:T O)(N:Nat)(c:List V)(q:Rat):Prop:=∃n1 u1 n2 u2,c=[.int .i64 n1,u1,.int .i64 n2,u2]∧In h N (.agg [.int .i64 n1,u1]) q.num∧In h N (.agg [.int .i64 n2,u2]) (q.den:Int)
theorem FcC.keep{h':T O}{N':Nat}{c:List V}(s:FcC h N c q)(k:Keeps h N h' N'):FcC h' N' c q:=by
 obtain⟨n1,u1,n2,u2,rfl,s1,s2⟩:=s
 exact⟨n1,u1,n2,u2,rfl,s1.keep k,s2.keep k⟩
theorem FcC.fc{c:List V}(s:FcC h N c q):Fc h N (.agg c) q:=by
 obtain⟨n1,u1,n2,u2,rfl,s1,s2⟩:=s
 exact⟨n1,u1,n2,u2,rfl,s1,s2⟩
theorem Fc.c{x:V}(s:Fc h N x q):∃c,x=.agg c∧FcC h N c q:=by
 obtain⟨n1,u1,n2,u2,rfl,s1,s2⟩:=s
 exact⟨_,rfl,n1,u1,n2,u2,rfl,s1,s2⟩
def NoU(c:List V):Prop:=∀x∈c,∀m,x≠.int .u64 m
theorem Zuh{n:Int}{u:V}{z:Int}(s:In h N (.agg [.int .i64 n,u]) z):∀m,u≠.int .u64 m:=by
 rcases s with⟨h1,_⟩|⟨i,o,l,c,h1,_⟩
 ·simp at h1;rw[h1.2];simp
 ·simp at h1;rw[h1.2];simp
theorem FcC.noU{c:List V}(s:FcC h N c q):NoU c:=by
 obtain⟨n1,u1,n2,u2,rfl,s1,s2⟩:=s
 intro x hx m
 simp at hx
 rcases hx with rfl|rfl|rfl|rfl
 ·simp
 ·exact Zuh s1 m
 ·simp
 ·exact Zuh s2 m
theorem FcC.len{c:List V}(s:FcC h N c q):c.length=4∧c.all V.one=true:=by
 obtain⟨n1,u1,n2,u2,rfl,s1,s2⟩:=s
 have o1:=Za0 s1
 have o2:=Za0 s2
 exact⟨rfl,by simp only[List.all_cons,List.all_nil,o1,o2,Bool.and_true];rfl⟩
theorem FcC.setNU{i:Nat}{c c0 c1:List V}{e0 e1:TypeId}{w0 w1:Bool}(s:FcC h N c q)(g:h.get i=some (.cells c0 e0 w0))(hn:NoU c0)(hc:c1.length=c0.length):FcC (h.set i (.cells c1 e1 w1)) N c q:=by
 obtain⟨n1,u1,n2,u2,rfl,s1,s2⟩:=s
 exact⟨n1,u1,n2,u2,rfl,s1.setNU g hn hc,s2.setNU g hn hc⟩
def FrS(h:T O)(N:Nat)(v:V)(l:List Rat):Prop:=∃cs:List (List V),Sn 4 h N v cs∧cs.length=l.length∧∀(j:Nat) (q:Rat),l[j]?=some q→∃c,cs[j]?=some c∧FcC h N c q
theorem FrS.keep{h':T O}{N':Nat}(s:FrS h N v l)(k:Keeps h N h' N'):FrS h' N' v l:=by
 obtain⟨cs,h1,h2,h3⟩:=s
 refine⟨cs,h1.keep k,h2,fun j q hq=>?_⟩
 obtain⟨c,g1,g2⟩:=h3 j q hq
 exact⟨c,g1,g2.keep k⟩
theorem FrS.len(s:FrS h N v l):Zl4 v=some l.length:=by
 obtain⟨cs,h1,h2,_⟩:=s
 rw[h1.len,h2]
theorem FrS.at(s:FrS h N v l){j:Nat}{q:Rat}(hj:l[j]?=some q):∃i o x e rw c,Zkp v=some (i,o)∧i<N∧h.get i=some (.cells x e rw)∧slc x (o+j*4) 4=some c∧FcC h N c q:=by
 obtain⟨cs,h1,h2,h3⟩:=s
 obtain⟨c,h4,h5⟩:=h3 j q hj
 obtain⟨i,o,x,e,rw,q1,q2,q3,q4⟩:=h1.at h4
 exact⟨i,o,x,e,rw,c,q1,q2,q3,q4,h5⟩
def FrT(h:T O)(N:Nat)(v:V)(l:List Rat):Prop:=FrS h N v l∧∀i∈Zcl v,∃z w,h.get i=some (.cells z 114 w)
def tx(l:List Rat):List V:=strs (l.map Zax)
theorem Zm4(l:List Rat):(tx l).length=l.length:=by simp[tx,strs]
theorem Zit{j:Nat}(h:l[j]?=some q):(tx l)[j]?=some (.str (Zax q)):=by simp[tx,strs,h]
def zF:List V:=[.int .i64 0,.nilslice,.int .i64 0,.nilslice]
theorem Zg3{z:List V}{n:Nat}:Zc7 z (n+1)=z++Zc7 z n:=by
 unfold Zc7
 rw[Nat.succ_mul,Nat.add_comm (n*z.length),List.range_add,List.map_append,List.map_map]
 congr 1
 ·apply Ypt
  intro j
  by_cases hj:j<z.length
  ·rw[Ypp,List.getElem?_range hj]
   simp[Yqq hj,hj]
  ·rw[Ypd (by simp;omega),Ypd (by omega)]
 ·apply Ysm
  intro i _
  simp[Nat.add_mod_left]
theorem Zm9{a b c x:List V}{n o:Nat}(ha:a.length=o)(hb:b.length=n)(hx:x.length=n):splice (a++(b++c)) o x=a++(x++c):=by
 unfold splice
 rw[←ha,List.take_left,hx,←List.drop_drop,List.drop_left,←hb,List.drop_left,Yqf]
structure FaI (h:T O) (N:Nat) (l:List Rat) (m:Nat) (r:T V) (st:St):Prop where
 w:Zaa N st.w=[]
 keep:Keeps h N st.h st.n
 ex:∃(k:Nat) (cs:List (List V)),k+m=l.length∧r.get 11=some (.int .i64 k)∧r.get 3=some (.slice N 0 l.length (some l.length) 4)∧N<st.n∧st.h.get N=some (.cells (cs.flatten++Zc7 zF m) 114 true)∧cs.length=k∧∀(j:Nat) (q:Rat),j<k→l[j]?=some q→∃c,cs[j]?=some c∧FcC st.h st.n c q
theorem Zot{cs:List (List V)}(hl:cs.length≤l.length)(hc:∀(j:Nat) (q:Rat),j<cs.length→l[j]?=some q→∃c,cs[j]?=some c∧FcC h N c q):(∀c∈cs,c.length=4)∧NoU cs.flatten∧cs.flatten.all V.one=true:=by
 have key:∀c∈cs,∃q,FcC h N c q:=fun c hcm=>by
  obtain⟨j,hj⟩:=Yrf hcm
  have hlt:=Za6 hj
  obtain⟨q,hq⟩:=Zaf (l:=l) (k:=j) (by omega)
  obtain⟨c',h1,h2⟩:=hc j q hlt hq
  rw[hj]at h1
  simp only[Yox]at h1
  subst h1
  exact⟨q,h2⟩
 refine⟨fun c hcm=>?_,fun x hx m=>?_,?_⟩
 ·obtain⟨q,hq⟩:=key c hcm;exact hq.len.1
 ·obtain⟨c,hcm,hxc⟩:=List.mem_flatten.1 hx
  obtain⟨q,hq⟩:=key c hcm
  exact hq.noU x hxc m
 ·rw[Ypv]
  intro x hx
  obtain⟨c,hcm,hxc⟩:=List.mem_flatten.1 hx
  obtain⟨q,hq⟩:=key c hcm
  exact Ypv.1 hq.len.2 x hxc
theorem Zn2:∀{n:Nat},NoU (Zc7 zF n)
 |0=>by intro x hx;simp[Zc7]at hx
 |n+1=>by
  intro x hx m
  rw[Zg3]at hx
  rcases Yp2.1 hx with hx|hx
  ·simp[zF]at hx
   rcases hx with rfl|rfl|rfl|rfl<;>simp
  ·exact Zn2 x hx m
theorem NoU.app{a b:List V}(ha:NoU a)(hb:NoU b):NoU (a++b):=fun x hx m=>by
 rcases Yp2.1 hx with hx|hx
 ·exact ha x hx m
 ·exact hb x hx m
theorem Ye4(n:Nat):(Zc7 zF n).length=n*4:=by
 induction n with
 |zero=>simp[Zc7]
 |succ n ih=>rw[Zg3,Ypm,ih];simp[zF];omega
theorem Zw1{k0:Nat}(hs:Sl h N v (tx l))(hl:l.length<1000000)(hq:∀q∈l,Qb k0 q)(hk0:k0≤4000):Fn A.C 72 [v] h N (fun u h' n'=>FrT h' n' u l):=by
 intro w
 have hlen:=hs.len
 rw[Zm4]at hlen
 have c1:(64:Int)*(l.length:Int)≤140737488355328:=by omega
 have c2:(l.length:Int)<4611686018427387904:=by omega
 have kB:Keeps h N (h.set N (.cells (Zc7 zF l.length) 114 true)) (N+1):=Keeps.refl.new _
 rw[Zab,A.k72 (by simp)]
 simp[A.b72,hlen,c1,c2]
 refine Zaj [(4,5),(11,21)] (fun e r st=>e=.exit 0∧FaI h N l 0 r st) (FaI h N l) l.length ?_ ?_ ?_
 ·exact⟨by simp,kB,0,[],by omega,by simp,by simp,by show N<N+1;omega,by rw[T.get_set,Yo4 rfl];rfl,rfl,fun j q hj=>by omega⟩
 ·rintro m r ⟨H,n1,W⟩ hr hf ⟨hW,hK,k,cs,hk,h11,h3,hN1,hM,hcl,hcs⟩
  simp only at hW hK hM hN1 hcs
  rw[Zah]
  cases m with
  |zero=>
   obtain rfl:k=l.length:=by omega
   simp[A.lb72_0,hr,hf,h11]
   exact⟨hW,hK,l.length,cs,by omega,by simp[h11],by simp[h3],hN1,hM,hcl,hcs⟩
  |succ m=>
   have hlt:k<l.length:=by omega
   have hlt':(k:Int)<(l.length:Int):=by omega
   obtain⟨q,hqk⟩:=Zaf hlt
   have hqb:=hq q (Yo3 hqk)
   obtain⟨i,o,cc,e,rw,q1,q2,q3,q4⟩:=(hs.keep hK).at (Zit hqk)
   have la:=Zie hqb.1
   have la2:=Zgu hqb.2
   simp[A.lb72_0,hr,h11,hlt',hlen,q1,q3,q4]
   refine Zac (Yih (q:=q) (by omega) (by omega)) ?_
   rintro _ H2 n2 k2 hf2
   obtain⟨c,rfl,hc⟩:=hf2.c
   have le2:=k2.le
   have nle:=hK.le
   have hM2:=(k2.get N hN1).trans hM
   have hcs2:∀(j:Nat) (q:Rat),j<cs.length→l[j]?=some q→∃c,cs[j]?=some c∧FcC H2 n2 c q:=fun j q hj hq=>by
    obtain⟨c,g1,g2⟩:=hcs j q (by omega) hq
    exact⟨c,g1,g2.keep k2⟩
   obtain⟨f1,f2,f3⟩:=Zot (l:=l) (by omega) hcs2
   have hfl:=Zbz f1
   obtain⟨e1,e2⟩:=hc.len
   have hsp:splice (cs.flatten++Zc7 zF (m+1)) (k*4) c=(cs++[c]).flatten++Zc7 zF m:=by
    rw[Zg3,Zm9 (n:=4) (by rw[hfl,hcl]) rfl e1,Zk3,Yqf]
   have hb:k*4+4≤(cs.flatten++Zc7 zF (m+1)).length:=by
    rw[Ypm,hfl,Ye4];omega
   have hcc:(V.agg c).cells=c:=rfl
   have hnu:NoU (cs.flatten++Zc7 zF (m+1)):=f2.app Zn2
   have hlen4:((cs++[c]).flatten++Zc7 zF m).length=(cs.flatten++Zc7 zF (m+1)).length:=by
    rw[Zg3,Zk3];simp[e1,zF];omega
   generalize cs.flatten++Zc7 zF (m+1)=X at*
   obtain⟨Y,hY⟩:∃Y,(cs++[c]).flatten++Zc7 zF m=Y:=⟨_,rfl⟩
   rw[hY]at hsp hlen4
   simp(disch:=first|(simp;done)|omega|(simp only[Zad,Zag,Yoz];omega)|rfl) [-V.cells, -V.one,hf,h11,hM2,Zak,hcc,e1,e2,hb,hsp]
   have wok:¬N<N:=by omega
   refine⟨m,by omega,⟨by simp[Zaa,hW],(hK.trans k2).set (Yoy N),k+1,cs++[c],by omega,by simp,by simp[h3],by show N<n2;omega,by show T.get _ N=_;rw[T.get_set,Yo4 rfl,hY],by simp[hcl],fun j q' hj hq'=>?_⟩⟩
   by_cases hjk:j<k
   ·obtain⟨c',g1,g2⟩:=hcs j q' hjk hq'
    exact⟨c',by rw[Ypl (by omega)];exact g1,(g2.keep k2).setNU hM2 hnu hlen4⟩
   ·obtain rfl:j=k:=by omega
    rw[hqk]at hq'
    simp only[Yox]at hq'
    subst hq'
    exact⟨c,by rw[Ypr (by omega),hcl];simp,hc.setNU hM2 hnu hlen4⟩
 ·rintro _ r ⟨H,n1,W⟩ hr ⟨rfl,hW,hK,k,cs,hk,h11,h3,hN1,hM,hcl,hcs⟩
  simp only at hW hK hM hN1 hcs
  obtain rfl:k=l.length:=by omega
  simp[hr,Ret,hW,hK]
  have hz:Zc7 zF 0=[]:=by simp[Zc7]
  obtain⟨f1,_,_⟩:=Zot (l:=l) (by omega) (fun j q hj hq=>hcs j q (by omega) hq)
  have hfl:=Zbz f1
  rw[hz,Yrb]at hM
  refine⟨⟨cs,.inr ⟨N,0,some l.length,cs.flatten,_,true,by rw[hcl],hN1,hM,fun j x hx=>by rw[Yq7];exact Zev f1 hx,by omega,fun k hk=>by simp at hk;omega⟩,hcl,fun j q hq=>hcs j q (Za6 hq) hq⟩,fun i hi=>?_⟩
  simp[Zcl]at hi
  subst hi
  exact⟨_,_,hM⟩
structure TaI (h:T O) (N:Nat) (l:List Rat) (m:Nat) (r:T V) (st:St):Prop where
 w:Zaa N st.w=[]
 keep:Keeps h N st.h st.n
 ex:∃(k:Nat),k+m=l.length∧r.get 11=some (.int .i64 k)∧r.get 3=some (.slice N 0 l.length (some l.length) 1)∧N<st.n∧st.h.get N=some (.cells (tx (l.take k)++List.replicate m (V.str [])) 36 true)
variable {N:Nat} {h:T O} {l:List Rat} {m:List (List Rat)} {v:V}
def Ync(a b:List Rat):Nat→Rat
 |0=>0
 |k+1=>Ync a b k+a[k]?.getD 0*b[k]?.getD 0
theorem Qb.zero:Qb 1 0:=⟨by decide,by decide⟩
theorem Zoq{l:List Rat}{k:Nat}(h:∀q∈l,Qb k q)(hk:1≤k)(j:Nat):Qb k (l[j]?.getD 0):=by
 cases hj:l[j]? with
 |none=>exact Qb.zero.mono hk
 |some q=>exact h q (Yo3 hj)
def Tx(h:T O)(N:Nat)(v:V)(l:List Rat):Prop:=Sl h N v (tx l)
theorem Tx.keep{h':T O}{N':Nat}(s:Tx h N v l)(k:Keeps h N h' N'):Tx h' N' v l:=Sl.keep s k
theorem Tx.len(s:Tx h N v l):Zl4 v=some l.length:=by
 have:=Sl.len s
 rwa [Zm4]at this
def TxM(h:T O)(N:Nat)(v:V)(m:List (List Rat)):Prop:=∃us:List V,Sl h N v us∧us.length=m.length∧∀(j:Nat) (l:List Rat),m[j]?=some l→∃u,us[j]?=some u∧Tx h N u l
theorem TxM.keep{h':T O}{N':Nat}(s:TxM h N v m)(k:Keeps h N h' N'):TxM h' N' v m:=by
 obtain⟨us,h1,h2,h3⟩:=s
 refine⟨us,h1.keep k,h2,fun j l hl=>?_⟩
 obtain⟨u,g1,g2⟩:=h3 j l hl
 exact⟨u,g1,g2.keep k⟩
theorem TxM.len(s:TxM h N v m):Zl4 v=some m.length:=by
 obtain⟨us,h1,h2,_⟩:=s
 rw[h1.len,h2]
theorem TxM.at(s:TxM h N v m){j:Nat}{l:List Rat}(hj:m[j]?=some l):∃i o c e rw u,Zkp v=some (i,o)∧i<N∧h.get i=some (.cells c e rw)∧c[o+j]?=some u∧Tx h N u l:=by
 obtain⟨us,h1,h2,h3⟩:=s
 obtain⟨u,g1,g2⟩:=h3 j l hj
 obtain⟨i,o,c,e,rw,q1,q2,q3,q4⟩:=h1.at g1
 exact⟨i,o,c,e,rw,u,q1,q2,q3,q4,g2⟩
variable {N:Nat} {h h':T O} {l:List Rat} {m:List (List Rat)} {u v:V} {w:List Nat}
set_option maxHeartbeats 1000000
def TxT(h:T O)(N:Nat)(u:V)(l:List Rat):Prop:=Tx h N u l∧∀i∈Zcl u,∃z w,h.get i=some (.cells z 36 w)
theorem Zof{l:List V}(s:Sl h N v l):∀i∈Zcl v,i<N:=fun i hi=>by
 rcases s with⟨_,rfl|rfl⟩|⟨j,o,cp,c,e,rw,rfl,hj,_⟩
 ·simp[Zcl]at hi
 ·simp[Zcl]at hi
 ·simp[Zcl]at hi;omega
theorem TxT.keep{N':Nat}(s:TxT h N u l)(k:Keeps h N h' N'):TxT h' N' u l:=⟨s.1.keep k,fun i hi=>by rw[k.get i (Zof s.1 i hi)];exact s.2 i hi⟩
theorem TxT.moved{n n':Nat}{Y:V→Prop}{e:TypeId}(s:TxT h n u l)(k:Upd (fun i=>i∈Zcl v) h n h' n')(hd:Zo7 e Y h v)(he:e≠36):TxT h' n' u l:=by
 have hn:∀i∈Zcl u,i∉Zcl v:=fun i hi hc=>by
  obtain⟨z,w,hz⟩:=s.2 i hi
  obtain⟨z2,hz2,_⟩:=hd i hc
  rw[hz]at hz2
  simp at hz2
  exact he hz2.2.1.symm
 exact⟨Sl.moved s.1 k hn,fun i hi=>by rw[k.get i (Zof s.1 i hi) (hn i hi)];exact s.2 i hi⟩
theorem Zyw{N0:Nat}(s:Own 1 36 N0 h N v ((tx l).map fun y=>[y])):TxT h N v l:=by
 refine⟨Sn.one.1 s.sn,fun i hi=>?_⟩
 obtain⟨_,⟨_,rfl⟩|⟨j,rfl,_,_,hg⟩⟩:=s
 ·simp[Zcl]at hi
 ·simp[Zcl]at hi;subst hi;exact⟨_,_,hg⟩
def MtO(N0:Nat)(h:T O)(N:Nat)(v:V)(m:List (List Rat)):Prop:=∃us:List V,Own 1 23 N0 h N v (us.map fun y=>[y])∧(us=[]→v=.nilslice)∧us.length=m.length∧∀(j:Nat) (l:List Rat),m[j]?=some l→∃u,us[j]?=some u∧TxT h N u l
theorem MtO.nil{N0:Nat}:MtO N0 h N .nilslice []:=⟨[],Own.nil,fun _=>rfl,rfl,fun j l hl=>by simp at hl⟩
theorem MtO.keep{N0:Nat}{N':Nat}(s:MtO N0 h N v m)(k:Keeps h N h' N'):MtO N0 h' N' v m:=by
 obtain⟨us,h1,h2,h3,h4⟩:=s
 refine⟨us,h1.keep k,h2,h3,fun j l hl=>?_⟩
 obtain⟨u,g1,g2⟩:=h4 j l hl
 exact⟨u,g1,g2.keep k⟩
theorem MtO.txm{N0:Nat}(s:MtO N0 h N v m):TxM h N v m:=by
 obtain⟨us,h1,h2,h3,h4⟩:=s
 refine⟨us,Sn.one.1 h1.sn,h3,fun j l hl=>?_⟩
 obtain⟨u,g1,g2⟩:=h4 j l hl
 exact⟨u,g1,g2.1⟩
theorem MtO.push{N0:Nat}{x:V}(s:MtO N0 h N v m)(hu:TxT h N u l)(hN:N0≤N)(hx:Zaw ⟨h,N,w⟩ 1 x=some (1,[u]))(hm:m.length<100000):
  ∃v' h' w',Zb2 ⟨h,N,w⟩ 1 24 23 v x=some (v',⟨h',N+1,w'⟩)∧Zaa N0 w'=Zaa N0 w∧Keeps h N0 h' (N+1)∧MtO N0 h' (N+1) v' (m++[l]):=by
 obtain⟨us,h1,h2,h3,h4⟩:=s
 obtain⟨v',h',w',f1,f2,f3,f4,fD,f5⟩:=Zcy (Y:=fun _=>True) (x:=[u]) (u:=x) (bytes:=24) (w:=w) h1 (fun h0=>h2 (List.map_eq_nil_iff.1 h0)) (fun _ _ _ _=>trivial) hN (by decide) rfl hx (by rw[Yrc];omega)
 refine⟨v',h',w',f1,f2,f3,us++[u],by simpa using f5,by simp,by simp[h3],fun j r hr=>?_⟩
 by_cases hj:j<m.length
 ·rw[Ypl hj]at hr
  obtain⟨u',g1,g2⟩:=h4 j r hr
  exact⟨u',by rw[Ypl (by omega)];exact g1,g2.moved f4 fD (by simp)⟩
 ·rw[Ypr (by omega)]at hr
  cases hd:j-m.length with
  |zero=>
   rw[hd]at hr
   simp at hr
   subst hr
   exact⟨u,by rw[Ypr (by omega),h3,hd];rfl,hu.moved f4 fD (by simp)⟩
  |succ d=>rw[hd]at hr;simp at hr
theorem Ztz{N i:Nat}:∀{w:List Nat},i∈w→i<N→i∈Zaa N w
 |[],h,_=>by simp at h
 |j::w,h,hi=>by
  simp only[Zaa]
  rcases Ypy.1 h with rfl|h
  ·rw[Yo4 hi]
   unfold Ze9
   split
   ·rename_i hc;simpa using hc
   ·exact Ypw
  ·have:=Ztz h hi
   split
   ·unfold Ze9
    split
    ·exact this
    ·exact Ypo _ this
   ·exact this
theorem Yc4{n1:Nat}{w':List Nat}(h:Zaa n1 w'=Zaa n1 w)(hN:N≤n1)(hw:Zaa N w=[]):Zaa N w'=[]:=by
 apply List.eq_nil_iff_forall_not_mem.2
 intro i hi
 obtain⟨h1,h2⟩:=Zh6 hi
 have h3:=Ztz h1 (show i<n1 by omega)
 rw[h]at h3
 have h4:=Ztz (Zh6 h3).1 h2
 rw[hw]at h4
 simp at h4
theorem Zp2(h:Zaa N w=[]):∀i∈w,N≤i:=fun i hi=>by
 apply Yqv
 intro hc
 have:=Ztz hi hc
 rw[h]at this
 simp at this
theorem Yhc{n:Nat}{a b:List Nat}(ha:Zaa N a=[])(hb:Zaa N b=[]):Zaa N (Zaa n a++b)=[]:=Zj0 fun i hi=>by
 rcases Yp2.1 hi with hi|hi
 ·exact Zp2 ha i (Zh6 hi).1
 ·exact Zp2 hb i hi
def Zxs(m:List (List Rat))(k:Nat):List Rat:=m.map fun r=>r[k]?.getD 0
theorem Yel{k t:Nat}{r:List Rat}{q:Rat}(h:m[t]?=some r)(hq:r[k]?=some q):Zxs (m.take (t+1)) k=Zxs (m.take t) k++[q]:=by
 unfold Zxs
 rw[Yrs,h]
 simp[hq]
variable {N n:Nat} {h:T O} {m:List (List Str)} {v:V} {w:List Nat}
def A.lb9_0:Zae:=.seq (sr [mv 20 5,mv 21 0,ln 22 21,bi 23 .lss 20 22]
 (cd 23
 (.skip)
 (.exit 0)))
 (.seq (.block 1 (sr [mv 26 0,mv 27 5,ia 28 1 26 27,ld 29 28,⟨(some 30),.len 0 (.tmp 29),none⟩,bc 31 .gtr 30 24]
 (cd 31
 (sr [⟨(some 4),.mov (.const (.bool false)),none⟩]
 (.ret))
 (.skip))))
 (.reg [mv 24 5,bc 25 .add 24 1,mv 5 25]))
def A.b9:Zae:=sr [⟨(some 4),.mov (.const (.bool false)),none⟩]
 (.seq (sr [mv 6 0,ln 7 6,mv 8 1,bi 9 .gtr 7 8,mv 10 9,mg 11 0 10,⟨(some 12),.len 1 (.tmp 11),(some (10,true))⟩,⟨(some 13),.bin .leq (.node []) false (.tmp 12) (.const (.int .i64 64)),(some (10,true))⟩,pf 14 10 13,mv 15 14,mh 16 0 15,⟨(some 17),.len 1 (.tmp 16),(some (15,false))⟩,⟨(some 18),.bin .gtr (.node []) false (.tmp 17) (.const (.int .i64 66)),(some (15,false))⟩,pt 19 15 18]
 (cd 19
 (sr [⟨(some 4),.mov (.const (.bool false)),none⟩]
 (.ret))
 (.skip)))
 (.seq (sr [mc 5 0]
 (.block 0 (.loop A.lb9_0)))
 (sr [⟨(some 4),.mov (.const (.bool true)),none⟩]
 (.ret))))
theorem A.c9:A.F 9=some ⟨32,[.tmp 4],A.b9⟩:=by kernel_rfl
def A.k9:=@A.kk 9 _ _ _ A.c9 rfl
def A.lb8_0:Zae:=.seq (sr [mv 22 7,mv 23 0,ln 24 23,bi 25 .lss 22 24]
 (cd 25
 (.skip)
 (.exit 0)))
 (.seq (.block 1 (sr [mv 28 0,mv 29 7,ia 30 1 28 29,ld 31 30,mv 32 2,c2 33 9 31 32,⟨(some 34),.un .not (.tmp 33),none⟩]
 (cd 34
 (sr [⟨(some 6),.mov (.const (.bool false)),none⟩]
 (.ret))
 (.skip))))
 (.reg [mv 26 7,bc 27 .add 26 1,mv 7 27]))
def A.b8:Zae:=sr [⟨(some 6),.mov (.const (.bool false)),none⟩]
 (.seq (sr [mv 8 0,ln 9 8,mv 10 1,bi 11 .gtr 9 10,mv 12 11,mg 13 0 12,⟨(some 14),.len 1 (.tmp 13),(some (12,true))⟩,⟨(some 15),.bin .leq (.node []) false (.tmp 14) (.const (.int .i64 64)),(some (12,true))⟩,pf 16 12 15,mv 17 16,mh 18 0 17,⟨(some 19),.len 1 (.tmp 18),(some (17,false))⟩,⟨(some 20),.bin .gtr (.node []) false (.tmp 19) (.const (.int .i64 66)),(some (17,false))⟩,pt 21 17 20]
 (cd 21
 (sr [⟨(some 6),.mov (.const (.bool false)),none⟩]
 (.ret))
 (.skip)))
 (.seq (sr [mc 7 0]
 (.block 0 (.loop A.lb8_0)))
 (sr [⟨(some 6),.mov (.const (.bool true)),none⟩]
 (.ret))))
theorem A.c8:A.F 8=some ⟨35,[.tmp 6],A.b8⟩:=by kernel_rfl
def A.k8:=@A.kk 8 _ _ _ A.c8 rfl
def A.lb60_0:Zae:=.seq (sr [mv 11 5,mv 12 0,ln 13 12,bi 14 .lss 11 13]
 (cd 14
 (.skip)
 (.exit 0)))
 (.seq (.block 1 (.seq (.regD [mv 17 0,mv 18 5,ia 19 1 17 18,ld 20 19,mv 21 1,mv 22 5,ia 23 1 21 22,ld 24 23,⟨(some 25),.bin .neq (.prim .str) false (.tmp 20) (.tmp 24),none⟩] [0,0,3,7,0,0,48,112,255])
 (cd 25
 (sr [⟨(some 4),.mov (.const (.bool false)),none⟩]
 (.ret))
 (.skip))))
 (.reg [mv 15 5,bc 16 .add 15 1,mv 5 16]))
def A.b60:Zae:=sr [⟨(some 4),.mov (.const (.bool false)),none⟩]
 (.seq (sr [mv 6 0,ln 7 6,mv 8 1,ln 9 8,⟨(some 10),.bin .neq (.prim .int) false (.tmp 7) (.tmp 9),none⟩]
 (cd 10
 (sr [⟨(some 4),.mov (.const (.bool false)),none⟩]
 (.ret))
 (.skip)))
 (.seq (sr [mc 5 0]
 (.block 0 (.loop A.lb60_0)))
 (sr [⟨(some 4),.mov (.const (.bool true)),none⟩]
 (.ret))))
theorem A.c60:A.F 60=some ⟨26,[.tmp 4],A.b60⟩:=by kernel_rfl
def A.k60:=@A.kk 60 _ _ _ A.c60 rfl
theorem Ygn{u:V}{l:List Str}(hu:Sl h N u (strs l))(hv:Sl h N v (strs l))(hl:l.length<100000):A.C.call (.func 60 [] []) [u,v] ⟨h,N,w⟩=some (.bool true,⟨h,N,w⟩):=by
 apply Call.eq
 have l1:=hu.len
 have l2:=hv.len
 rw[Zda]at l1 l2
 rw[Zab,A.k60 (by simp)]
 simp[A.b60,l1,l2]
 refine Zaj [(4,5),(11,25)] (fun e r st=>st=⟨h,N,[]⟩∧e=.exit 0) (fun m r st=>st=⟨h,N,[]⟩∧∃k,k+m=l.length∧r.get 5=some (.int .i64 k)) l.length ?_ ?_ ?_
 ·exact⟨rfl,0,by omega,by simp⟩
 ·rintro m r _ hr hf ⟨rfl,k,hk,h5⟩
  rw[Zah]
  cases m with
  |zero=>
   obtain rfl:k=l.length:=by omega
   simp[A.lb60_0,hr,hf,h5,l1]
  |succ m=>
   have hlt:k<l.length:=by omega
   obtain⟨s,hs⟩:=Zaf hlt
   obtain⟨i,o,c,e,rw,q1,q2,q3,q4⟩:=hu.at (Zg6 hs)
   obtain⟨i',o',c',e',rw',p1,p2,p3,p4⟩:=hv.at (Zg6 hs)
   have hk1:(k:Int)<(l.length:Int):=by omega
   simp(disch:=first|(simp;done)|omega|rfl) [A.lb60_0,hr,hf,h5,l1,l2,hk1,q1,q2,q3,q4,p1,p2,p3,p4,Zbm]
   exact⟨m,by omega,k+1,by omega,by simp⟩
 ·rintro _ r _ hr ⟨rfl,rfl⟩
  simp
def Zmv(s:Str):Bool:=decide (s.length≤24)
def Zga(k n:Nat):Bool:=decide (k≤n∨64<k∧k≤66)
def Zbr(n:Nat)(l:List Str):Bool:=Zga l.length n&&l.all Zmv
theorem Zua{k:Nat}(h:Zga k n=true)(hn:n<64):k≤66:=by
 simp[Zga]at h
 omega
theorem Zpn{l:List Str}(hs:Sl h N v (strs l))(hl:l.length<9223372036854775808)(hn:n<64):A.C.call (.func 9 [] []) [v,.int .i64 n] ⟨h,N,w⟩=some (.bool (Zbr n l),⟨h,N,w⟩):=by
 apply Call.eq
 have lg:=hs.len
 rw[Zda]at lg
 rw[Zab,A.k9 (by simp)]
 have fin:Zga l.length n=true→Zbr n l=l.all Zmv:=fun h=>by simp[Zbr,h]
 by_cases c1:l.length≤n
 ·rw[fin (by simp[Zga,c1])]
  have a1:¬(n:Int)<(l.length:Int):=by omega
  have a2:¬66<(l.length:Int):=by omega
  simp[A.b9,lg,a1,a2]
  refine Zaj [(4,5),(20,31)] (fun e r st=>st=⟨h,N,[]⟩∧((e=.exit 0∧l.all Zmv=true)∨(e=.ret∧l.all Zmv=false∧r.get 4=some (.bool false)))) (fun m r st=>st=⟨h,N,[]⟩∧∃k,k+m=l.length∧r.get 5=some (.int .i64 k)∧l.all Zmv=(l.drop k).all Zmv) l.length ?_ ?_ ?_
  ·exact⟨rfl,0,by omega,by simp,by simp⟩
  ·rintro m r _ hr hf ⟨rfl,k,hk,hx,hz⟩
   rw[Zah]
   cases m with
   |zero=>
    obtain rfl:k=l.length:=by omega
    rw[Yp6,List.all_nil]at hz
    simp[A.lb9_0,hr,hf,hx,lg,hz]
   |succ m=>
    have hlt:k<l.length:=by omega
    have hk1:(k:Int)<(l.length:Int):=by omega
    obtain⟨s,hc⟩:=Zaf hlt
    obtain⟨i,o,cc,e,rw,q1,q2,q3,q4⟩:=hs.at (Zg6 hc)
    rw[Zas hc,List.all_cons]at hz
    by_cases c4:Zmv s=true
    ·rw[c4,Bool.true_and]at hz
     have c6:¬24<(s.length:Int):=by simp[Zmv]at c4;omega
     simp(disch:=first|(simp;done)|omega|rfl) [A.lb9_0,hr,hf,hx,lg,hk1,q1,q3,q4,c6]
     exact⟨m,by omega,k+1,by omega,by simp,hz⟩
    ·have c5:Zmv s=false:=by simpa using c4
     rw[c5,Ysh]at hz
     have c6:24<(s.length:Int):=by simp[Zmv]at c5;omega
     simp[A.lb9_0,hr,hf,hx,lg,hk1,q1,q3,q4,c6,hz]
  ·rintro e r _ hr ⟨rfl,⟨rfl,hq⟩|⟨rfl,hq,h2⟩⟩
   ·simp[hq]
   ·simp[hq,h2]
 ·have a1:(n:Int)<(l.length:Int):=by omega
  have a1':n<l.length:=by omega
  by_cases c2:l.length≤64
  ·have a3:(l.length:Int)≤64:=by omega
   have e1:Zbr n l=false:=by simp[Zbr,Zga,c1];omega
   simp[A.b9,lg,a1,a3,e1]
  ·have a3:¬(l.length:Int)≤64:=by omega
   by_cases c3:66<l.length
   ·have a4:66<(l.length:Int):=by omega
    have e1:Zbr n l=false:=by simp[Zbr,Zga,c1];omega
    simp[A.b9,lg,a1,a3,a4,e1]
   ·have a4:¬66<(l.length:Int):=by omega
    rw[fin (by simp[Zga];omega)]
    simp[A.b9,lg,a1,a3,a4]
    refine Zaj [(4,5),(20,31)] (fun e r st=>st=⟨h,N,[]⟩∧((e=.exit 0∧l.all Zmv=true)∨(e=.ret∧l.all Zmv=false∧r.get 4=some (.bool false)))) (fun m r st=>st=⟨h,N,[]⟩∧∃k,k+m=l.length∧r.get 5=some (.int .i64 k)∧l.all Zmv=(l.drop k).all Zmv) l.length ?_ ?_ ?_
    ·exact⟨rfl,0,by omega,by simp,by simp⟩
    ·rintro m r _ hr hf ⟨rfl,k,hk,hx,hz⟩
     rw[Zah]
     cases m with
     |zero=>
      obtain rfl:k=l.length:=by omega
      rw[Yp6,List.all_nil]at hz
      simp[A.lb9_0,hr,hf,hx,lg,hz]
     |succ m=>
      have hlt:k<l.length:=by omega
      have hk1:(k:Int)<(l.length:Int):=by omega
      obtain⟨s,hc⟩:=Zaf hlt
      obtain⟨i,o,cc,e,rw,q1,q2,q3,q4⟩:=hs.at (Zg6 hc)
      rw[Zas hc,List.all_cons]at hz
      by_cases c4:Zmv s=true
      ·rw[c4,Bool.true_and]at hz
       have c6:¬24<(s.length:Int):=by simp[Zmv]at c4;omega
       simp(disch:=first|(simp;done)|omega|rfl) [A.lb9_0,hr,hf,hx,lg,hk1,q1,q3,q4,c6]
       exact⟨m,by omega,k+1,by omega,by simp,hz⟩
      ·have c5:Zmv s=false:=by simpa using c4
       rw[c5,Ysh]at hz
       have c6:24<(s.length:Int):=by simp[Zmv]at c5;omega
       simp[A.lb9_0,hr,hf,hx,lg,hk1,q1,q3,q4,c6,hz]
    ·rintro e r _ hr ⟨rfl,⟨rfl,hq⟩|⟨rfl,hq,h2⟩⟩
     ·simp[hq]
     ·simp[hq,h2]
def MtS(h:T O)(N:Nat)(v:V)(m:List (List Str)):Prop:=∃us:List V,Sl h N v us∧us.length=m.length∧∀(j:Nat) (l:List Str),m[j]?=some l→∃u,us[j]?=some u∧Sl h N u (strs l)
theorem MtS.keep{h':T O}{N':Nat}(s:MtS h N v m)(k:Keeps h N h' N'):MtS h' N' v m:=by
 obtain⟨us,h1,h2,h3⟩:=s
 refine⟨us,h1.keep k,h2,fun j l hl=>?_⟩
 obtain⟨u,g1,g2⟩:=h3 j l hl
 exact⟨u,g1,g2.keep k⟩
theorem MtS.len(s:MtS h N v m):Zl4 v=some m.length:=by
 obtain⟨us,h1,h2,_⟩:=s
 rw[h1.len,h2]
theorem MtS.at(s:MtS h N v m){j:Nat}{l:List Str}(hj:m[j]?=some l):∃i o c e rw u,Zkp v=some (i,o)∧i<N∧h.get i=some (.cells c e rw)∧c[o+j]?=some u∧Sl h N u (strs l):=by
 obtain⟨us,h1,h2,h3⟩:=s
 obtain⟨u,g1,g2⟩:=h3 j l hj
 obtain⟨i,o,c,e,rw,q1,q2,q3,q4⟩:=h1.at g1
 exact⟨i,o,c,e,rw,u,q1,q2,q3,q4,g2⟩
theorem MtS.txm{m:List (List Rat)}(s:MtS h N v (m.map fun l=>l.map Zax)):TxM h N v m:=by
 obtain⟨us,h1,h2,h3⟩:=s
 refine⟨us,h1,by simpa using h2,fun j l hl=>?_⟩
 exact h3 j (l.map Zax) (by simp[hl])
def Zen(r c:Nat)(m:List (List Str)):Bool:=Zga m.length r&&m.all (Zbr c)
theorem Yb7{l:List (List Str)}{p:Nat}(hs:MtS h N v l)(hl:l.length<9223372036854775808)(hx0:∀x∈l,x.length<9223372036854775808)(hn:n<64)(hp:p<64):A.C.call (.func 8 [] []) [v,.int .i64 n,.int .i64 p] ⟨h,N,w⟩=some (.bool (Zen n p l),⟨h,N,w⟩):=by
 apply Call.eq
 have lg:=hs.len
 rw[Zab,A.k8 (by simp)]
 have fin:Zga l.length n=true→Zen n p l=l.all (Zbr p):=fun h=>by simp[Zen,h]
 by_cases c1:l.length≤n
 ·rw[fin (by simp[Zga,c1])]
  have a1:¬(n:Int)<(l.length:Int):=by omega
  have a2:¬66<(l.length:Int):=by omega
  simp[A.b8,lg,a1,a2]
  refine Zaj [(6,7),(22,34)] (fun e r st=>st=⟨h,N,[]⟩∧((e=.exit 0∧l.all (Zbr p)=true)∨(e=.ret∧l.all (Zbr p)=false∧r.get 6=some (.bool false)))) (fun m r st=>st=⟨h,N,[]⟩∧∃k,k+m=l.length∧r.get 7=some (.int .i64 k)∧l.all (Zbr p)=(l.drop k).all (Zbr p)) l.length ?_ ?_ ?_
  ·exact⟨rfl,0,by omega,by simp,by simp⟩
  ·rintro m r _ hr hf ⟨rfl,k,hk,hx,hz⟩
   rw[Zah]
   cases m with
   |zero=>
    obtain rfl:k=l.length:=by omega
    rw[Yp6,List.all_nil]at hz
    simp[A.lb8_0,hr,hf,hx,lg,hz]
   |succ m=>
    have hlt:k<l.length:=by omega
    have hk1:(k:Int)<(l.length:Int):=by omega
    obtain⟨s,hc⟩:=Zaf hlt
    obtain⟨i,o,cc,e,rw,u,q1,q2,q3,q4,q5⟩:=hs.at hc
    have hsl:=fun w=>Zpn (w:=w) q5 (hx0 s (Yo3 hc)) hp
    rw[Zas hc,List.all_cons]at hz
    by_cases c4:(Zbr p) s=true
    ·rw[c4,Bool.true_and]at hz
     simp(disch:=first|(simp;done)|omega|rfl) [A.lb8_0,hr,hf,hx,lg,hk1,q1,q3,q4,hsl,c4]
     exact⟨m,by omega,k+1,by omega,by simp,hz⟩
    ·have c5:(Zbr p) s=false:=by simpa using c4
     rw[c5,Ysh]at hz
     simp[A.lb8_0,hr,hf,hx,lg,hk1,q1,q3,q4,hsl,c5,hz]
  ·rintro e r _ hr ⟨rfl,⟨rfl,hq⟩|⟨rfl,hq,h2⟩⟩
   ·simp[hq]
   ·simp[hq,h2]
 ·have a1:(n:Int)<(l.length:Int):=by omega
  have a1':n<l.length:=by omega
  by_cases c2:l.length≤64
  ·have a3:(l.length:Int)≤64:=by omega
   have e1:Zen n p l=false:=by simp[Zen,Zga,c1];omega
   simp[A.b8,lg,a1,a3,e1]
  ·have a3:¬(l.length:Int)≤64:=by omega
   by_cases c3:66<l.length
   ·have a4:66<(l.length:Int):=by omega
    have e1:Zen n p l=false:=by simp[Zen,Zga,c1];omega
    simp[A.b8,lg,a1,a3,a4,e1]
   ·have a4:¬66<(l.length:Int):=by omega
    rw[fin (by simp[Zga];omega)]
    simp[A.b8,lg,a1,a3,a4]
    refine Zaj [(6,7),(22,34)] (fun e r st=>st=⟨h,N,[]⟩∧((e=.exit 0∧l.all (Zbr p)=true)∨(e=.ret∧l.all (Zbr p)=false∧r.get 6=some (.bool false)))) (fun m r st=>st=⟨h,N,[]⟩∧∃k,k+m=l.length∧r.get 7=some (.int .i64 k)∧l.all (Zbr p)=(l.drop k).all (Zbr p)) l.length ?_ ?_ ?_
    ·exact⟨rfl,0,by omega,by simp,by simp⟩
    ·rintro m r _ hr hf ⟨rfl,k,hk,hx,hz⟩
     rw[Zah]
     cases m with
     |zero=>
      obtain rfl:k=l.length:=by omega
      rw[Yp6,List.all_nil]at hz
      simp[A.lb8_0,hr,hf,hx,lg,hz]
     |succ m=>
      have hlt:k<l.length:=by omega
      have hk1:(k:Int)<(l.length:Int):=by omega
      obtain⟨s,hc⟩:=Zaf hlt
      obtain⟨i,o,cc,e,rw,u,q1,q2,q3,q4,q5⟩:=hs.at hc
      have hsl:=fun w=>Zpn (w:=w) q5 (hx0 s (Yo3 hc)) hp
      rw[Zas hc,List.all_cons]at hz
      by_cases c4:(Zbr p) s=true
      ·rw[c4,Bool.true_and]at hz
       simp(disch:=first|(simp;done)|omega|rfl) [A.lb8_0,hr,hf,hx,lg,hk1,q1,q3,q4,hsl,c4]
       exact⟨m,by omega,k+1,by omega,by simp,hz⟩
      ·have c5:(Zbr p) s=false:=by simpa using c4
       rw[c5,Ysh]at hz
       simp[A.lb8_0,hr,hf,hx,lg,hk1,q1,q3,q4,hsl,c5,hz]
    ·rintro e r _ hr ⟨rfl,⟨rfl,hq⟩|⟨rfl,hq,h2⟩⟩
     ·simp[hq]
     ·simp[hq,h2]
variable {N:Nat} {h:T O} {v:V}
def A.lb92_0:Zae:=.seq (sr [mv 5 3,mv 6 0,ln 7 6,bi 8 .lss 5 7]
 (cd 8
 (.skip)
 (.exit 0)))
 (.seq (.block 1 (sr [mv 11 0,mv 12 3,ia 13 1 11 12,ld 14 13,c1 15 93 14,mv 4 15]
 (sr [mv 16 4,ni 17 16 0]
 (cd 17
 (sr [mv 18 4,mv 2 18]
 (.ret))
 (.skip)))))
 (.reg [mv 9 3,bc 10 .add 9 1,mv 3 10]))
def A.b92:Zae:=sr [mc 2 0]
 (.seq (sr [mc 3 0]
 (.block 0 (.loop A.lb92_0)))
 (sr [mc 2 0]
 (.ret)))
theorem A.c92:A.F 92=some ⟨19,[.tmp 2],A.b92⟩:=by kernel_rfl
def A.k92:=@A.kk 92 _ _ _ A.c92 rfl
def A.b16:Zae:=sr [mc 4 0]
 (.seq (sr [mv 5 0,ln 6 5,mv 7 1,⟨(some 8),.bin .neq (.prim .int) false (.tmp 6) (.tmp 7),none⟩]
 (cd 8
 (sr [mc 4 2]
 (.ret))
 (.skip)))
 (sr [mv 9 0,c1 10 92 9,mv 4 10]
 (.ret)))
theorem A.c16:A.F 16=some ⟨11,[.tmp 4],A.b16⟩:=by kernel_rfl
def A.k16:=@A.kk 16 _ _ _ A.c16 rfl
def A.lb14_0:Zae:=.seq (sr [mv 31 7,mv 32 0,ln 33 32,bi 34 .lss 31 33]
 (cd 34
 (.skip)
 (.exit 0)))
 (.seq (.block 1 (.seq (.regD [mv 37 0,mv 38 7,ia 39 1 37 38,ld 40 39,mv 41 0,⟨(some 42),.iaddrSl 1 (.tmp 41) (.const (.int .i64 0)),none⟩,ld 43 42,ln 44 43,c2 45 16 40 44,mv 8 45] [0,0,3,7,0,16,48,112,255,511])
 (sr [mv 46 8,ni 47 46 0]
 (cd 47
 (sr [mv 48 8,mv 6 48]
 (.ret))
 (.skip)))))
 (.reg [mv 35 7,bc 36 .add 35 1,mv 7 36]))
def A.b14:Zae:=sr [mc 6 0]
 (.seq (sr [mv 9 0,ln 10 9,ei 11 10 0,mv 12 11,mh 13 0 12,⟨(some 14),.iaddrSl 1 (.tmp 13) (.const (.int .i64 0)),(some (12,false))⟩,⟨(some 15),.load none (.tmp 14),(some (12,false))⟩,⟨(some 16),.len 1 (.tmp 15),(some (12,false))⟩,⟨(some 17),.bin .eql (.prim .int) true (.tmp 16) (.const (.int .i64 0)),(some (12,false))⟩,pt 18 12 17]
 (cd 18
 (sr [mc 6 12]
 (.ret))
 (.skip)))
 (.seq (sr [mv 19 0,ln 20 19,mv 21 1,bi 22 .gtr 20 21,mv 23 22,mh 24 0 23,⟨(some 25),.iaddrSl 1 (.tmp 24) (.const (.int .i64 0)),(some (23,false))⟩,⟨(some 26),.load none (.tmp 25),(some (23,false))⟩,⟨(some 27),.len 1 (.tmp 26),(some (23,false))⟩,mh 28 2 23,⟨(some 29),.bin .gtr (.node []) false (.tmp 27) (.tmp 28),(some (23,false))⟩,pt 30 23 29]
 (cd 30
 (sr [mc 6 5]
 (.ret))
 (.skip)))
 (.seq (sr [mc 7 0]
 (.block 0 (.loop A.lb14_0)))
 (sr [mc 6 0]
 (.ret)))))
theorem A.c14:A.F 14=some ⟨49,[.tmp 6],A.b14⟩:=by kernel_rfl
def A.k14:=@A.kk 14 _ _ _ A.c14 rfl
def A.b15:Zae:=sr [mc 2 0]
 (.seq (sr [mv 3 0,ln 4 3,ei 5 4 0]
 (cd 5
 (sr [mc 2 12]
 (.ret))
 (.skip)))
 (.seq (sr [mv 6 0,ln 7 6,bc 8 .gtr 7 16]
 (cd 8
 (sr [mc 2 5]
 (.ret))
 (.skip)))
 (.seq (sr [mv 9 0,⟨(some 10),.iaddrSl 1 (.tmp 9) (.const (.int .i64 0)),none⟩,ld 11 10,ln 12 11,ei 13 12 0]
 (cd 13
 (sr [mc 2 12]
 (.ret))
 (.skip)))
 (.seq (sr [mv 14 0,⟨(some 15),.iaddrSl 1 (.tmp 14) (.const (.int .i64 0)),none⟩,ld 16 15,ln 17 16,bc 18 .gtr 17 16]
 (cd 18
 (sr [mc 2 5]
 (.ret))
 (.skip)))
 (sr [mv 19 0,mv 20 0,⟨(some 21),.iaddrSl 1 (.tmp 20) (.const (.int .i64 0)),none⟩,ld 22 21,ln 23 22,c2 24 91 19 23,mv 2 24]
 (.ret))))))
theorem A.c15:A.F 15=some ⟨25,[.tmp 2],A.b15⟩:=by kernel_rfl
def A.k15:=@A.kk 15 _ _ _ A.c15 rfl
theorem Yi1{l:List Str}(hs:Sl h N v (strs l))(hl:l.length<100000)(hf0:∀s∈l,s.length≤100000):Fn A.C 92 [v] h N (fun u _ _=>u=.int .i64 (Zau (l.map fun s=>((chkNum s:Nat):Int)))):=by
 intro w
 have hlen:=hs.len
 rw[Zda]at hlen
 rw[Zab,A.k92 (by simp)]
 simp[A.b92]
 refine Zaj [(2,18)] (fun e r st=>Zaa N st.w=[]∧Keeps h N st.h st.n∧((e=.exit 0∧Zau (l.map fun s=>((chkNum s:Nat):Int))=0)∨(e=.ret∧r.get 2=some (.int .i64 (Zau (l.map fun s=>((chkNum s:Nat):Int))))))) (fun m r st=>Zaa N st.w=[]∧Keeps h N st.h st.n∧∃k,k+m=l.length∧r.get 3=some (.int .i64 k)∧Zau (l.map fun s=>((chkNum s:Nat):Int))=Zau ((l.drop k).map fun s=>((chkNum s:Nat):Int))) l.length ?_ ?_ ?_
 ·exact⟨by simp,Keeps.refl,0,by omega,by simp,by simp⟩
 ·rintro m r ⟨H,n1,W⟩ hr hf ⟨hW,hK,k,hk,h7,hz⟩
  simp only at hW hK
  rw[Zah]
  cases m with
  |zero=>
   obtain rfl:k=l.length:=by omega
   rw[Yp6,Yrh,Zau]at hz
   simp[A.lb92_0,hr,hf,h7,hlen,hz,hW,hK]
  |succ m=>
   have hlt:k<l.length:=by omega
   obtain⟨s,hc⟩:=Zaf hlt
   obtain⟨i,o,cc,e,rw,q1,q2,q3,q4⟩:=(hs.keep hK).at (Zg6 hc)
   rw[Zas hc,Yqg,Zau]at hz
   have hk1:(k:Int)<(l.length:Int):=by omega
   simp[A.lb92_0,hr,h7,hk1,hlen,q1,q3,q4]
   refine Zac (Zyr (hf0 s (Yo3 hc))) ?_
   rintro _ h3 n3 k3 rfl
   have kk:=hK.trans k3
   by_cases h0:chkNum s=0
   ·rw[Yo4 (by omega)]at hz
    simp(disch:=first|(simp;done)|omega|rfl) [hf,h7,h0,hW]
    exact⟨m,by omega,kk,k+1,by omega,by simp,by simpa using hz⟩
   ·rw[Yo0 (by omega)]at hz
    have h0':¬((chkNum s:Nat):Int)=0:=by omega
    simp[hf,h0,hW,hz]
    exact kk
 ·rintro _ r ⟨H,n1,W⟩ hr ⟨hW,hK,⟨rfl,hz⟩|⟨rfl,h2⟩⟩
  ·simp only at hW hK
   simp[hz,Ret,hW,hK]
  ·simp only at hW hK
   simp[h2,Ret,hW,hK]
def Ze4(l:List Str)(n:Nat):Int:=if l.length=n then Zau (l.map fun s=>((chkNum s:Nat):Int)) else 2
def hdL(l:List (List Str)):Nat:=(l[0]?.getD []).length
def Zmh(l:List (List Str))(r c:Nat):Int:=if l.length=0∨hdL l=0 then 12 else if r<l.length∨c<hdL l then 5 else Zau (l.map fun x=>Ze4 x (hdL l))
theorem Yen{l:List Str}{n:Nat}(hs:Sl h N v (strs l))(hl:l.length<100000)(hf0:∀s∈l,s.length≤100000):Fn A.C 16 [v,.int .i64 n] h N (fun u _ _=>u=.int .i64 (Ze4 l n)):=by
 intro w
 have hlen:=hs.len
 rw[Zda]at hlen
 rw[Zab,A.k16 (by simp)]
 by_cases c:l.length=n
 ·subst c
  simp[A.b16,hlen]
  refine Zac (Yi1 hs hl hf0) ?_
  rintro _ H2 n2 k2 rfl
  simp[Ret,Ze4]
  exact k2
 ·have c':¬(l.length:Int)=(n:Int):=by omega
  simp[A.b16,hlen,c',Ze4,c,Ret]
  exact Keeps.refl
theorem Yi4{l:List (List Str)}{a b:Nat}(hs:MtS h N v l)(hl:l.length<100000)(hx:∀x∈l,x.length<100000∧∀s∈x,s.length≤100000):Fn A.C 14 [v,.int .i64 a,.int .i64 b] h N (fun u _ _=>u=.int .i64 (Zmh l a b)):=by
 intro w
 have hlen:=hs.len
 rw[Zab,A.k14 (by simp)]
 by_cases c0:l.length=0
 ·have c0':(l.length:Int)=0:=by omega
  simp[A.b14,hlen,c0,Zmh,Ret]
  exact Keeps.refl
 have c0':¬(l.length:Int)=0:=by omega
 have cpos:0<l.length:=by omega
 have cpos':0<(l.length:Int):=by omega
 obtain⟨l0,hl0⟩:=Zaf cpos
 obtain⟨i0,o0,cc0,e0,rw0,u0,z1,z2,z3,z4,z5⟩:=hs.at hl0
 have z6:=z5.len
 rw[Zda]at z6
 rw[Yqd]at z4
 obtain⟨n,hn⟩:∃n,n=l0.length:=⟨_,rfl⟩
 have en:hdL l=n:=by simp[hdL,hl0,hn]
 rw[←hn]at z6
 have hn1:n<100000:=by have:=(hx l0 (Yo3 hl0)).1;omega
 by_cases c1:n=0
 ·have c1':(n:Int)=0:=by omega
  simp[A.b14,hlen,c0,cpos,z1,z3,z4,z6,c1,Zmh,en,Ret]
  exact Keeps.refl
 have c1':¬(n:Int)=0:=by omega
 by_cases c2:a<l.length
 ·have c2':(a:Int)<(l.length:Int):=by omega
  simp[A.b14,hlen,c0,cpos,z1,z3,z4,z6,c1,c2,c2',Zmh,en,Ret]
  exact Keeps.refl
 have c2':¬(a:Int)<(l.length:Int):=by omega
 by_cases c3:b<n
 ·have c3':(b:Int)<(n:Int):=by omega
  simp[A.b14,hlen,c0,cpos,z1,z3,z4,z6,c1,c2,c2',c3,c3',Zmh,en,Ret]
  exact Keeps.refl
 ·have c3':¬(b:Int)<(n:Int):=by omega
  have e1:Zmh l a b=Zau (l.map fun x=>Ze4 x n):=by simp[Zmh,en,c0,c1,c2,c3]
  rw[e1]
  simp[A.b14,hlen,c0,cpos,z1,z3,z4,z6,c1,c2',c3']
  refine Zaj [(6,8),(31,48)] (fun e r st=>Zaa N st.w=[]∧Keeps h N st.h st.n∧((e=.exit 0∧Zau (l.map fun x=>Ze4 x n)=0)∨(e=.ret∧r.get 6=some (.int .i64 (Zau (l.map fun x=>Ze4 x n)))))) (fun m r st=>Zaa N st.w=[]∧Keeps h N st.h st.n∧∃k,k+m=l.length∧r.get 7=some (.int .i64 k)∧Zau (l.map fun x=>Ze4 x n)=Zau ((l.drop k).map fun x=>Ze4 x n)) l.length ?_ ?_ ?_
  ·exact⟨by simp,Keeps.refl,0,by omega,by simp,by simp⟩
  ·rintro m r ⟨H,n1,W⟩ hr hf ⟨hW,hK,k,hk,h7,hz⟩
   simp only at hW hK
   rw[Zah]
   cases m with
   |zero=>
    obtain rfl:k=l.length:=by omega
    rw[Yp6,Yrh,Zau]at hz
    simp[A.lb14_0,hr,hf,h7,hlen,hz,hW,hK]
   |succ m=>
    have hlt:k<l.length:=by omega
    obtain⟨s,hc⟩:=Zaf hlt
    obtain⟨i,o,cc,e,rw,u,q1,q2,q3,q4,q5⟩:=(hs.keep hK).at hc
    rw[Zas hc,Yqg,Zau]at hz
    have hk1:(k:Int)<(l.length:Int):=by omega
    obtain⟨i1,o1,cc1,e1,rw1,u1,y1,y2,y3,y4,y5⟩:=(hs.keep hK).at hl0
    have y6:=y5.len
    rw[Zda,←hn]at y6
    rw[Yqd]at y4
    obtain⟨rfl,rfl⟩:i=i1∧o=o1:=by rw[q1]at y1;simpa using y1
    obtain⟨rfl,rfl,rfl⟩:cc=cc1∧e=e1∧rw=rw1:=by rw[q3]at y3;simpa using y3
    simp[A.lb14_0,hr,h7,hk1,hlen,q1,q2,q3,q4,cpos,y4,y6]
    refine Zac (Yen q5 (hx s (Yo3 hc)).1 (hx s (Yo3 hc)).2) ?_
    rintro _ h3 n3 k3 rfl
    have kk:=hK.trans k3
    by_cases h0:Ze4 s n=0
    ·rw[Yo4 h0]at hz
     simp(disch:=first|(simp;done)|omega|rfl) [hf,h7,h0,hW]
     exact⟨m,by omega,kk,k+1,by omega,by simp,by simpa using hz⟩
    ·rw[Yo0 h0]at hz
     simp[hf,h0,hW,hz]
     exact kk
  ·rintro _ r ⟨H,n1,W⟩ hr ⟨hW,hK,⟨rfl,hz⟩|⟨rfl,h2⟩⟩
   ·simp only at hW hK
    simp[hz,Ret,hW,hK]
   ·simp only at hW hK
    simp[h2,Ret,hW,hK]
end Go.Mx
