/-num-/
import Derived.Test.YthekjfgljafnaaaGreatDoorNdA
set_option linter.all false
namespace Go.Mx
open Go Go.Proofs
variable {N:Nat} {h:T O} {l:List Rat} {v:V}
set_option maxHeartbeats 1000000
set_option maxRecDepth 1000000
noncomputable def A.w52:=A.q Tryz.f52
noncomputable def A.lb52_0:=A.ql A.w52 0 []
noncomputable def A.b52:=(fun x0=>A.qb A.w52 [x0]) A.lb52_0
def A.k52:=@A.kk 52 23 [.tmp 2] A.b52 (by kernel_rfl) rfl
noncomputable def A.w128:=A.q Tryz.f128
noncomputable def A.lb128_0:=A.ql A.w128 0 []
noncomputable def A.b128:=(fun x0=>A.qb A.w128 [x0]) A.lb128_0
def A.k128:=@A.kk 128 23 [.tmp 2] A.b128 (by kernel_rfl) rfl
def FcC(h:T O)(N:Nat)(c:List V)(q:Rat):Prop:=∃n1 u1 n2 u2,c=[.int .i64 n1,u1,.int .i64 n2,u2]∧In h N (.agg [.int .i64 n1,u1]) q.num∧In h N (.agg [.int .i64 n2,u2]) (q.den:Int)
def FcC.keep{h':T O}{N':Nat}{c:List V}{q:Rat}(s:FcC h N c q)(k:Keeps h N h' N'):FcC h' N' c q:=by
 obtain⟨n1,u1,n2,u2,rfl,s1,s2⟩:=s
 exact⟨n1,u1,n2,u2,rfl,s1.keep k,s2.keep k⟩
def FcC.fc{c:List V}{q:Rat}(s:FcC h N c q):Fc h N (.agg c) q:=by
 obtain⟨n1,u1,n2,u2,rfl,s1,s2⟩:=s
 exact⟨n1,u1,n2,u2,rfl,s1,s2⟩
def Fc.c{x:V}{q:Rat}(s:Fc h N x q):∃c,x=.agg c∧FcC h N c q:=by
 obtain⟨n1,u1,n2,u2,rfl,s1,s2⟩:=s
 exact⟨_,rfl,n1,u1,n2,u2,rfl,s1,s2⟩
def NoU(c:List V):Prop:=∀x∈c,∀m,x≠.int .u64 m
def Zxf{n:Int}{u:V}{z:Int}(s:In h N (.agg [.int .i64 n,u]) z):∀m,u≠.int .u64 m:=by
 rcases s with⟨h1,_⟩|⟨i,o,l,c,h1,_⟩
 ·simp at h1;rw[h1.2];simp
 ·simp at h1;rw[h1.2];simp
def FcC.noU{c:List V}{q:Rat}(s:FcC h N c q):NoU c:=by
 obtain⟨n1,u1,n2,u2,rfl,s1,s2⟩:=s
 intro x hx m
 simp at hx
 rcases hx with rfl|rfl|rfl|rfl
 ·simp
 ·exact Zxf s1 m
 ·simp
 ·exact Zxf s2 m
def FcC.len{c:List V}{q:Rat}(s:FcC h N c q):c.length=4∧c.all V.one=true:=by
 obtain⟨n1,u1,n2,u2,rfl,s1,s2⟩:=s
 have o1:=Za1 s1
 have o2:=Za1 s2
 exact⟨rfl,by simp only[List.all_cons,List.all_nil,o1,o2,Bool.and_true];rfl⟩
def FcC.setNU{i:Nat}{c c0 c1:List V}{q:Rat}{e0 e1:TypeId}{w0 w1:Bool}(s:FcC h N c q)(g:h.get i=some (.cells c0 e0 w0))(hn:NoU c0)(hc:c1.length=c0.length):FcC (h.set i (.cells c1 e1 w1)) N c q:=by
 obtain⟨n1,u1,n2,u2,rfl,s1,s2⟩:=s
 exact⟨n1,u1,n2,u2,rfl,s1.setNU g hn hc,s2.setNU g hn hc⟩
def FrS(h:T O)(N:Nat)(v:V)(l:List Rat):Prop:=∃cs:List (List V),Sn 4 h N v cs∧cs.length=l.length∧∀(j:Nat) (q:Rat),l[j]?=some q→∃c,cs[j]?=some c∧FcC h N c q
def FrS.keep{h':T O}{N':Nat}(s:FrS h N v l)(k:Keeps h N h' N'):FrS h' N' v l:=by
 obtain⟨cs,h1,h2,h3⟩:=s
 refine⟨cs,h1.keep k,h2,fun j q hq=>?_⟩
 obtain⟨c,g1,g2⟩:=h3 j q hq
 exact⟨c,g1,g2.keep k⟩
def FrS.len(s:FrS h N v l):Zo1 v=some l.length:=by
 obtain⟨cs,h1,h2,_⟩:=s
 rw[h1.len,h2]
def FrS.at(s:FrS h N v l){j:Nat}{q:Rat}(hj:l[j]?=some q):∃i o x e rw c,Zk3 v=some (i,o)∧i<N∧h.get i=some (.cells x e rw)∧slc x (o+j*4) 4=some c∧FcC h N c q:=by
 obtain⟨cs,h1,h2,h3⟩:=s
 obtain⟨c,h4,h5⟩:=h3 j q hj
 obtain⟨i,o,x,e,rw,q1,q2,q3,q4⟩:=h1.at h4
 exact⟨i,o,x,e,rw,c,q1,q2,q3,q4,h5⟩
def FrT(h:T O)(N:Nat)(v:V)(l:List Rat):Prop:=FrS h N v l∧∀i∈Zel v,∃z w,h.get i=some (.cells z 111 w)
def tx(l:List Rat):List V:=strs (l.map Zax)
def Zhc(l:List Rat):(tx l).length=l.length:=by simp[tx,strs]
def Zhj{j:Nat}{q:Rat}(h:l[j]?=some q):(tx l)[j]?=some (.str (Zax q)):=by simp[tx,strs,h]
def zF:List V:=[.int .i64 0,.nilslice,.int .i64 0,.nilslice]
def Zfm{z:List V}{n:Nat}:Zck z (n+1)=z++Zck z n:=by
 unfold Zck
 rw[Nat.succ_mul,Nat.add_comm (n*z.length),List.range_add,List.map_append,List.map_map]
 congr 1
 ·apply Ywy
  intro j
  by_cases hj:j<z.length
  ·rw[Ywj,Yyo hj]
   simp[Yx5 hj,hj]
  ·rw[Ywd (by simp;omega),Ywd (by omega)]
 ·apply Yyp
  intro i _
  simp[Nat.add_mod_left]
def Zf1{a b c x:List V}{n o:Nat}(ha:a.length=o)(hb:b.length=n)(hx:x.length=n):splice (a++(b++c)) o x=a++(x++c):=by
 unfold splice
 rw[←ha,List.take_left,hx,←List.drop_drop,List.drop_left,←hb,List.drop_left,Yxf]
structure FaI (h:T O) (N:Nat) (l:List Rat) (m:Nat) (r:T V) (st:St):Prop where
 w:Zaa N st.w=[]
 keep:Keeps h N st.h st.n
 ex:∃(k:Nat) (cs:List (List V)),k+m=l.length∧r.get 11=some (.int .i64 k)∧r.get 3=some (.slice N 0 l.length (some l.length) 4)∧N<st.n∧st.h.get N=some (.cells (cs.flatten++Zck zF m) 111 true)∧cs.length=k∧∀(j:Nat) (q:Rat),j<k→l[j]?=some q→∃c,cs[j]?=some c∧FcC st.h st.n c q
def Zn4{cs:List (List V)}(hl:cs.length≤l.length)(hc:∀(j:Nat) (q:Rat),j<cs.length→l[j]?=some q→∃c,cs[j]?=some c∧FcC h N c q):(∀c∈cs,c.length=4)∧NoU cs.flatten∧cs.flatten.all V.one=true:=by
 have key:∀c∈cs,∃q,FcC h N c q:=fun c hcm=>by
  obtain⟨j,hj⟩:=Yxq hcm
  have hlt:=Zau hj
  obtain⟨q,hq⟩:=Zae (l:=l) (k:=j) (by omega)
  obtain⟨c',h1,h2⟩:=hc j q hlt hq
  rw[hj]at h1
  simp only[Yv3]at h1
  subst h1
  exact⟨q,h2⟩
 refine⟨fun c hcm=>?_,fun x hx m=>?_,?_⟩
 ·obtain⟨q,hq⟩:=key c hcm;exact hq.len.1
 ·obtain⟨c,hcm,hxc⟩:=List.mem_flatten.1 hx
  obtain⟨q,hq⟩:=key c hcm
  exact hq.noU x hxc m
 ·rw[Yw1]
  intro x hx
  obtain⟨c,hcm,hxc⟩:=List.mem_flatten.1 hx
  obtain⟨q,hq⟩:=key c hcm
  exact Yw1.1 hq.len.2 x hxc
def Zjq:∀{n:Nat},NoU (Zck zF n)
 |0=>by intro x hx;simp[Zck]at hx
 |n+1=>by
  intro x hx m
  rw[Zfm]at hx
  rcases Yxs.1 hx with hx|hx
  ·simp[zF]at hx
   rcases hx with rfl|rfl|rfl|rfl<;>simp
  ·exact Zjq x hx m
def NoU.app{a b:List V}(ha:NoU a)(hb:NoU b):NoU (a++b):=fun x hx m=>by
 rcases Yxs.1 hx with hx|hx
 ·exact ha x hx m
 ·exact hb x hx m
def Yay(n:Nat):(Zck zF n).length=n*4:=by
 induction n with
 |zero=>simp[Zck]
 |succ n ih=>rw[Zfm,Ywl,ih];simp[zF];omega
def Zpy{k0:Nat}(hs:Sl h N v (tx l))(hl:l.length<1000000000)(hq:∀q∈l,Qb k0 q)(hk0:k0≤4000):Fn A.C 52 [v] h N (fun u h' n'=>FrT h' n' u l):=by
 intro w
 have hlen:=hs.len
 rw[Zhc]at hlen
 have c1:(64:Int)*(l.length:Int)≤140737488355328:=by omega
 have c2:(l.length:Int)<4611686018427387904:=by omega
 have kB:Keeps h N (h.set N (.cells (Zck zF l.length) 111 true)) (N+1):=Keeps.refl.new _
 rw[Zab,A.k52 (by simp)]
 simp[A.b52,hlen,c1,c2]
 refine Zai [(4,5),(11,21)] (fun e r st=>e=.exit 0∧FaI h N l 0 r st) (FaI h N l) l.length ?_ ?_ ?_
 ·exact⟨by simp,kB,0,[],by omega,by simp,by simp,by show N<N+1;omega,by rw[T.get_set,Yv6 rfl];rfl,rfl,fun j q hj=>by omega⟩
 ·rintro m r ⟨H,n1,W⟩ hr hf ⟨hW,hK,k,cs,hk,h11,h3,hN1,hM,hcl,hcs⟩
  simp only at hW hK hM hN1 hcs
  rw[Zah]
  cases m with
  |zero=>
   obtain rfl:k=l.length:=by omega
   simp[A.lb52_0,hr,hf,h11]
   exact⟨hW,hK,l.length,cs,by omega,by simp[h11],by simp[h3],hN1,hM,hcl,hcs⟩
  |succ m=>
   have hlt:k<l.length:=by omega
   have hlt':(k:Int)<(l.length:Int):=by omega
   obtain⟨q,hqk⟩:=Zae hlt
   have hqb:=hq q (Yv7 hqk)
   obtain⟨i,o,cc,e,rw,q1,q2,q3,q4⟩:=(hs.keep hK).at (Zhj hqk)
   have la:=Zod hqb.1
   have la2:=Zln hqb.2
   simp[A.lb52_0,hr,hf,h11,h3,hlt,hlt',hlen,q1,q3,q4]
   refine Zac (Yn2 (q:=q) (by omega) (by omega)) ?_
   rintro _ H2 n2 k2 hf2
   obtain⟨c,rfl,hc⟩:=hf2.c
   have le2:=k2.le
   have nle:=hK.le
   have hM2:=(k2.get N hN1).trans hM
   have hcs2:∀(j:Nat) (q:Rat),j<cs.length→l[j]?=some q→∃c,cs[j]?=some c∧FcC H2 n2 c q:=fun j q hj hq=>by
    obtain⟨c,g1,g2⟩:=hcs j q (by omega) hq
    exact⟨c,g1,g2.keep k2⟩
   obtain⟨f1,f2,f3⟩:=Zn4 (l:=l) (by omega) hcs2
   have hfl:=Zbi f1
   obtain⟨e1,e2⟩:=hc.len
   have hsp:splice (cs.flatten++Zck zF (m+1)) (k*4) c=(cs++[c]).flatten++Zck zF m:=by
    rw[Zfm,Zf1 (n:=4) (by rw[hfl,hcl]) rfl e1,Zik,Yxf]
   have hb:k*4+4≤(cs.flatten++Zck zF (m+1)).length:=by
    rw[Ywl,hfl,Yay];omega
   have hcc:(V.agg c).cells=c:=rfl
   have hnu:NoU (cs.flatten++Zck zF (m+1)):=f2.app Zjq
   have hlen4:((cs++[c]).flatten++Zck zF m).length=(cs.flatten++Zck zF (m+1)).length:=by
    rw[Zfm,Zik];simp[e1,zF];omega
   generalize cs.flatten++Zck zF (m+1)=X at*
   obtain⟨Y,hY⟩:∃Y,(cs++[c]).flatten++Zck zF m=Y:=⟨_,rfl⟩
   rw[hY]at hsp hlen4
   simp(disch:=first|(simp;done)|omega|(simp only[Zaf,Zag,Yv8];omega)|rfl) [-V.cells, -V.one,hr,hf,h11,h3,hlt,hlt',hM2,Zal,hcc,e1,e2,hb,hsp]
   have wok:¬N<N:=by omega
   refine⟨m,by omega,⟨by simp[Zaa,hW],(hK.trans k2).set (Yv5 N),k+1,cs++[c],by omega,by simp,by simp[h3],by show N<n2;omega,by show T.get _ N=_;rw[T.get_set,Yv6 rfl,hY],by simp[hcl],fun j q' hj hq'=>?_⟩⟩
   by_cases hjk:j<k
   ·obtain⟨c',g1,g2⟩:=hcs j q' hjk hq'
    exact⟨c',by rw[Ywp (by omega)];exact g1,(g2.keep k2).setNU hM2 hnu hlen4⟩
   ·obtain rfl:j=k:=by omega
    rw[hqk]at hq'
    simp only[Yv3]at hq'
    subst hq'
    exact⟨c,by rw[Yw0 (by omega),hcl];simp,hc.setNU hM2 hnu hlen4⟩
 ·rintro _ r ⟨H,n1,W⟩ hr ⟨rfl,hW,hK,k,cs,hk,h11,h3,hN1,hM,hcl,hcs⟩
  simp only at hW hK hM hN1 hcs
  obtain rfl:k=l.length:=by omega
  simp[hr,h3,Ret,hW,hK]
  have hz:Zck zF 0=[]:=by simp[Zck]
  obtain⟨f1,_,_⟩:=Zn4 (l:=l) (by omega) (fun j q hj hq=>hcs j q (by omega) hq)
  have hfl:=Zbi f1
  rw[hz,Yyb]at hM
  refine⟨⟨cs,.inr ⟨N,0,some l.length,cs.flatten,_,true,by rw[hcl],hN1,hM,fun j x hx=>by rw[Yyt];exact Zfj f1 hx,by omega,fun k hk=>by simp at hk;omega⟩,hcl,fun j q hq=>hcs j q (Zau hq) hq⟩,fun i hi=>?_⟩
  simp[Zel]at hi
  subst hi
  exact⟨_,_,hM⟩
structure TaI (h:T O) (N:Nat) (l:List Rat) (m:Nat) (r:T V) (st:St):Prop where
 w:Zaa N st.w=[]
 keep:Keeps h N st.h st.n
 ex:∃(k:Nat),k+m=l.length∧r.get 11=some (.int .i64 k)∧r.get 3=some (.slice N 0 l.length (some l.length) 1)∧N<st.n∧st.h.get N=some (.cells (tx (l.take k)++List.replicate m (V.str [])) 37 true)
def Ygg{k0:Nat}(hs:FrS h N v l)(hP:P10 h N)(hl:l.length<1000000000)(hq:∀q∈l,Qb k0 q)(hk0:k0≤400000000):Fn A.C 128 [v] h N (fun u h' n'=>Sl h' n' u (tx l)∧∀i∈Zel u,∃z w,h'.get i=some (.cells z 37 w)):=by
 intro w
 have hlen:=hs.len
 have c1:(16:Int)*(l.length:Int)≤140737488355328:=by omega
 have c2:(l.length:Int)<4611686018427387904:=by omega
 have kB:Keeps h N (h.set N (.cells (Zck [.str []] l.length) 37 true)) (N+1):=Keeps.refl.new _
 rw[Zab,A.k128 (by simp)]
 simp[A.b128,hlen,c1,c2]
 refine Zai [(4,5),(11,21)] (fun e r st=>e=.exit 0∧TaI h N l 0 r st) (TaI h N l) l.length ?_ ?_ ?_
 ·exact⟨by simp,kB,0,by omega,by simp,by simp,by show N<N+1;omega,by rw[T.get_set,Yv6 rfl,Yaw];simp[tx,strs]⟩
 ·rintro m r ⟨H,n1,W⟩ hr hf ⟨hW,hK,k,hk,h11,h3,hN1,hM⟩
  simp only at hW hK hM hN1
  rw[Zah]
  cases m with
  |zero=>
   obtain rfl:k=l.length:=by omega
   simp[A.lb128_0,hr,hf,h11]
   exact⟨hW,hK,l.length,by omega,by simp[h11],by simp[h3],hN1,hM⟩
  |succ m=>
   have hlt:k<l.length:=by omega
   have hlt':(k:Int)<(l.length:Int):=by omega
   obtain⟨q,hqk⟩:=Zae hlt
   have hqb:=hq q (Yv7 hqk)
   obtain⟨i,o,x,e,rw,c,q1,q2,q3,q4,q5⟩:=(hs.keep hK).at hqk
   obtain⟨n1',u1,n2',u2,rfl,s1,s2⟩:=q5
   have o1:=Za1 s1
   have o2:=Za1 s2
   unfold V.one at o1 o2
   have la:=Zoe hqb.1
   have la2:=Zoe hqb.2
   have nle:=hK.le
   have e4:splice [.int .i64 0,.nilslice,.int .i64 0,.nilslice] 0 [.int .i64 n1',u1,.int .i64 n2',u2]=[.int .i64 n1',u1,.int .i64 n2',u2]:=rfl
   have e5:slc [.int .i64 n1',u1,.int .i64 n2',u2] 0 4=some [.int .i64 n1',u1,.int .i64 n2',u2]:=rfl
   have kA:Keeps H n1 ((H.set n1 (.cells [.int .i64 0,.nilslice,.int .i64 0,.nilslice] 111 true)).set n1 (.cells [.int .i64 n1',u1,.int .i64 n2',u2] 111 true)) (n1+1):=(Keeps.refl.new _).set (Yv5 _)
   simp[A.lb128_0,hr,hf,h11,h3,hlt,hlt',hlen,q1,q3,q4,Zak,Zal,o1,o2,e4,e5]
   refine Zac (Yll (q:=q) (Fc.keep ⟨n1',u1,n2',u2,rfl,s1,s2⟩ kA) ((hP.keep hK).keep kA) (by omega) (by omega)) ?_
   rintro _ H2 n2 k2 rfl
   have le2:=k2.le
   have hM2:=(k2.get N (by omega)).trans ((kA.get N hN1).trans hM)
   have hb:k+1≤(tx (l.take k)++List.replicate (m+1) (V.str [])).length:=by
    rw[Ywl,Zhc,List.length_replicate,Ywm];omega
   have hsp:splice (tx (l.take k)++List.replicate (m+1) (V.str [])) k [.str (Zax q)]=tx (l.take (k+1))++List.replicate m (V.str []):=by
    have e1:(tx (l.take k)++List.replicate (m+1) (V.str []))=tx (l.take k)++([V.str []]++List.replicate m (V.str [])):=by rw[List.replicate_succ];rfl
    rw[e1,Zf1 (n:=1) (by rw[Zhc,Ywm];omega) rfl rfl,Yyq,hqk]
    simp[tx,strs]
   generalize tx (l.take k)++List.replicate (m+1) (V.str [])=X at*
   obtain⟨Y,hY⟩:∃Y,tx (l.take (k+1))++List.replicate m (V.str [])=Y:=⟨_,rfl⟩
   rw[hY]at hsp
   simp(disch:=first|(simp;done)|omega|(simp only[Zaf,Zag,Yv8];omega)|rfl) [hr,hf,h11,h3,hlt,hlt',hM2,Zal,hb,hsp]
   refine⟨m,by omega,⟨by simp[Zaa,hW];omega,((hK.trans kA).trans k2).set (Yv5 N),k+1,by omega,by simp,by simp[h3],by show N<n2;omega,by show T.get _ N=_;rw[T.get_set,Yv6 rfl,hY]⟩⟩
 ·rintro _ r ⟨H,n1,W⟩ hr ⟨rfl,hW,hK,k,hk,h11,h3,hN1,hM⟩
  simp only at hW hK hM hN1
  obtain rfl:k=l.length:=by omega
  rw[Yym]at hM
  simp only[List.replicate_zero,Yyb]at hM
  simp[hr,h3,Ret,hW,hK]
  exact⟨Sl.row hN1 hM (Zhc l) (fun k hk=>by simp at hk;omega),fun i hi=>by simp[Zel]at hi;subst hi;exact⟨_,.inr hM⟩⟩
variable {N k:Nat} {h:T O} {l:List Rat} {m:List (List Rat)} {v:V}
noncomputable def A.w14:=A.q Tryz.f14
noncomputable def A.lb14_0:=A.ql A.w14 0 []
noncomputable def A.b14:=(fun x0=>A.qb A.w14 [x0]) A.lb14_0
def A.k14:=@A.kk 14 25 [.tmp 4] A.b14 (by kernel_rfl) rfl
def Zp1(a b:List Rat):Nat→Rat
 |0=>0
 |k+1=>Zp1 a b k+a[k]?.getD 0*b[k]?.getD 0
def Yau(a b:List Rat):Rat:=Zp1 a b a.length
def Qb.zero:Qb 1 0:=⟨by decide,by decide⟩
def Zg2{l:List Rat}{k:Nat}(h:∀q∈l,Qb k q)(hk:1≤k)(j:Nat):Qb k (l[j]?.getD 0):=by
 cases hj:l[j]? with
 |none=>exact Qb.zero.mono hk
 |some q=>exact h q (Yv7 hj)
def Zn9{a b:List Rat}{j k:Nat}(ha:∀q∈a,Qb j q)(hb:∀q∈b,Qb k q)(hj:1≤j)(hk:1≤k):∀n,Qb (n*(j+k+1)+1) (Zp1 a b n)
 |0=>by simpa[Zp1]using Qb.zero
 |n+1=>by
  have h:=(Zn9 ha hb hj hk n).add ((Zg2 ha hj n).mul (Zg2 hb hk n))
  exact h.mono (by rw[Yxd];omega)
def Tx(h:T O)(N:Nat)(v:V)(l:List Rat):Prop:=Sl h N v (tx l)
def Tx.keep{h':T O}{N':Nat}(s:Tx h N v l)(k:Keeps h N h' N'):Tx h' N' v l:=Sl.keep s k
def Tx.len(s:Tx h N v l):Zo1 v=some l.length:=by
 have:=Sl.len s
 rwa [Zhc]at this
def Yma{u:V}{a b:List Rat}{j:Nat}(hu:Tx h N u a)(hv:Tx h N v b)(hab:a.length≤b.length)(ha:∀q∈a,Qb j q)(hb:∀q∈b,Qb k q)(hj:1≤j)(hk:1≤k)(hl:a.length*(j+k+1)+j+k+1≤400000000):Fn A.C 14 [u,v] h N (fun x _ _=>x=.str (Zax (Yau a b))):=by
 intro w
 have l1:=hu.len
 have l2:=hv.len
 have hal:a.length≤400000000:=by have:=Nat.le_mul_of_pos_right a.length (show 0<j+k+1 by omega);omega
 rw[Zab,A.k14 (by simp)]
 simp[A.b14]
 refine Zai [(5,23)] (fun e r st=>e=.exit 0∧Zaa N st.w=[]∧Keeps h N st.h st.n∧r.get 5=some (.str (Zax (Yau a b)))) (fun m r st=>Zaa N st.w=[]∧Keeps h N st.h st.n∧∃t,t+m=a.length∧r.get 6=some (.int .i64 t)∧r.get 5=some (.str (Zax (Zp1 a b t)))) a.length ?_ ?_ ?_
 ·exact⟨by simp,Keeps.refl,0,by omega,by simp,by simp[Zp1,Ya7]⟩
 ·rintro m r ⟨H,n1,W⟩ hr hf ⟨hW,hK,t,ht,h6,h5⟩
  simp only at hW hK
  rw[Zah]
  cases m with
  |zero=>
   obtain rfl:t=a.length:=by omega
   simp[A.lb14_0,hr,hf,h6,h5,l1,hW,hK]
   rfl
  |succ m=>
   have hlt:t<a.length:=by omega
   have hlt':(t:Int)<(a.length:Int):=by omega
   have hlb:t<b.length:=by omega
   have hlb':(t:Int)<(b.length:Int):=by omega
   obtain⟨p,hp⟩:=Zae hlt
   obtain⟨q,hq⟩:=Zae hlb
   have hpb:=ha p (Yv7 hp)
   have hqb:=hb q (Yv7 hq)
   have hsb:=Zn9 ha hb hj hk t
   have hmul:t*(j+k+1)≤a.length*(j+k+1):=Ywr _ (by omega)
   have e1:Zp1 a b (t+1)=Zp1 a b t+p*q:=by simp[Zp1,hp,hq]
   obtain⟨i,o,cc,e,rw,q1,q2,q3,q4⟩:=(Sl.keep hu hK).at (Zhj hp)
   obtain⟨i',o',cc',e',rw',p1,p2,p3,p4⟩:=(Sl.keep hv hK).at (Zhj hq)
   simp[A.lb14_0,hr,hf,h6,h5,l1,l2,hlt,hlt',hlb,hlb',q1,q2,q3,q4,p1,p2,p3,p4]
   refine Zac (Yc0 hpb hqb (by omega) (by omega)) ?_
   rintro _ H2 n2 k2 rfl
   simp[]
   refine Zac (Zv1 hsb (hpb.mul hqb) (by omega) (by omega)) ?_
   rintro _ H3 n3 k3 rfl
   rw[←e1]
   simp(disch:=first|(simp;done)|omega|rfl) [hr,hf,h6,Zao.chk,hW]
   exact⟨m,by omega,(hK.trans k2).trans k3,t+1,by omega,by simp,by simp⟩
 ·rintro _ r ⟨H,n1,W⟩ hr ⟨rfl,hW,hK,h5⟩
  simp only at hW hK
  simp[hr,h5,Ret,hW,hK]
def TxM(h:T O)(N:Nat)(v:V)(m:List (List Rat)):Prop:=∃us:List V,Sl h N v us∧us.length=m.length∧∀(j:Nat) (l:List Rat),m[j]?=some l→∃u,us[j]?=some u∧Tx h N u l
def TxM.keep{h':T O}{N':Nat}(s:TxM h N v m)(k:Keeps h N h' N'):TxM h' N' v m:=by
 obtain⟨us,h1,h2,h3⟩:=s
 refine⟨us,h1.keep k,h2,fun j l hl=>?_⟩
 obtain⟨u,g1,g2⟩:=h3 j l hl
 exact⟨u,g1,g2.keep k⟩
def TxM.len(s:TxM h N v m):Zo1 v=some m.length:=by
 obtain⟨us,h1,h2,_⟩:=s
 rw[h1.len,h2]
def TxM.at(s:TxM h N v m){j:Nat}{l:List Rat}(hj:m[j]?=some l):∃i o c e rw u,Zk3 v=some (i,o)∧i<N∧h.get i=some (.cells c e rw)∧c[o+j]?=some u∧Tx h N u l:=by
 obtain⟨us,h1,h2,h3⟩:=s
 obtain⟨u,g1,g2⟩:=h3 j l hj
 obtain⟨i,o,c,e,rw,q1,q2,q3,q4⟩:=h1.at g1
 exact⟨i,o,c,e,rw,u,q1,q2,q3,q4,g2⟩
variable {N:Nat} {h h':T O} {l:List Rat} {m:List (List Rat)} {u v:V} {w:List Nat}
def TxT(h:T O)(N:Nat)(u:V)(l:List Rat):Prop:=Tx h N u l∧∀i∈Zel u,∃z w,h.get i=some (.cells z 37 w)
def Yb4{l:List V}(s:Sl h N v l):∀i∈Zel v,i<N:=fun i hi=>by
 rcases s with⟨_,rfl|rfl⟩|⟨j,o,cp,c,e,rw,rfl,hj,_⟩
 ·simp[Zel]at hi
 ·simp[Zel]at hi
 ·simp[Zel]at hi;omega
def TxT.keep{N':Nat}(s:TxT h N u l)(k:Keeps h N h' N'):TxT h' N' u l:=⟨s.1.keep k,fun i hi=>by rw[k.get i (Yb4 s.1 i hi)];exact s.2 i hi⟩
def TxT.moved{n n':Nat}{Y:V→Prop}{e:TypeId}(s:TxT h n u l)(k:Upd (fun i=>i∈Zel v) h n h' n')(hd:Zrl e Y h v)(he:e≠37):TxT h' n' u l:=by
 have hn:∀i∈Zel u,i∉Zel v:=fun i hi hc=>by
  obtain⟨z,w,hz⟩:=s.2 i hi
  obtain⟨z2,hz2,_⟩:=hd i hc
  rw[hz]at hz2
  simp at hz2
  exact he hz2.2.1.symm
 exact⟨Sl.moved s.1 k hn,fun i hi=>by rw[k.get i (Yb4 s.1 i hi) (hn i hi)];exact s.2 i hi⟩
def Yj7{N0:Nat}(s:Own 1 37 N0 h N v ((tx l).map fun y=>[y])):TxT h N v l:=by
 refine⟨Sn.one.1 s.sn,fun i hi=>?_⟩
 obtain⟨_,⟨_,rfl⟩|⟨j,rfl,_,_,hg⟩⟩:=s
 ·simp[Zel]at hi
 ·simp[Zel]at hi;subst hi;exact⟨_,_,hg⟩
def MtO(N0:Nat)(h:T O)(N:Nat)(v:V)(m:List (List Rat)):Prop:=∃us:List V,Own 1 25 N0 h N v (us.map fun y=>[y])∧(us=[]→v=.nilslice)∧us.length=m.length∧∀(j:Nat) (l:List Rat),m[j]?=some l→∃u,us[j]?=some u∧TxT h N u l
def MtO.nil{N0:Nat}:MtO N0 h N .nilslice []:=⟨[],Own.nil,fun _=>rfl,rfl,fun j l hl=>by simp at hl⟩
def MtO.keep{N0:Nat}{N':Nat}(s:MtO N0 h N v m)(k:Keeps h N h' N'):MtO N0 h' N' v m:=by
 obtain⟨us,h1,h2,h3,h4⟩:=s
 refine⟨us,h1.keep k,h2,h3,fun j l hl=>?_⟩
 obtain⟨u,g1,g2⟩:=h4 j l hl
 exact⟨u,g1,g2.keep k⟩
def MtO.txm{N0:Nat}(s:MtO N0 h N v m):TxM h N v m:=by
 obtain⟨us,h1,h2,h3,h4⟩:=s
 refine⟨us,Sn.one.1 h1.sn,h3,fun j l hl=>?_⟩
 obtain⟨u,g1,g2⟩:=h4 j l hl
 exact⟨u,g1,g2.1⟩
def MtO.push{N0:Nat}{x:V}(s:MtO N0 h N v m)(hu:TxT h N u l)(hN:N0≤N)(hx:Zaz ⟨h,N,w⟩ 1 x=some (1,[u]))(hm:m.length<100000):
  ∃v' h' w',Zb0 ⟨h,N,w⟩ 1 24 25 v x=some (v',⟨h',N+1,w'⟩)∧Zaa N0 w'=Zaa N0 w∧Keeps h N0 h' (N+1)∧MtO N0 h' (N+1) v' (m++[l]):=by
 obtain⟨us,h1,h2,h3,h4⟩:=s
 obtain⟨v',h',w',f1,f2,f3,f4,fD,f5⟩:=Zdj (Y:=fun _=>True) (x:=[u]) (u:=x) (bytes:=24) (w:=w) h1 (fun h0=>h2 (List.map_eq_nil_iff.1 h0)) (fun _ _ _ _=>trivial) hN (by decide) rfl hx (by rw[Yw7];omega)
 refine⟨v',h',w',f1,f2,f3,us++[u],by simpa using f5,by simp,by simp[h3],fun j r hr=>?_⟩
 by_cases hj:j<m.length
 ·rw[Ywp hj]at hr
  obtain⟨u',g1,g2⟩:=h4 j r hr
  exact⟨u',by rw[Ywp (by omega)];exact g1,g2.moved f4 fD (by simp)⟩
 ·rw[Yw0 (by omega)]at hr
  cases hd:j-m.length with
  |zero=>
   rw[hd]at hr
   simp at hr
   subst hr
   exact⟨u,by rw[Yw0 (by omega),h3,hd];rfl,hu.moved f4 fD (by simp)⟩
  |succ d=>rw[hd]at hr;simp at hr
def Zwu{N i:Nat}:∀{w:List Nat},i∈w→i<N→i∈Zaa N w
 |[],h,_=>by simp at h
 |j::w,h,hi=>by
  simp only[Zaa]
  rcases Yxa.1 h with rfl|h
  ·rw[Yv6 hi]
   unfold Zf7
   split
   ·rename_i hc;simpa using hc
   ·exact Yw6
  ·have:=Zwu h hi
   split
   ·unfold Zf7
    split
    ·exact this
    ·exact Yw2 _ this
   ·exact this
def Yhl{n1:Nat}{w':List Nat}(h:Zaa n1 w'=Zaa n1 w)(hN:N≤n1)(hw:Zaa N w=[]):Zaa N w'=[]:=by
 apply List.eq_nil_iff_forall_not_mem.2
 intro i hi
 obtain⟨h1,h2⟩:=Zlj hi
 have h3:=Zwu h1 (show i<n1 by omega)
 rw[h]at h3
 have h4:=Zwu (Zlj h3).1 h2
 rw[hw]at h4
 simp at h4
def Ycs(h:Zaa N w=[]):∀i∈w,N≤i:=fun i hi=>by
 apply Yyc
 intro hc
 have:=Zwu hi hc
 rw[h]at this
 simp at this
def Ymp{n:Nat}{a b:List Nat}(ha:Zaa N a=[])(hb:Zaa N b=[]):Zaa N (Zaa n a++b)=[]:=Zlh fun i hi=>by
 rcases Yxs.1 hi with hi|hi
 ·exact Ycs ha i (Zlj hi).1
 ·exact Ycs hb i hi
def Yrr(m:List (List Rat))(k:Nat):List Rat:=m.map fun r=>r[k]?.getD 0
variable {N n:Nat} {h:T O} {m:List (List Str)} {v:V} {w:List Nat}
noncomputable def A.w65:=A.q Tryz.f65
noncomputable def A.lb65_0:=A.ql A.w65 0 []
noncomputable def A.b65:=(fun x0=>A.qb A.w65 [x0]) A.lb65_0
def A.k65:=@A.kk 65 32 [.tmp 4] A.b65 (by kernel_rfl) rfl
noncomputable def A.w20:=A.q Tryz.f20
noncomputable def A.lb20_0:=A.ql A.w20 0 []
noncomputable def A.b20:=(fun x0=>A.qb A.w20 [x0]) A.lb20_0
def A.k20:=@A.kk 20 35 [.tmp 6] A.b20 (by kernel_rfl) rfl
noncomputable def A.w12:=A.q Tryz.f12
noncomputable def A.lb12_0:=A.ql A.w12 0 []
noncomputable def A.b12:=(fun x0=>A.qb A.w12 [x0]) A.lb12_0
def A.k12:=@A.kk 12 26 [.tmp 4] A.b12 (by kernel_rfl) rfl
def Ybj{u:V}{l:List Str}(hu:Sl h N u (strs l))(hv:Sl h N v (strs l))(hl:l.length<100000):A.C.call (.func 12 [] []) [u,v] ⟨h,N,w⟩=some (.bool true,⟨h,N,w⟩):=by
 apply Call.eq
 have l1:=hu.len
 have l2:=hv.len
 rw[Zb5]at l1 l2
 rw[Zab,A.k12 (by simp)]
 simp[A.b12,l1,l2,Zad]
 refine Zai [(4,5),(11,25)] (fun e r st=>st=⟨h,N,[]⟩∧e=.exit 0) (fun m r st=>st=⟨h,N,[]⟩∧∃k,k+m=l.length∧r.get 5=some (.int .i64 k)) l.length ?_ ?_ ?_
 ·exact⟨rfl,0,by omega,by simp⟩
 ·rintro m r _ hr hf ⟨rfl,k,hk,h5⟩
  rw[Zah]
  cases m with
  |zero=>
   obtain rfl:k=l.length:=by omega
   simp[A.lb12_0,hr,hf,h5,l1]
  |succ m=>
   have hlt:k<l.length:=by omega
   obtain⟨s,hs⟩:=Zae hlt
   obtain⟨i,o,c,e,rw,q1,q2,q3,q4⟩:=hu.at (Zgo hs)
   obtain⟨i',o',c',e',rw',p1,p2,p3,p4⟩:=hv.at (Zgo hs)
   have hk1:(k:Int)<(l.length:Int):=by omega
   simp(disch:=first|(simp;done)|omega|rfl) [A.lb12_0,hr,hf,h5,l1,l2,hk1,hlt,q1,q2,q3,q4,p1,p2,p3,p4,Zbm,Zad,Zao.chk]
   exact⟨m,by omega,k+1,by omega,by simp⟩
 ·rintro _ r _ hr ⟨rfl,rfl⟩
  simp[hr]
def Zo3(s:Str):Bool:=decide (s.length≤24)
def Zfv(k n:Nat):Bool:=decide (k≤n∨64<k∧k≤66)
def Zbt(n:Nat)(l:List Str):Bool:=Zfv l.length n&&l.all Zo3
def Zw8{k:Nat}(h:Zfv k n=true)(hn:n<64):k≤66:=by
 simp[Zfv]at h
 omega
def Zry{l:List Str}(hs:Sl h N v (strs l))(hl:l.length<9223372036854775808)(hn:n<64):A.C.call (.func 65 [] []) [v,.int .i64 n] ⟨h,N,w⟩=some (.bool (Zbt n l),⟨h,N,w⟩):=by
 apply Call.eq
 have lg:=hs.len
 rw[Zb5]at lg
 rw[Zab,A.k65 (by simp)]
 have fin:Zfv l.length n=true→Zbt n l=l.all Zo3:=fun h=>by simp[Zbt,h]
 by_cases c1:l.length≤n
 ·rw[fin (by simp[Zfv,c1])]
  have a1:¬(n:Int)<(l.length:Int):=by omega
  have a2:¬66<(l.length:Int):=by omega
  simp[A.b65,lg,a1,a2]
  refine Zai [(4,5),(20,31)] (fun e r st=>st=⟨h,N,[]⟩∧((e=.exit 0∧l.all Zo3=true)∨(e=.ret∧l.all Zo3=false∧r.get 4=some (.bool false)))) (fun m r st=>st=⟨h,N,[]⟩∧∃k,k+m=l.length∧r.get 5=some (.int .i64 k)∧l.all Zo3=(l.drop k).all Zo3) l.length ?_ ?_ ?_
  ·exact⟨rfl,0,by omega,by simp,by simp⟩
  ·rintro m r _ hr hf ⟨rfl,k,hk,hx,hz⟩
   rw[Zah]
   cases m with
   |zero=>
    obtain rfl:k=l.length:=by omega
    rw[Yw5,List.all_nil]at hz
    simp[A.lb65_0,hr,hf,hx,lg,hz]
   |succ m=>
    have hlt:k<l.length:=by omega
    have hk1:(k:Int)<(l.length:Int):=by omega
    obtain⟨s,hc⟩:=Zae hlt
    obtain⟨i,o,cc,e,rw,q1,q2,q3,q4⟩:=hs.at (Zgo hc)
    rw[Zan hc,List.all_cons]at hz
    by_cases c4:Zo3 s=true
    ·rw[c4,Bool.true_and]at hz
     have c6:¬24<(s.length:Int):=by simp[Zo3]at c4;omega
     simp(disch:=first|(simp;done)|omega|rfl) [A.lb65_0,hr,hf,hx,lg,hk1,hlt,q1,q2,q3,q4,c6]
     exact⟨m,by omega,k+1,by omega,by simp,hz⟩
    ·have c5:Zo3 s=false:=by simpa using c4
     rw[c5,Yzd]at hz
     have c6:24<(s.length:Int):=by simp[Zo3]at c5;omega
     simp[A.lb65_0,hr,hf,hx,lg,hk1,hlt,q1,q2,q3,q4,c6,hz]
  ·rintro e r _ hr ⟨rfl,⟨rfl,hq⟩|⟨rfl,hq,h2⟩⟩
   ·simp[hr,hq,Ret]
   ·simp[hr,hq,h2,Ret]
 ·have a1:(n:Int)<(l.length:Int):=by omega
  have a1':n<l.length:=by omega
  by_cases c2:l.length≤64
  ·have a3:(l.length:Int)≤64:=by omega
   have e1:Zbt n l=false:=by simp[Zbt,Zfv,c1];omega
   simp[A.b65,lg,a1,a1',a3,c2,e1]
  ·have a3:¬(l.length:Int)≤64:=by omega
   by_cases c3:66<l.length
   ·have a4:66<(l.length:Int):=by omega
    have e1:Zbt n l=false:=by simp[Zbt,Zfv,c1];omega
    simp[A.b65,lg,a1,a1',a3,c2,a4,c3,e1]
   ·have a4:¬66<(l.length:Int):=by omega
    rw[fin (by simp[Zfv];omega)]
    simp[A.b65,lg,a1,a1',a3,c2,a4,c3]
    refine Zai [(4,5),(20,31)] (fun e r st=>st=⟨h,N,[]⟩∧((e=.exit 0∧l.all Zo3=true)∨(e=.ret∧l.all Zo3=false∧r.get 4=some (.bool false)))) (fun m r st=>st=⟨h,N,[]⟩∧∃k,k+m=l.length∧r.get 5=some (.int .i64 k)∧l.all Zo3=(l.drop k).all Zo3) l.length ?_ ?_ ?_
    ·exact⟨rfl,0,by omega,by simp,by simp⟩
    ·rintro m r _ hr hf ⟨rfl,k,hk,hx,hz⟩
     rw[Zah]
     cases m with
     |zero=>
      obtain rfl:k=l.length:=by omega
      rw[Yw5,List.all_nil]at hz
      simp[A.lb65_0,hr,hf,hx,lg,hz]
     |succ m=>
      have hlt:k<l.length:=by omega
      have hk1:(k:Int)<(l.length:Int):=by omega
      obtain⟨s,hc⟩:=Zae hlt
      obtain⟨i,o,cc,e,rw,q1,q2,q3,q4⟩:=hs.at (Zgo hc)
      rw[Zan hc,List.all_cons]at hz
      by_cases c4:Zo3 s=true
      ·rw[c4,Bool.true_and]at hz
       have c6:¬24<(s.length:Int):=by simp[Zo3]at c4;omega
       simp(disch:=first|(simp;done)|omega|rfl) [A.lb65_0,hr,hf,hx,lg,hk1,hlt,q1,q2,q3,q4,c6]
       exact⟨m,by omega,k+1,by omega,by simp,hz⟩
      ·have c5:Zo3 s=false:=by simpa using c4
       rw[c5,Yzd]at hz
       have c6:24<(s.length:Int):=by simp[Zo3]at c5;omega
       simp[A.lb65_0,hr,hf,hx,lg,hk1,hlt,q1,q2,q3,q4,c6,hz]
    ·rintro e r _ hr ⟨rfl,⟨rfl,hq⟩|⟨rfl,hq,h2⟩⟩
     ·simp[hr,hq,Ret]
     ·simp[hr,hq,h2,Ret]
def MtS(h:T O)(N:Nat)(v:V)(m:List (List Str)):Prop:=∃us:List V,Sl h N v us∧us.length=m.length∧∀(j:Nat) (l:List Str),m[j]?=some l→∃u,us[j]?=some u∧Sl h N u (strs l)
def MtS.keep{h':T O}{N':Nat}(s:MtS h N v m)(k:Keeps h N h' N'):MtS h' N' v m:=by
 obtain⟨us,h1,h2,h3⟩:=s
 refine⟨us,h1.keep k,h2,fun j l hl=>?_⟩
 obtain⟨u,g1,g2⟩:=h3 j l hl
 exact⟨u,g1,g2.keep k⟩
def MtS.len(s:MtS h N v m):Zo1 v=some m.length:=by
 obtain⟨us,h1,h2,_⟩:=s
 rw[h1.len,h2]
def MtS.at(s:MtS h N v m){j:Nat}{l:List Str}(hj:m[j]?=some l):∃i o c e rw u,Zk3 v=some (i,o)∧i<N∧h.get i=some (.cells c e rw)∧c[o+j]?=some u∧Sl h N u (strs l):=by
 obtain⟨us,h1,h2,h3⟩:=s
 obtain⟨u,g1,g2⟩:=h3 j l hj
 obtain⟨i,o,c,e,rw,q1,q2,q3,q4⟩:=h1.at g1
 exact⟨i,o,c,e,rw,u,q1,q2,q3,q4,g2⟩
def MtS.txm{m:List (List Rat)}(s:MtS h N v (m.map fun l=>l.map Zax)):TxM h N v m:=by
 obtain⟨us,h1,h2,h3⟩:=s
 refine⟨us,h1,by simpa using h2,fun j l hl=>?_⟩
 exact h3 j (l.map Zax) (by simp[hl])
def Zcq(r c:Nat)(m:List (List Str)):Bool:=Zfv m.length r&&m.all (Zbt c)
def Ygq{l:List (List Str)}{p:Nat}(hs:MtS h N v l)(hl:l.length<9223372036854775808)(hx0:∀x∈l,x.length<9223372036854775808)(hn:n<64)(hp:p<64):A.C.call (.func 20 [] []) [v,.int .i64 n,.int .i64 p] ⟨h,N,w⟩=some (.bool (Zcq n p l),⟨h,N,w⟩):=by
 apply Call.eq
 have lg:=hs.len
 rw[Zab,A.k20 (by simp)]
 have fin:Zfv l.length n=true→Zcq n p l=l.all (Zbt p):=fun h=>by simp[Zcq,h]
 by_cases c1:l.length≤n
 ·rw[fin (by simp[Zfv,c1])]
  have a1:¬(n:Int)<(l.length:Int):=by omega
  have a2:¬66<(l.length:Int):=by omega
  simp[A.b20,lg,a1,a2]
  refine Zai [(6,7),(22,34)] (fun e r st=>st=⟨h,N,[]⟩∧((e=.exit 0∧l.all (Zbt p)=true)∨(e=.ret∧l.all (Zbt p)=false∧r.get 6=some (.bool false)))) (fun m r st=>st=⟨h,N,[]⟩∧∃k,k+m=l.length∧r.get 7=some (.int .i64 k)∧l.all (Zbt p)=(l.drop k).all (Zbt p)) l.length ?_ ?_ ?_
  ·exact⟨rfl,0,by omega,by simp,by simp⟩
  ·rintro m r _ hr hf ⟨rfl,k,hk,hx,hz⟩
   rw[Zah]
   cases m with
   |zero=>
    obtain rfl:k=l.length:=by omega
    rw[Yw5,List.all_nil]at hz
    simp[A.lb20_0,hr,hf,hx,lg,hz]
   |succ m=>
    have hlt:k<l.length:=by omega
    have hk1:(k:Int)<(l.length:Int):=by omega
    obtain⟨s,hc⟩:=Zae hlt
    obtain⟨i,o,cc,e,rw,u,q1,q2,q3,q4,q5⟩:=hs.at hc
    have hsl:=fun w=>Zry (w:=w) q5 (hx0 s (Yv7 hc)) hp
    rw[Zan hc,List.all_cons]at hz
    by_cases c4:(Zbt p) s=true
    ·rw[c4,Bool.true_and]at hz
     simp(disch:=first|(simp;done)|omega|rfl) [A.lb20_0,hr,hf,hx,lg,hk1,hlt,q1,q2,q3,q4,hsl,c4]
     exact⟨m,by omega,k+1,by omega,by simp,hz⟩
    ·have c5:(Zbt p) s=false:=by simpa using c4
     rw[c5,Yzd]at hz
     simp[A.lb20_0,hr,hf,hx,lg,hk1,hlt,q1,q2,q3,q4,hsl,c5,hz]
  ·rintro e r _ hr ⟨rfl,⟨rfl,hq⟩|⟨rfl,hq,h2⟩⟩
   ·simp[hr,hq,Ret]
   ·simp[hr,hq,h2,Ret]
 ·have a1:(n:Int)<(l.length:Int):=by omega
  have a1':n<l.length:=by omega
  by_cases c2:l.length≤64
  ·have a3:(l.length:Int)≤64:=by omega
   have e1:Zcq n p l=false:=by simp[Zcq,Zfv,c1];omega
   simp[A.b20,lg,a1,a1',a3,c2,e1]
  ·have a3:¬(l.length:Int)≤64:=by omega
   by_cases c3:66<l.length
   ·have a4:66<(l.length:Int):=by omega
    have e1:Zcq n p l=false:=by simp[Zcq,Zfv,c1];omega
    simp[A.b20,lg,a1,a1',a3,c2,a4,c3,e1]
   ·have a4:¬66<(l.length:Int):=by omega
    rw[fin (by simp[Zfv];omega)]
    simp[A.b20,lg,a1,a1',a3,c2,a4,c3]
    refine Zai [(6,7),(22,34)] (fun e r st=>st=⟨h,N,[]⟩∧((e=.exit 0∧l.all (Zbt p)=true)∨(e=.ret∧l.all (Zbt p)=false∧r.get 6=some (.bool false)))) (fun m r st=>st=⟨h,N,[]⟩∧∃k,k+m=l.length∧r.get 7=some (.int .i64 k)∧l.all (Zbt p)=(l.drop k).all (Zbt p)) l.length ?_ ?_ ?_
    ·exact⟨rfl,0,by omega,by simp,by simp⟩
    ·rintro m r _ hr hf ⟨rfl,k,hk,hx,hz⟩
     rw[Zah]
     cases m with
     |zero=>
      obtain rfl:k=l.length:=by omega
      rw[Yw5,List.all_nil]at hz
      simp[A.lb20_0,hr,hf,hx,lg,hz]
     |succ m=>
      have hlt:k<l.length:=by omega
      have hk1:(k:Int)<(l.length:Int):=by omega
      obtain⟨s,hc⟩:=Zae hlt
      obtain⟨i,o,cc,e,rw,u,q1,q2,q3,q4,q5⟩:=hs.at hc
      have hsl:=fun w=>Zry (w:=w) q5 (hx0 s (Yv7 hc)) hp
      rw[Zan hc,List.all_cons]at hz
      by_cases c4:(Zbt p) s=true
      ·rw[c4,Bool.true_and]at hz
       simp(disch:=first|(simp;done)|omega|rfl) [A.lb20_0,hr,hf,hx,lg,hk1,hlt,q1,q2,q3,q4,hsl,c4]
       exact⟨m,by omega,k+1,by omega,by simp,hz⟩
      ·have c5:(Zbt p) s=false:=by simpa using c4
       rw[c5,Yzd]at hz
       simp[A.lb20_0,hr,hf,hx,lg,hk1,hlt,q1,q2,q3,q4,hsl,c5,hz]
    ·rintro e r _ hr ⟨rfl,⟨rfl,hq⟩|⟨rfl,hq,h2⟩⟩
     ·simp[hr,hq,Ret]
     ·simp[hr,hq,h2,Ret]
variable {N:Nat} {h:T O} {v:V}
noncomputable def A.w126:=A.q Tryz.f126
noncomputable def A.lb126_0:=A.ql A.w126 0 []
noncomputable def A.b126:=(fun x0=>A.qb A.w126 [x0]) A.lb126_0
def A.k126:=@A.kk 126 19 [.tmp 2] A.b126 (by kernel_rfl) rfl
noncomputable def A.b44:=A.q Tryz.f44
def A.k44:=@A.kk 44 11 [.tmp 4] A.b44 (by kernel_rfl) rfl
noncomputable def A.w66:=A.q Tryz.f66
noncomputable def A.lb66_0:=A.ql A.w66 0 []
noncomputable def A.b66:=(fun x0=>A.qb A.w66 [x0]) A.lb66_0
def A.k66:=@A.kk 66 49 [.tmp 6] A.b66 (by kernel_rfl) rfl
def Yoq{l:List Str}(hs:Sl h N v (strs l))(hl:l.length<100000)(hf0:∀s∈l,s.length≤100000):Fn A.C 126 [v] h N (fun u _ _=>u=.int .i64 (Zam (l.map fun s=>((chkNum s:Nat):Int)))):=by
 intro w
 have hlen:=hs.len
 rw[Zb5]at hlen
 rw[Zab,A.k126 (by simp)]
 simp[A.b126]
 refine Zai [(2,18)] (fun e r st=>Zaa N st.w=[]∧Keeps h N st.h st.n∧((e=.exit 0∧Zam (l.map fun s=>((chkNum s:Nat):Int))=0)∨(e=.ret∧r.get 2=some (.int .i64 (Zam (l.map fun s=>((chkNum s:Nat):Int))))))) (fun m r st=>Zaa N st.w=[]∧Keeps h N st.h st.n∧∃k,k+m=l.length∧r.get 3=some (.int .i64 k)∧Zam (l.map fun s=>((chkNum s:Nat):Int))=Zam ((l.drop k).map fun s=>((chkNum s:Nat):Int))) l.length ?_ ?_ ?_
 ·exact⟨by simp,Keeps.refl,0,by omega,by simp,by simp⟩
 ·rintro m r ⟨H,n1,W⟩ hr hf ⟨hW,hK,k,hk,h7,hz⟩
  simp only at hW hK
  rw[Zah]
  cases m with
  |zero=>
   obtain rfl:k=l.length:=by omega
   rw[Yw5,Yyr,Zam]at hz
   simp[A.lb126_0,hr,hf,h7,hlen,hz,hW,hK]
  |succ m=>
   have hlt:k<l.length:=by omega
   obtain⟨s,hc⟩:=Zae hlt
   obtain⟨i,o,cc,e,rw,q1,q2,q3,q4⟩:=(hs.keep hK).at (Zgo hc)
   rw[Zan hc,Yxk,Zam]at hz
   have hk1:(k:Int)<(l.length:Int):=by omega
   simp[A.lb126_0,hr,hf,h7,hk1,hlt,hlen,q1,q3,q4]
   refine Zac (Zr4 (hf0 s (Yv7 hc))) ?_
   rintro _ h3 n3 k3 rfl
   have kk:=hK.trans k3
   by_cases h0:chkNum s=0
   ·rw[Yv6 (by omega)]at hz
    simp(disch:=first|(simp;done)|omega|rfl) [hr,hf,h7,h0,hW,Zad]
    exact⟨m,by omega,kk,k+1,by omega,by simp,by simpa using hz⟩
   ·rw[Yv4 (by omega)]at hz
    have h0':¬((chkNum s:Nat):Int)=0:=by omega
    simp[hr,hf,h7,h0,h0',hW,Zad,hz]
    exact kk
 ·rintro _ r ⟨H,n1,W⟩ hr ⟨hW,hK,⟨rfl,hz⟩|⟨rfl,h2⟩⟩
  ·simp only at hW hK
   simp[hr,hz,Ret,hW,hK]
  ·simp only at hW hK
   simp[hr,h2,Ret,hW,hK]
def Zbz(l:List Str)(n:Nat):Int:=if l.length=n then Zam (l.map fun s=>((chkNum s:Nat):Int)) else 2
def hdL(l:List (List Str)):Nat:=(l[0]?.getD []).length
def Zg9(l:List (List Str))(r c:Nat):Int:=if l.length=0∨hdL l=0 then 12 else if r<l.length∨c<hdL l then 5 else Zam (l.map fun x=>Zbz x (hdL l))
def Zxu{l:List Str}{n:Nat}(hs:Sl h N v (strs l))(hl:l.length<100000)(hf0:∀s∈l,s.length≤100000):Fn A.C 44 [v,.int .i64 n] h N (fun u _ _=>u=.int .i64 (Zbz l n)):=by
 intro w
 have hlen:=hs.len
 rw[Zb5]at hlen
 rw[Zab,A.k44 (by simp)]
 by_cases c:l.length=n
 ·subst c
  simp[A.b44,hlen,Zad]
  refine Zac (Yoq hs hl hf0) ?_
  rintro _ H2 n2 k2 rfl
  simp[Ret,Zbz]
  exact k2
 ·have c':¬(l.length:Int)=(n:Int):=by omega
  simp[A.b44,hlen,c',Zbz,c,Ret,Zad]
  exact Keeps.refl
def You{l:List (List Str)}{a b:Nat}(hs:MtS h N v l)(hl:l.length<100000)(hx:∀x∈l,x.length<100000∧∀s∈x,s.length≤100000):Fn A.C 66 [v,.int .i64 a,.int .i64 b] h N (fun u _ _=>u=.int .i64 (Zg9 l a b)):=by
 intro w
 have hlen:=hs.len
 rw[Zab,A.k66 (by simp)]
 by_cases c0:l.length=0
 ·have c0':(l.length:Int)=0:=by omega
  simp[A.b66,hlen,c0,c0',Zg9,Ret,Zad]
  exact Keeps.refl
 have c0':¬(l.length:Int)=0:=by omega
 have cpos:0<l.length:=by omega
 have cpos':0<(l.length:Int):=by omega
 obtain⟨l0,hl0⟩:=Zae cpos
 obtain⟨i0,o0,cc0,e0,rw0,u0,z1,z2,z3,z4,z5⟩:=hs.at hl0
 have z6:=z5.len
 rw[Zb5]at z6
 rw[Yxc]at z4
 obtain⟨n,hn⟩:∃n,n=l0.length:=⟨_,rfl⟩
 have en:hdL l=n:=by simp[hdL,hl0,hn]
 rw[←hn]at z6
 have hn1:n<100000:=by have:=(hx l0 (Yv7 hl0)).1;omega
 by_cases c1:n=0
 ·have c1':(n:Int)=0:=by omega
  simp[A.b66,hlen,c0,c0',cpos,cpos',z1,z2,z3,z4,z6,c1,c1',Zg9,en,Ret,Zad]
  exact Keeps.refl
 have c1':¬(n:Int)=0:=by omega
 by_cases c2:a<l.length
 ·have c2':(a:Int)<(l.length:Int):=by omega
  simp[A.b66,hlen,c0,c0',cpos,cpos',z1,z2,z3,z4,z6,c1,c1',c2,c2',Zg9,en,Ret,Zad]
  exact Keeps.refl
 have c2':¬(a:Int)<(l.length:Int):=by omega
 by_cases c3:b<n
 ·have c3':(b:Int)<(n:Int):=by omega
  simp[A.b66,hlen,c0,c0',cpos,cpos',z1,z2,z3,z4,z6,c1,c1',c2,c2',c3,c3',Zg9,en,Ret,Zad]
  exact Keeps.refl
 ·have c3':¬(b:Int)<(n:Int):=by omega
  have e1:Zg9 l a b=Zam (l.map fun x=>Zbz x n):=by simp[Zg9,en,c0,c1,c2,c3]
  rw[e1]
  simp[A.b66,hlen,c0,c0',cpos,cpos',z1,z2,z3,z4,z6,c1,c1',c2,c2',c3,c3',Ret,Zad]
  refine Zai [(6,8),(31,48)] (fun e r st=>Zaa N st.w=[]∧Keeps h N st.h st.n∧((e=.exit 0∧Zam (l.map fun x=>Zbz x n)=0)∨(e=.ret∧r.get 6=some (.int .i64 (Zam (l.map fun x=>Zbz x n)))))) (fun m r st=>Zaa N st.w=[]∧Keeps h N st.h st.n∧∃k,k+m=l.length∧r.get 7=some (.int .i64 k)∧Zam (l.map fun x=>Zbz x n)=Zam ((l.drop k).map fun x=>Zbz x n)) l.length ?_ ?_ ?_
  ·exact⟨by simp,Keeps.refl,0,by omega,by simp,by simp⟩
  ·rintro m r ⟨H,n1,W⟩ hr hf ⟨hW,hK,k,hk,h7,hz⟩
   simp only at hW hK
   rw[Zah]
   cases m with
   |zero=>
    obtain rfl:k=l.length:=by omega
    rw[Yw5,Yyr,Zam]at hz
    simp[A.lb66_0,hr,hf,h7,hlen,hz,hW,hK]
   |succ m=>
    have hlt:k<l.length:=by omega
    obtain⟨s,hc⟩:=Zae hlt
    obtain⟨i,o,cc,e,rw,u,q1,q2,q3,q4,q5⟩:=(hs.keep hK).at hc
    rw[Zan hc,Yxk,Zam]at hz
    have hk1:(k:Int)<(l.length:Int):=by omega
    obtain⟨i1,o1,cc1,e1,rw1,u1,y1,y2,y3,y4,y5⟩:=(hs.keep hK).at hl0
    have y6:=y5.len
    rw[Zb5,←hn]at y6
    rw[Yxc]at y4
    obtain⟨rfl,rfl⟩:i=i1∧o=o1:=by rw[q1]at y1;simpa using y1
    obtain⟨rfl,rfl,rfl⟩:cc=cc1∧e=e1∧rw=rw1:=by rw[q3]at y3;simpa using y3
    simp[A.lb66_0,hr,hf,h7,hk1,hlt,hlen,q1,q2,q3,q4,cpos,cpos',y4,y6]
    refine Zac (Zxu q5 (hx s (Yv7 hc)).1 (hx s (Yv7 hc)).2) ?_
    rintro _ h3 n3 k3 rfl
    have kk:=hK.trans k3
    by_cases h0:Zbz s n=0
    ·rw[Yv6 h0]at hz
     simp(disch:=first|(simp;done)|omega|rfl) [hr,hf,h7,h0,hW,Zad]
     exact⟨m,by omega,kk,k+1,by omega,by simp,by simpa using hz⟩
    ·rw[Yv4 h0]at hz
     simp[hr,hf,h7,h0,hW,Zad,hz]
     exact kk
  ·rintro _ r ⟨H,n1,W⟩ hr ⟨hW,hK,⟨rfl,hz⟩|⟨rfl,h2⟩⟩
   ·simp only at hW hK
    simp[hr,hz,Ret,hW,hK]
   ·simp only at hW hK
    simp[hr,h2,Ret,hW,hK]
def Zfl(l:List Rat):Bool:=l.any Yav
end Go.Mx
