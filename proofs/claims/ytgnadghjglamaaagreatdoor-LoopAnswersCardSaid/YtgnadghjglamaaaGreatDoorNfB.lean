/-num-/
import Derived.Test.YtgnadghjglamaaaGreatDoorNdB
set_option linter.all false
namespace Go.Mx
noncomputable section
open Go Go.Proofs
variable {N:Nat} {h:T O} {l:List Rat} {v:V}
set_option maxHeartbeats 1000000
set_option maxRecDepth 1000000
def A.w72:=A.q Tryz.f72
def A.lb72_0:=A.ql A.w72 0 []
def A.b72:=(fun x0=>A.qb A.w72 [x0]) A.lb72_0
def A.k72:=@A.kk 72 23 [.tmp 2] A.b72 (by kernel_rfl) rfl
def A.w162:=A.q Tryz.f162
def A.lb162_0:=A.ql A.w162 0 []
def A.b162:=(fun x0=>A.qb A.w162 [x0]) A.lb162_0
def A.k162:=@A.kk 162 23 [.tmp 2] A.b162 (by kernel_rfl) rfl
def FcC(h:T O)(N:Nat)(c:List V)(q:Rat):Prop:=∃n1 u1 n2 u2,c=[.int .i64 n1,u1,.int .i64 n2,u2]∧In h N (.agg [.int .i64 n1,u1]) q.num∧In h N (.agg [.int .i64 n2,u2]) (q.den:Int)
def FcC.keep{h':T O}{N':Nat}{c:List V}{q:Rat}(s:FcC h N c q)(k:Keeps h N h' N'):FcC h' N' c q:=by
 obtain⟨n1,u1,n2,u2,rfl,s1,s2⟩:=s
 exact⟨n1,u1,n2,u2,rfl,s1.keep k,s2.keep k⟩
def FcC.fc{c:List V}{q:Rat}(s:FcC h N c q):Fc h N (.agg c) q:=by
 obtain⟨n1,u1,n2,u2,rfl,s1,s2⟩:=s
 exact⟨n1,u1,n2,u2,rfl,s1,s2⟩
def Fc.c{x:V}{q:Rat}(s:Fc h N x q):∃c,x=.agg c∧FcC h N c q:=by
 obtain⟨n1,u1,n2,u2,rfl,s1,s2⟩:=s
 exact⟨_,rfl,n1,u1,n2,u2,rfl,s1,s2⟩
def NoU(c:List V):Prop:=∀x∈c,∀m,x≠.int .u64 m
def Zv0{n:Int}{u:V}{z:Int}(s:In h N (.agg [.int .i64 n,u]) z):∀m,u≠.int .u64 m:=by
 rcases s with⟨h1,_⟩|⟨i,o,l,c,h1,_⟩
 ·simp at h1;rw[h1.2];simp
 ·simp at h1;rw[h1.2];simp
def FcC.noU{c:List V}{q:Rat}(s:FcC h N c q):NoU c:=by
 obtain⟨n1,u1,n2,u2,rfl,s1,s2⟩:=s
 intro x hx m
 simp at hx
 rcases hx with rfl|rfl|rfl|rfl
 ·simp
 ·exact Zv0 s1 m
 ·simp
 ·exact Zv0 s2 m
def FcC.len{c:List V}{q:Rat}(s:FcC h N c q):c.length=4∧c.all V.one=true:=by
 obtain⟨n1,u1,n2,u2,rfl,s1,s2⟩:=s
 have o1:=Za2 s1
 have o2:=Za2 s2
 exact⟨rfl,by simp only[List.all_cons,List.all_nil,o1,o2,Bool.and_true];rfl⟩
def FcC.setNU{i:Nat}{c c0 c1:List V}{q:Rat}{e0 e1:TypeId}{w0 w1:Bool}(s:FcC h N c q)(g:h.get i=some (.cells c0 e0 w0))(hn:NoU c0)(hc:c1.length=c0.length):FcC (h.set i (.cells c1 e1 w1)) N c q:=by
 obtain⟨n1,u1,n2,u2,rfl,s1,s2⟩:=s
 exact⟨n1,u1,n2,u2,rfl,s1.setNU g hn hc,s2.setNU g hn hc⟩
def FrS(h:T O)(N:Nat)(v:V)(l:List Rat):Prop:=∃cs:List (List V),Sn 4 h N v cs∧cs.length=l.length∧∀(j:Nat) (q:Rat),l[j]?=some q→∃c,cs[j]?=some c∧FcC h N c q
def FrS.keep{h':T O}{N':Nat}(s:FrS h N v l)(k:Keeps h N h' N'):FrS h' N' v l:=by
 obtain⟨cs,h1,h2,h3⟩:=s
 refine⟨cs,h1.keep k,h2,fun j q hq=>?_⟩
 obtain⟨c,g1,g2⟩:=h3 j q hq
 exact⟨c,g1,g2.keep k⟩
def FrS.len(s:FrS h N v l):Zqa v=some l.length:=by
 obtain⟨cs,h1,h2,_⟩:=s
 rw[h1.len,h2]
def FrS.at(s:FrS h N v l){j:Nat}{q:Rat}(hj:l[j]?=some q):∃i o x e rw c,Zn8 v=some (i,o)∧i<N∧h.get i=some (.cells x e rw)∧slc x (o+j*4) 4=some c∧FcC h N c q:=by
 obtain⟨cs,h1,h2,h3⟩:=s
 obtain⟨c,h4,h5⟩:=h3 j q hj
 obtain⟨i,o,x,e,rw,q1,q2,q3,q4⟩:=h1.at h4
 exact⟨i,o,x,e,rw,c,q1,q2,q3,q4,h5⟩
def FrT(h:T O)(N:Nat)(v:V)(l:List Rat):Prop:=FrS h N v l∧∀i∈Zel v,∃z w,h.get i=some (.cells z 110 w)
def tx(l:List Rat):List V:=strs (l.map Zas)
def Zb1(l:List Rat):(tx l).length=l.length:=by simp[tx,strs]
def Zgp{j:Nat}{q:Rat}(h:l[j]?=some q):(tx l)[j]?=some (.str (Zas q)):=by simp[tx,strs,h]
def zF:List V:=[.int .i64 0,.nilslice,.int .i64 0,.nilslice]
def Zho{z:List V}{n:Nat}:Zc8 z (n+1)=z++Zc8 z n:=by
 unfold Zc8
 rw[Nat.succ_mul,Nat.add_comm (n*z.length),List.range_add,List.map_append,List.map_map]
 congr 1
 ·apply Ysw
  intro j
  by_cases hj:j<z.length
  ·rw[Yso,Yve hj]
   simp[Ytl hj,hj]
  ·rw[Yr6 (by simp;omega),Yr6 (by omega)]
 ·apply List.map_congr_left
  intro i _
  simp[Nat.add_mod_left]
def Zhs{a b c x:List V}{n o:Nat}(ha:a.length=o)(hb:b.length=n)(hx:x.length=n):splice (a++(b++c)) o x=a++(x++c):=by
 unfold splice
 rw[←ha,List.take_left,hx,←List.drop_drop,List.drop_left,←hb,List.drop_left,Ysy]
structure FaI (h:T O) (N:Nat) (l:List Rat) (m:Nat) (r:T V) (st:St):Prop where
 w:Zae N st.w=[]
 keep:Keeps h N st.h st.n
 ex:∃(k:Nat) (cs:List (List V)),k+m=l.length∧r.get 11=some (.int .i64 k)∧r.get 3=some (.slice N 0 l.length (some l.length) 4)∧N<st.n∧st.h.get N=some (.cells (cs.flatten++Zc8 zF m) 110 true)∧cs.length=k∧∀(j:Nat) (q:Rat),j<k→l[j]?=some q→∃c,cs[j]?=some c∧FcC st.h st.n c q
def Zuc{cs:List (List V)}(hl:cs.length≤l.length)(hc:∀(j:Nat) (q:Rat),j<cs.length→l[j]?=some q→∃c,cs[j]?=some c∧FcC h N c q):(∀c∈cs,c.length=4)∧NoU cs.flatten∧cs.flatten.all V.one=true:=by
 have key:∀c∈cs,∃q,FcC h N c q:=fun c hcm=>by
  obtain⟨j,hj⟩:=Yu0 hcm
  have hlt:=Zb4 hj
  obtain⟨q,hq⟩:=Zao (l:=l) (k:=j) (by omega)
  obtain⟨c',h1,h2⟩:=hc j q hlt hq
  rw[hj]at h1
  simp only[Yrs]at h1
  subst h1
  exact⟨q,h2⟩
 refine⟨fun c hcm=>?_,fun x hx m=>?_,?_⟩
 ·obtain⟨q,hq⟩:=key c hcm;exact hq.len.1
 ·obtain⟨c,hcm,hxc⟩:=List.mem_flatten.1 hx
  obtain⟨q,hq⟩:=key c hcm
  exact hq.noU x hxc m
 ·rw[Ys5]
  intro x hx
  obtain⟨c,hcm,hxc⟩:=List.mem_flatten.1 hx
  obtain⟨q,hq⟩:=key c hcm
  exact Ys5.1 hq.len.2 x hxc
def Zi6:∀{n:Nat},NoU (Zc8 zF n)
 |0=>by intro x hx;simp[Zc8]at hx
 |n+1=>by
  intro x hx m
  rw[Zho]at hx
  rcases Ysq.1 hx with hx|hx
  ·simp[zF]at hx
   rcases hx with rfl|rfl|rfl|rfl<;>simp
  ·exact Zi6 x hx m
def NoU.app{a b:List V}(ha:NoU a)(hb:NoU b):NoU (a++b):=fun x hx m=>by
 rcases Ysq.1 hx with hx|hx
 ·exact ha x hx m
 ·exact hb x hx m
def Yha(n:Nat):(Zc8 zF n).length=n*4:=by
 induction n with
 |zero=>simp[Zc8]
 |succ n ih=>rw[Zho,Yr8,ih];simp[zF];omega
def Zyn{k0:Nat}(hs:Sl h N v (tx l))(hl:l.length<1000000000)(hq:∀q∈l,Qb k0 q)(hk0:k0≤4000):Fn A.C 72 [v] h N (fun u h' n'=>FrT h' n' u l):=by
 intro w
 have hlen:=hs.len
 rw[Zb1]at hlen
 have c1:(64:Int)*(l.length:Int)≤140737488355328:=by omega
 have c2:(l.length:Int)<4611686018427387904:=by omega
 have kB:Keeps h N (h.set N (.cells (Zc8 zF l.length) 110 true)) (N+1):=Keeps.refl.new _
 rw[Zaf,A.k72 (by simp)]
 simp(disch:=first|(simp;done)|omega|(simp only[Zab,Zaa,Yrr];omega)|rfl) [-getElem?_pos,A.b72,hlen,c1,c2]
 refine Zak [(4,5),(11,21)] (fun e r st=>e=.exit 0∧FaI h N l 0 r st) (FaI h N l) l.length ?_ ?_ ?_
 ·exact⟨by simp,kB,0,[],by omega,by simp,by simp,by show N<N+1;omega,by rw[T.get_set,Yrw rfl];rfl,rfl,fun j q hj=>by omega⟩
 ·rintro m r ⟨H,n1,W⟩ hr hf ⟨hW,hK,k,cs,hk,h11,h3,hN1,hM,hcl,hcs⟩
  simp only at hW hK hM hN1 hcs
  rw[Zai]
  cases m with
  |zero=>
   obtain rfl:k=l.length:=by omega
   simp(disch:=first|(simp;done)|omega|(simp only[Zab,Zaa,Yrr];omega)|rfl) [-getElem?_pos,A.lb72_0,hr,hf,h11]
   exact⟨hW,hK,l.length,cs,by omega,by simp[h11],by simp[h3],hN1,hM,hcl,hcs⟩
  |succ m=>
   have hlt:k<l.length:=by omega
   have hlt':(k:Int)<(l.length:Int):=by omega
   obtain⟨q,hqk⟩:=Zao hlt
   have hqb:=hq q (Yr1 hqk)
   obtain⟨i,o,cc,e,rw,q1,q2,q3,q4⟩:=(hs.keep hK).at (Zgp hqk)
   have la:=Zgl hqb.1
   have la2:=Zix hqb.2
   simp(disch:=first|(simp;done)|omega|(simp only[Zab,Zaa,Yrr];omega)|rfl) [-getElem?_pos,A.lb72_0,hr,hf,h11,h3,hlt,hlt',hlen,q1,q3,q4]
   refine Zac (Yck (q:=q) (by omega) (by omega)) ?_
   rintro _ H2 n2 k2 hf2
   obtain⟨c,rfl,hc⟩:=hf2.c
   have le2:=k2.le
   have nle:=hK.le
   have hM2:=(k2.get N hN1).trans hM
   have hcs2:∀(j:Nat) (q:Rat),j<cs.length→l[j]?=some q→∃c,cs[j]?=some c∧FcC H2 n2 c q:=fun j q hj hq=>by
    obtain⟨c,g1,g2⟩:=hcs j q (by omega) hq
    exact⟨c,g1,g2.keep k2⟩
   obtain⟨f1,f2,f3⟩:=Zuc (l:=l) (by omega) hcs2
   have hfl:=Zbd f1
   obtain⟨e1,e2⟩:=hc.len
   have hsp:splice (cs.flatten++Zc8 zF (m+1)) (k*4) c=(cs++[c]).flatten++Zc8 zF m:=by
    rw[Zho,Zhs (n:=4) (by rw[hfl,hcl]) rfl e1,Zl0,Ysy]
   have hb:k*4+4≤(cs.flatten++Zc8 zF (m+1)).length:=by
    rw[Yr8,hfl,Yha];omega
   have hcc:(V.agg c).cells=c:=rfl
   have hnu:NoU (cs.flatten++Zc8 zF (m+1)):=f2.app Zi6
   have hlen4:((cs++[c]).flatten++Zc8 zF m).length=(cs.flatten++Zc8 zF (m+1)).length:=by
    rw[Zho,Zl0];simp[e1,zF];omega
   generalize cs.flatten++Zc8 zF (m+1)=X at*
   obtain⟨Y,hY⟩:∃Y,(cs++[c]).flatten++Zc8 zF m=Y:=⟨_,rfl⟩
   rw[hY]at hsp hlen4
   simp(disch:=first|(simp;done)|omega|(simp only[Zab,Zaa,Yrr];omega)|rfl) [-getElem?_pos, -V.cells, -V.one,hr,hf,h11,h3,hlt,hlt',hM2,Zam,hcc,e1,e2,hb,hsp]
   have wok:¬N<N:=by omega
   refine⟨m,by omega,⟨by simp[Zae,hW],(hK.trans k2).set (Yru N),k+1,cs++[c],by omega,by simp,by simp[h3],by show N<n2;omega,by show T.get _ N=_;rw[T.get_set,Yrw rfl,hY],by simp[hcl],fun j q' hj hq'=>?_⟩⟩
   by_cases hjk:j<k
   ·obtain⟨c',g1,g2⟩:=hcs j q' hjk hq'
    exact⟨c',by rw[Ysc (by omega)];exact g1,(g2.keep k2).setNU hM2 hnu hlen4⟩
   ·obtain rfl:j=k:=by omega
    rw[hqk]at hq'
    simp only[Yrs]at hq'
    subst hq'
    exact⟨c,by rw[Ysn (by omega),hcl];simp,hc.setNU hM2 hnu hlen4⟩
 ·rintro _ r ⟨H,n1,W⟩ hr ⟨rfl,hW,hK,k,cs,hk,h11,h3,hN1,hM,hcl,hcs⟩
  simp only at hW hK hM hN1 hcs
  obtain rfl:k=l.length:=by omega
  simp(disch:=first|(simp;done)|omega|(simp only[Zab,Zaa,Yrr];omega)|rfl) [-getElem?_pos,hr,h3,Ret,hW,hK]
  have hz:Zc8 zF 0=[]:=by simp[Zc8]
  obtain⟨f1,_,_⟩:=Zuc (l:=l) (by omega) (fun j q hj hq=>hcs j q (by omega) hq)
  have hfl:=Zbd f1
  rw[hz,Ytz]at hM
  refine⟨⟨cs,.inr ⟨N,0,some l.length,cs.flatten,_,true,by rw[hcl],hN1,hM,fun j x hx=>by rw[Yt5];exact Zd1 f1 hx,by omega,fun k hk=>by simp at hk;omega⟩,hcl,fun j q hq=>hcs j q (Zb4 hq) hq⟩,fun i hi=>?_⟩
  simp[Zel]at hi
  subst hi
  exact⟨_,_,hM⟩
structure TaI (h:T O) (N:Nat) (l:List Rat) (m:Nat) (r:T V) (st:St):Prop where
 w:Zae N st.w=[]
 keep:Keeps h N st.h st.n
 ex:∃(k:Nat),k+m=l.length∧r.get 11=some (.int .i64 k)∧r.get 3=some (.slice N 0 l.length (some l.length) 1)∧N<st.n∧st.h.get N=some (.cells (tx (l.take k)++List.replicate m (V.str [])) 22 true)
def Yek{k0:Nat}(hs:FrS h N v l)(hP:P10 h N)(hl:l.length<1000000000)(hq:∀q∈l,Qb k0 q)(hk0:k0≤400000000):Fn A.C 162 [v] h N (fun u h' n'=>Sl h' n' u (tx l)∧∀i∈Zel u,∃z w,h'.get i=some (.cells z 22 w)):=by
 intro w
 have hlen:=hs.len
 have c1:(16:Int)*(l.length:Int)≤140737488355328:=by omega
 have c2:(l.length:Int)<4611686018427387904:=by omega
 have kB:Keeps h N (h.set N (.cells (Zc8 [.str []] l.length) 22 true)) (N+1):=Keeps.refl.new _
 rw[Zaf,A.k162 (by simp)]
 simp(disch:=first|(simp;done)|omega|(simp only[Zab,Zaa,Yrr];omega)|rfl) [-getElem?_pos,A.b162,hlen,c1,c2]
 refine Zak [(4,5),(11,21)] (fun e r st=>e=.exit 0∧TaI h N l 0 r st) (TaI h N l) l.length ?_ ?_ ?_
 ·exact⟨by simp,kB,0,by omega,by simp,by simp,by show N<N+1;omega,by rw[T.get_set,Yrw rfl,Yg9];simp[tx,strs]⟩
 ·rintro m r ⟨H,n1,W⟩ hr hf ⟨hW,hK,k,hk,h11,h3,hN1,hM⟩
  simp only at hW hK hM hN1
  rw[Zai]
  cases m with
  |zero=>
   obtain rfl:k=l.length:=by omega
   simp(disch:=first|(simp;done)|omega|(simp only[Zab,Zaa,Yrr];omega)|rfl) [-getElem?_pos,A.lb162_0,hr,hf,h11]
   exact⟨hW,hK,l.length,by omega,by simp[h11],by simp[h3],hN1,hM⟩
  |succ m=>
   have hlt:k<l.length:=by omega
   have hlt':(k:Int)<(l.length:Int):=by omega
   obtain⟨q,hqk⟩:=Zao hlt
   have hqb:=hq q (Yr1 hqk)
   obtain⟨i,o,x,e,rw,c,q1,q2,q3,q4,q5⟩:=(hs.keep hK).at hqk
   obtain⟨n1',u1,n2',u2,rfl,s1,s2⟩:=q5
   have o1:=Za2 s1
   have o2:=Za2 s2
   unfold V.one at o1 o2
   have la:=Znj hqb.1
   have la2:=Znj hqb.2
   have nle:=hK.le
   have e4:splice [.int .i64 0,.nilslice,.int .i64 0,.nilslice] 0 [.int .i64 n1',u1,.int .i64 n2',u2]=[.int .i64 n1',u1,.int .i64 n2',u2]:=rfl
   have e5:slc [.int .i64 n1',u1,.int .i64 n2',u2] 0 4=some [.int .i64 n1',u1,.int .i64 n2',u2]:=rfl
   have kA:Keeps H n1 ((H.set n1 (.cells [.int .i64 0,.nilslice,.int .i64 0,.nilslice] 110 true)).set n1 (.cells [.int .i64 n1',u1,.int .i64 n2',u2] 110 true)) (n1+1):=(Keeps.refl.new _).set (Yru _)
   simp(disch:=first|(simp;done)|omega|(simp only[Zab,Zaa,Yrr];omega)|rfl) [-getElem?_pos,A.lb162_0,hr,hf,h11,h3,hlt,hlt',hlen,q1,q3,q4,Zaj,Zam,o1,o2,e4,e5]
   refine Zac (Yiq (q:=q) (Fc.keep ⟨n1',u1,n2',u2,rfl,s1,s2⟩ kA) ((hP.keep hK).keep kA) (by omega) (by omega)) ?_
   rintro _ H2 n2 k2 rfl
   have le2:=k2.le
   have hM2:=(k2.get N (by omega)).trans ((kA.get N hN1).trans hM)
   have hb:k+1≤(tx (l.take k)++List.replicate (m+1) (V.str [])).length:=by
    rw[Yr8,Zb1,List.length_replicate,Ysi];omega
   have hsp:splice (tx (l.take k)++List.replicate (m+1) (V.str [])) k [.str (Zas q)]=tx (l.take (k+1))++List.replicate m (V.str []):=by
    have e1:(tx (l.take k)++List.replicate (m+1) (V.str []))=tx (l.take k)++([V.str []]++List.replicate m (V.str [])):=by rw[List.replicate_succ];rfl
    rw[e1,Zhs (n:=1) (by rw[Zb1,Ysi];omega) rfl rfl,Yup,hqk]
    simp[tx,strs]
   generalize tx (l.take k)++List.replicate (m+1) (V.str [])=X at*
   obtain⟨Y,hY⟩:∃Y,tx (l.take (k+1))++List.replicate m (V.str [])=Y:=⟨_,rfl⟩
   rw[hY]at hsp
   simp(disch:=first|(simp;done)|omega|(simp only[Zab,Zaa,Yrr];omega)|rfl) [-getElem?_pos,hr,hf,h11,h3,hlt,hlt',hM2,Zam,hb,hsp]
   refine⟨m,by omega,⟨by simp[Zae,hW];omega,((hK.trans kA).trans k2).set (Yru N),k+1,by omega,by simp,by simp[h3],by show N<n2;omega,by show T.get _ N=_;rw[T.get_set,Yrw rfl,hY]⟩⟩
 ·rintro _ r ⟨H,n1,W⟩ hr ⟨rfl,hW,hK,k,hk,h11,h3,hN1,hM⟩
  simp only at hW hK hM hN1
  obtain rfl:k=l.length:=by omega
  rw[Yt9]at hM
  simp only[List.replicate_zero,Ytz]at hM
  simp(disch:=first|(simp;done)|omega|(simp only[Zab,Zaa,Yrr];omega)|rfl) [-getElem?_pos,hr,h3,Ret,hW,hK]
  exact⟨Sl.row hN1 hM (Zb1 l) (fun k hk=>by simp at hk;omega),fun i hi=>by simp[Zel]at hi;subst hi;exact⟨_,.inr hM⟩⟩
def Tx(h:T O)(N:Nat)(v:V)(l:List Rat):Prop:=Sl h N v (tx l)
def Tx.keep{h h':T O}{N N':Nat}{v:V}{l:List Rat}(s:Tx h N v l)(k:Keeps h N h' N'):Tx h' N' v l:=Sl.keep s k
def Tx.len{h:T O}{N:Nat}{v:V}{l:List Rat}(s:Tx h N v l):Zqa v=some l.length:=by
 have:=Sl.len s
 rwa [Zb1]at this
variable {N:Nat} {h:T O}
def TxT(h:T O)(N:Nat)(u:V)(l:List Rat):Prop:=Tx h N u l∧∀i∈Zel u,∃z w,h.get i=some (.cells z 22 w)
def Yi5{v:V}{l:List V}(s:Sl h N v l):∀i∈Zel v,i<N:=fun i hi=>by
 rcases s with⟨_,rfl|rfl⟩|⟨j,o,cp,c,e,rw,rfl,hj,_⟩
 ·simp[Zel]at hi
 ·simp[Zel]at hi
 ·simp[Zel]at hi;omega
def TxT.keep{h':T O}{N':Nat}{u:V}{l:List Rat}(s:TxT h N u l)(k:Keeps h N h' N'):TxT h' N' u l:=⟨s.1.keep k,fun i hi=>by rw[k.get i (Yi5 s.1 i hi)];exact s.2 i hi⟩
def Ymg{N0:Nat}{v:V}{l:List Rat}(s:Own 1 22 N0 h N v ((tx l).map fun y=>[y])):TxT h N v l:=by
 refine⟨Sn.one.1 s.sn,fun i hi=>?_⟩
 obtain⟨_,⟨_,rfl⟩|⟨j,rfl,_,_,hg⟩⟩:=s
 ·simp[Zel]at hi
 ·simp[Zel]at hi;subst hi;exact⟨_,_,hg⟩
def Zvi{N i:Nat}:∀{w:List Nat},i∈w→i<N→i∈Zae N w
 |[],h,_=>by simp at h
 |j::w,h,hi=>by
  simp only[Zae]
  rcases Yss.1 h with rfl|h
  ·rw[Yrw hi]
   unfold Zfm
   split
   ·rename_i hc;simpa using hc
   ·exact Yst
  ·have:=Zvi h hi
   split
   ·unfold Zfm
    split
    ·exact this
    ·exact Ysj _ this
   ·exact this
def Zpq{n1:Nat}{w w':List Nat}(h:Zae n1 w'=Zae n1 w)(hN:N≤n1)(hw:Zae N w=[]):Zae N w'=[]:=by
 apply List.eq_nil_iff_forall_not_mem.2
 intro i hi
 obtain⟨h1,h2⟩:=Ze2 hi
 have h3:=Zvi h1 (show i<n1 by omega)
 rw[h]at h3
 have h4:=Zvi (Ze2 h3).1 h2
 rw[hw]at h4
 simp at h4
def Yay{w:List Nat}(h:Zae N w=[]):∀i∈w,N≤i:=fun i hi=>by
 apply Ytr
 intro hc
 have:=Zvi hi hc
 rw[h]at this
 simp at this
def Yjn{n:Nat}{a b:List Nat}(ha:Zae N a=[])(hb:Zae N b=[]):Zae N (Zae n a++b)=[]:=Zm0 fun i hi=>by
 rcases Ysq.1 hi with hi|hi
 ·exact Yay ha i (Ze2 hi).1
 ·exact Yay hb i hi
def MtS(h:T O)(N:Nat)(v:V)(m:List (List Str)):Prop:=∃us:List V,Sl h N v us∧us.length=m.length∧∀(j:Nat) (l:List Str),m[j]?=some l→∃u,us[j]?=some u∧Sl h N u (strs l)
def MtS.keep{h h':T O}{N N':Nat}{v:V}{m:List (List Str)}(s:MtS h N v m)(k:Keeps h N h' N'):MtS h' N' v m:=by
 obtain⟨us,h1,h2,h3⟩:=s
 refine⟨us,h1.keep k,h2,fun j l hl=>?_⟩
 obtain⟨u,g1,g2⟩:=h3 j l hl
 exact⟨u,g1,g2.keep k⟩
def MtS.at{h:T O}{N:Nat}{v:V}{m:List (List Str)}(s:MtS h N v m){j:Nat}{l:List Str}(hj:m[j]?=some l):∃i o c e rw u,Zn8 v=some (i,o)∧i<N∧h.get i=some (.cells c e rw)∧c[o+j]?=some u∧Sl h N u (strs l):=by
 obtain⟨us,h1,h2,h3⟩:=s
 obtain⟨u,g1,g2⟩:=h3 j l hj
 obtain⟨i,o,c,e,rw,q1,q2,q3,q4⟩:=h1.at g1
 exact⟨i,o,c,e,rw,u,q1,q2,q3,q4,g2⟩
def A.w13:=A.q Tryz.f13
def A.lb13_0:=A.ql A.w13 0 []
def A.b13:=(fun x0=>A.qb A.w13 [x0]) A.lb13_0
def A.k13:=@A.kk 13 19 [.tmp 2] A.b13 (by kernel_rfl) rfl
def Ygr{h:T O}{N:Nat}{v:V}{l:List Str}(hs:Sl h N v (strs l))(hl:l.length<100000)(hf0:∀s∈l,s.length<9223372036854775808):Fn A.C 13 [v] h N (fun u _ _=>u=.int .i64 (Zan (l.map fun s=>((chkNum s:Nat):Int)))):=by
 intro w
 have hlen:=hs.len
 rw[Zf1]at hlen
 rw[Zaf,A.k13 (by simp)]
 simp(disch:=first|(simp;done)|omega|rfl) [-getElem?_pos,A.b13]
 refine Zak [(2,18)] (fun e r st=>Zae N st.w=[]∧Keeps h N st.h st.n∧((e=.exit 0∧Zan (l.map fun s=>((chkNum s:Nat):Int))=0)∨(e=.ret∧r.get 2=some (.int .i64 (Zan (l.map fun s=>((chkNum s:Nat):Int))))))) (fun m r st=>Zae N st.w=[]∧Keeps h N st.h st.n∧∃k,k+m=l.length∧r.get 3=some (.int .i64 k)∧Zan (l.map fun s=>((chkNum s:Nat):Int))=Zan ((l.drop k).map fun s=>((chkNum s:Nat):Int))) l.length ?_ ?_ ?_
 ·exact⟨by simp,Keeps.refl,0,by omega,by simp,by simp⟩
 ·rintro m r ⟨H,n1,W⟩ hr hf ⟨hW,hK,k,hk,h7,hz⟩
  simp only at hW hK
  rw[Zai]
  cases m with
  |zero=>
   obtain rfl:k=l.length:=by omega
   rw[Yt1,Yua,Zan]at hz
   simp(disch:=first|(simp;done)|omega|rfl) [-getElem?_pos,A.lb13_0,hr,hf,h7,hlen,hz,hW,hK]
  |succ m=>
   have hlt:k<l.length:=by omega
   obtain⟨s,hc⟩:=Zao hlt
   obtain⟨i,o,cc,e,rw,q1,q2,q3,q4⟩:=(hs.keep hK).at (Zpc hc)
   rw[Zaz hc,Ys1,Zan]at hz
   have hk1:(k:Int)<(l.length:Int):=by omega
   simp(disch:=first|(simp;done)|omega|rfl) [-getElem?_pos,A.lb13_0,hr,hf,h7,hk1,hlt,hlen,q1,q3,q4]
   refine Zac (Zku (hf0 s (Yr1 hc))) ?_
   rintro _ h3 n3 k3 rfl
   have kk:=hK.trans k3
   by_cases h0:chkNum s=0
   ·rw[Yrw (by omega)]at hz
    simp(disch:=first|(simp;done)|omega|rfl) [-getElem?_pos,hr,hf,h7,h0,hW,Zag]
    exact⟨m,by omega,kk,k+1,by omega,by simp,by simpa using hz⟩
   ·rw[Yrt (by omega)]at hz
    have h0':¬((chkNum s:Nat):Int)=0:=by omega
    simp(disch:=first|(simp;done)|omega|rfl) [-getElem?_pos,hr,hf,h7,h0,h0',hW,Zag,hz]
    exact kk
 ·rintro _ r ⟨H,n1,W⟩ hr ⟨hW,hK,⟨rfl,hz⟩|⟨rfl,h2⟩⟩
  ·simp only at hW hK
   simp(disch:=first|(simp;done)|omega|rfl) [-getElem?_pos,hr,hz,Ret,hW,hK]
  ·simp only at hW hK
   simp(disch:=first|(simp;done)|omega|rfl) [-getElem?_pos,hr,h2,Ret,hW,hK]
def Ze5(l:List Rat):Bool:=l.any Yd4
def A.b172:=A.q Tryz.f172
def A.k172:=@A.kk 172 9 [.cell 2 (some 4)] A.b172 (by kernel_rfl) rfl
def A.b126:=A.q Tryz.f126
def A.k126:=@A.kk 126 9 [.cell 4 (some 4)] A.b126 (by kernel_rfl) rfl
def Zt7{x:V}{q:Rat}{h:T O}{N:Nat}(hx:Fc h N x q)(l1:wl q.num<1000000000):Fn A.C 172 [x] h N (fun v h' n'=>Fc h' n' v (-q)):=by
 intro w
 rw[Zaf,A.k172 (by simp)]
 obtain⟨n1,u1,n2,u2,rfl,s1,s2⟩:=hx
 have o1:=Za2 s1
 have o2:=Za2 s2
 unfold V.one at o1 o2
 have kB:Keeps h N ((h.set N (.cells [.int .i64 n1,u1,.int .i64 n2,u2] 110 true)).set (N+1) (.cells [.int .i64 0,.nilslice,.int .i64 0,.nilslice] 110 true)) (N+2):=kset (kset Keeps.refl _) _
 simp(disch:=first|(simp;done)|omega|rfl) [-getElem?_pos,A.b172,Zaj,slc,splice,o1,o2]
 generalize hhB:(h.set N (.cells [.int .i64 n1,u1,.int .i64 n2,u2] 110 true)).set (N+1) (.cells [.int .i64 0,.nilslice,.int .i64 0,.nilslice] 110 true)=hB at*
 have b1:hB.get N=some (.cells [.int .i64 n1,u1,.int .i64 n2,u2] 110 true):=by rw[←hhB];simp
 have b3:hB.get (N+1)=some (.cells [.int .i64 0,.nilslice,.int .i64 0,.nilslice] 110 true):=by rw[←hhB];simp
 refine Zac (Zor (s1.keep kB) (by omega)) ?_
 rintro v5 h1 m1 k1 q1
 obtain⟨n3,u3,rfl⟩:∃n3 u3,v5=.agg [.int .i64 n3,u3]:=by
  rcases q1 with⟨rfl,_⟩|⟨_,_,_,_,rfl,_⟩<;>exact⟨_,_,rfl⟩
 have o3:=Za2 q1
 unfold V.one at o3
 have kle1:=k1.le
 have f1:=(k1.get N (by omega)).trans b1
 have f3:=(k1.get (N+1) (by omega)).trans b3
 have e1:N<m1:=by omega
 have e2:N+1<m1:=by omega
 simp(disch:=first|(simp;done)|omega|rfl) [-getElem?_pos,f1,f3,e1,e2,Zaj,slc,splice,Zam,o2,o3,Zal.chk,Ret]
 have kk:=kB.trans k1
 exact⟨kk.set (by omega),n3,u3,n2,u2,rfl,by rw[Rat.neg_num];exact q1.setNU (i:=N+1) f3 nu0 rfl,by rw[Rat.neg_den];exact((s2.keep kB).keep k1).setNU (i:=N+1) f3 nu0 rfl⟩
def Ycj{x y:V}{p q:Rat}{h:T O}{N:Nat}(hx:Fc h N x p)(hy:Fc h N y q)(l1:wl p.num<1000000000)(l2:wl (p.den:Nat)<1000000000)(l3:wl q.num<1000000000)(l4:wl (q.den:Nat)<1000000000):Fn A.C 126 [x,y] h N (fun v h' n'=>Fc h' n' v (p-q)):=by
 intro w
 rw[Zaf,A.k126 (by simp)]
 have hx0:=hx
 have hy0:=hy
 obtain⟨n1,u1,n2,u2,rfl,s1,s2⟩:=hx
 obtain⟨n3,u3,n4,u4,rfl,s3,s4⟩:=hy
 have o1:=Za2 s1
 have o2:=Za2 s2
 have o3:=Za2 s3
 have o4:=Za2 s4
 unfold V.one at o1 o2 o3 o4
 have kB:Keeps h N (((h.set N (.cells [.int .i64 n1,u1,.int .i64 n2,u2] 110 true)).set (N+1) (.cells [.int .i64 n3,u3,.int .i64 n4,u4] 110 true)).set (N+2) (.cells [.int .i64 0,.nilslice,.int .i64 0,.nilslice] 110 true)) (N+3):=kset (kset (kset Keeps.refl _) _) _
 simp(disch:=first|(simp;done)|omega|rfl) [-getElem?_pos,A.b126,Zaj,slc,splice,o1,o2,o3,o4]
 generalize hhB:((h.set N (.cells [.int .i64 n1,u1,.int .i64 n2,u2] 110 true)).set (N+1) (.cells [.int .i64 n3,u3,.int .i64 n4,u4] 110 true)).set (N+2) (.cells [.int .i64 0,.nilslice,.int .i64 0,.nilslice] 110 true)=hB at*
 have b1:hB.get N=some (.cells [.int .i64 n1,u1,.int .i64 n2,u2] 110 true):=by rw[←hhB];simp
 have b2:hB.get (N+1)=some (.cells [.int .i64 n3,u3,.int .i64 n4,u4] 110 true):=by rw[←hhB];simp
 have b3:hB.get (N+2)=some (.cells [.int .i64 0,.nilslice,.int .i64 0,.nilslice] 110 true):=by rw[←hhB];simp
 refine Zac (Zt7 (hy0.keep kB) l3) ?_
 rintro v5 h1 m1 k1 q1
 have kle1:=k1.le
 have f1:=(k1.get N (by omega)).trans b1
 have f2:=(k1.get (N+1) (by omega)).trans b2
 have f3:=(k1.get (N+2) (by omega)).trans b3
 have e1:N<m1:=by omega
 have e2:N+1<m1:=by omega
 simp(disch:=first|(simp;done)|omega|rfl) [-getElem?_pos,f1,f2,e1,e2,Zaj,slc,splice]
 refine Zac (Znc ((hx0.keep kB).keep k1) q1 l1 l2 (by rw[Rat.neg_num,Zqf];exact l3) (by rw[Rat.neg_den];exact l4)) ?_
 rintro v7 h3 m3 k3 hv
 rw[←Rat.sub_eq_add_neg]at hv
 obtain⟨n5,u5,n6,u6,rfl,t1,t2⟩:=hv
 have o5:=Za2 t1
 have o6:=Za2 t2
 unfold V.one at o5 o6
 have kle3:=k3.le
 have f5:=(k3.get (N+2) (by omega)).trans f3
 have e3:N+2<m3:=by omega
 simp(disch:=first|(simp;done)|omega|rfl) [-getElem?_pos,f5,e3,Zaj,slc,splice,Zam,o5,o6,Zal.chk,Ret]
 have kk:=(kB.trans k1).trans k3
 exact⟨kk.set (by omega),n5,u5,n6,u6,rfl,t1.setNU (i:=N+2) f5 nu0 rfl,t2.setNU (i:=N+2) f5 nu0 rfl⟩
def Qb.wls{q:Rat}{k:Nat}(h:Qb k q):wl q.num≤k∧wl (q.den:Nat)≤k:=⟨Yd8 h.1,Yd8 (z:=(q.den:Int)) (k:=k) (by rw[Yrz];exact h.2)⟩
def A.b157:=A.q Tryz.f157
def A.k157:=@A.kk 157 14 [.tmp 2] A.b157 (by kernel_rfl) rfl
def A.w21:=A.q Tryz.f21
def A.lb21_0:=A.ql A.w21 0 []
def A.b21:=(fun x0=>A.qb A.w21 [x0]) A.lb21_0
def A.k21:=@A.kk 21 19 [.tmp 2] A.b21 (by kernel_rfl) rfl
def A.b33:=A.q Tryz.f33
def A.k33:=@A.kk 33 15 [.tmp 6] A.b33 (by kernel_rfl) rfl
def A.b78:=A.q Tryz.f78
def A.k78:=@A.kk 78 12 [.tmp 2] A.b78 (by kernel_rfl) rfl
def Zph{q:Rat}:sg3 q.num<0↔q<0:=by
 have:q<0↔q.num<0:=by
  rw[Rat.lt_iff];simp
 rw[this];unfold sg3;split
 ·simp[*]
 ·split<;>simp[*]<;>omega
def Zjx(s:Str):Int:=if chkNum s=0 then (if ratS s<0 then 3 else 0) else (chkNum s:Nat)
def Zha{q:Rat}{k:Nat}(hq:Qb k q)(hk:k≤90000){h:T O}{N:Nat}:Fn A.C 92 [.str (Zas q)] h N (fun v h' n'=>Fc h' n' v q):=
 Yck (by have:=Zgl hq.1;omega) (by
  have:=Zgl (z:=(q.den:Int)) (k:=k) (by simpa using hq.2)
  unfold decI at this;rw[Yrt (by omega)]at this;simp at this;omega)
def Zvm{s:Str}{n:Nat}(hl:s.length≤n)(hn:n≤20000){h:T O}{N:Nat}:Fn A.C 157 [.str s] h N (fun u _ _=>u=.int .i64 (Zjx s)):=by
 intro w
 rw[Zaf,A.k157 (by simp)]
 simp(disch:=first|(simp;done)|omega|rfl) [-getElem?_pos,A.b157]
 refine Zac (Zwd (by omega)) ?_
 rintro _ h1 n1 k1 rfl
 by_cases c:chkNum s=0
 ·have hq:=Znl c hl
  have e:=(Zcd c).1
  have c':=c
  unfold Zjx
  rw[Yrw c]
  generalize ratS s=q at*
  subst e
  simp(disch:=first|(simp;done)|omega|rfl) [-getElem?_pos,c',Zag]
  refine Zac (Zha hq (by omega)) ?_
  rintro v h2 n2 k2 hv
  simp(disch:=first|(simp;done)|omega|rfl) [-getElem?_pos,]
  refine Zac (Yf7 hv) ?_
  rintro _ h3 n3 k3 rfl
  by_cases hz:q<0
  ·have:=Zph.2 hz
   simp(disch:=first|(simp;done)|omega|rfl) [-getElem?_pos,this,Zgu,Ret,hz]
   exact(k1.trans k2).trans k3
  ·have:¬sg3 q.num<0:=fun hc=>hz (Zph.1 hc)
   simp(disch:=first|(simp;done)|omega|rfl) [-getElem?_pos,this,Zgu,Ret,hz]
   exact(k1.trans k2).trans k3
 ·have c':¬((chkNum s:Nat):Int)=0:=by omega
  simp(disch:=first|(simp;done)|omega|rfl) [-getElem?_pos,c',Zag,Zjx,c,Ret]
  exact k1
def Zw9{h:T O}{N:Nat}{v:V}{l:List Int}{w:List Nat}(hs:Sl h N v (dI l))(hl:l.length<1000):A.C.call (.func 21 [] []) [v] ⟨h,N,w⟩=some (.int .i64 (Zan l),⟨h,N,w⟩):=by
 apply Call.eq
 have hlen:=hs.len
 rw[Zat]at hlen
 rw[Zaf,A.k21 (by simp)]
 simp(disch:=first|(simp;done)|omega|rfl) [-getElem?_pos,A.b21]
 refine Zak [(2,18)] (fun e r st=>st=⟨h,N,[]⟩∧((e=.exit 0∧Zan l=0)∨(e=.ret∧r.get 2=some (.int .i64 (Zan l))))) (fun m r st=>st=⟨h,N,[]⟩∧∃k,k+m=l.length∧r.get 3=some (.int .i64 k)∧Zan l=Zan (l.drop k)) l.length ?_ ?_ ?_
 ·exact⟨rfl,0,by omega,by simp,by simp⟩
 ·rintro m r _ hr hf ⟨rfl,k,hk,h7,hz⟩
  rw[Zai]
  cases m with
  |zero=>
   obtain rfl:k=l.length:=by omega
   rw[Yt1,Zan]at hz
   simp(disch:=first|(simp;done)|omega|rfl) [-getElem?_pos,A.lb21_0,hr,hf,h7,hlen,hz]
  |succ m=>
   have hlt:k<l.length:=by omega
   obtain⟨c,hc⟩:=Zao hlt
   obtain⟨i,o,cc,e,rw,q1,q2,q3,q4⟩:=hs.at (Zbj hc)
   rw[Zaz hc,Zan]at hz
   have hk1:(k:Int)<(l.length:Int):=by omega
   by_cases h0:c=0
   ·rw[Yrw h0]at hz
    simp(disch:=first|(simp;done)|omega|rfl) [-getElem?_pos,A.lb21_0,hr,hf,h7,hk1,hlt,hlen,q1,q3,q4,Zag,h0]
    exact⟨m,by omega,k+1,by omega,by simp,hz⟩
   ·rw[Yrt h0]at hz
    simp(disch:=first|(simp;done)|omega|rfl) [-getElem?_pos,A.lb21_0,hr,hf,h7,hk1,hlt,hlen,q1,q3,q4,Zag,h0,hz]
 ·rintro _ r _ hr ⟨rfl,⟨rfl,hz⟩|⟨rfl,h2⟩⟩
  ·simp(disch:=first|(simp;done)|omega|rfl) [-getElem?_pos,hr,hz]
  ·simp(disch:=first|(simp;done)|omega|rfl) [-getElem?_pos,hr,h2]
def Zu7{h:T O}{N i:Nat}{w:List Nat}{a0 a1:Int}(hi:i<N):A.C.call (.func 21 [] []) [.slice i 0 2 (some 2) 1] ⟨h.set i (.cells [.int .i64 a0,.int .i64 a1] 3 true),N,w⟩=some (.int .i64 (Zan [a0,a1]),⟨h.set i (.cells [.int .i64 a0,.int .i64 a1] 3 true),N,w⟩):=
 Zw9 (l:=[a0,a1]) (Sl.row (e:=3) (rw:=true) (cp:=some 2) hi (by simp[dI]) rfl (by simp)) (by simp)
def Zw8{x lo hi:Int}{st:St}:A.C.call (.func 33 [] []) [.int .i64 x,.int .i64 lo,.int .i64 hi] st=some (.int .i64 (if x<lo∨hi<x then 3 else 0),st):=by
 apply Call.eq
 rw[Zaf,A.k33 (by simp)]
 by_cases h1:x<lo
 ·simp(disch:=first|(simp;done)|omega|rfl) [-getElem?_pos,A.b33,h1]
 ·by_cases h2:hi<x<;>simp(disch:=first|(simp;done)|omega|rfl) [-getElem?_pos,A.b33,h1,h2]
def Zs3{s:Str}(hl:s.length<9223372036854775808){h:T O}{N:Nat}:Fn A.C 78 [.str s] h N (fun u _ _=>u=.int .i64 (Zjx s)):=by
 intro w
 rw[Zaf,A.k78 (by simp)]
 simp(disch:=first|(simp;done)|omega|rfl) [-getElem?_pos,A.b78]
 refine Zac (Zku hl) ?_
 rintro _ h1 n1 k1 rfl
 by_cases c:chkNum s=0
 ·have e:=(Zcd c).1
  have c':=c
  unfold Zjx
  rw[Yrw c]
  generalize ratS s=q at*
  subst e
  have hs:=fun st=>Zlr (q:=q) (st:=st)
  by_cases hz:q<0
  ·have:=Zph.2 hz
   simp(disch:=first|(simp;done)|omega|rfl) [-getElem?_pos,this,c',Zag,hs,Ret,hz]
   exact k1
  ·have:¬sg3 q.num<0:=fun hc=>hz (Zph.1 hc)
   simp(disch:=first|(simp;done)|omega|rfl) [-getElem?_pos,this,c',Zag,hs,Ret,hz]
   exact k1
 ·have c':¬((chkNum s:Nat):Int)=0:=by omega
  simp(disch:=first|(simp;done)|omega|rfl) [-getElem?_pos,c',Zag,Zjx,c,Ret]
  exact k1
end
end Go.Mx
