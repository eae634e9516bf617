/-reconstruct-/
import Derived.Test.YthekjfgljafnaaaGreatDoorVbA
set_option linter.all false
namespace Go.Mx
open Go Go.Proofs
variable {N:Nat} {h:T O} {l:List Rat} {m:List (List Rat)} {u v:V}
set_option maxRecDepth 1000000
noncomputable def A.w184:=A.q Tryz.f184
noncomputable def A.lb184_0:=A.ql A.w184 0 []
noncomputable def A.b184:=(fun x0=>A.qb A.w184 [x0]) A.lb184_0
def A.k184:=@A.kk 184 19 [.tmp 4] A.b184 (by kernel_rfl) rfl
def Yny{f:V}(l:List (List V))(p:Nat→Bool)(hs:Sn 4 h N v l)(hl:l.length<1152921504606846976)(hf:∀(j:Nat) (x:List V),l[j]?=some x→∀h' n',Keeps h N h' n'→FnV A.C f [.agg x] h' n' (fun u _ _=>u=.bool (p j))):Fn A.C 184 [v,f] h N (fun u _ _=>u=.int .i64 (Zct p 0 l.length)):=by
 intro w
 have hlen:=hs.len
 rw[Zab,A.k184 (by simp)]
 simp[A.b184,hlen]
 refine Zai [(4,5),(8,18)] (fun e r st=>Zaa N st.w=[]∧Keeps h N st.h st.n∧((e=.exit 0∧Zct p 0 l.length= -1)∨(e=.ret∧r.get 4=some (.int .i64 (Zct p 0 l.length))))) (fun m r st=>Zaa N st.w=[]∧Keeps h N st.h st.n∧∃k,k+m=l.length∧r.get 8=some (.int .i64 k)∧Zct p 0 l.length=Zct p k m) l.length ?_ ?_ ?_
 ·exact⟨by simp,Keeps.refl,0,by omega,by simp,rfl⟩
 ·rintro m r ⟨H,n1,W⟩ hr hf2 ⟨hW,hK,k,hk,h8,hz⟩
  simp only at hW hK
  rw[Zah]
  cases m with
  |zero=>
   have:k=l.length:=by omega
   subst this
   simp only[Zct]at hz
   simp[A.lb184_0,hr,hf2,h8,hW,hK,hz]
  |succ m=>
   have hlt:k<l.length:=by omega
   obtain⟨c,hc⟩:=Zae hlt
   obtain⟨i,o,cc,e,rw,q1,q2,q3,q4⟩:=hs.at hc
   have q3:=(hK.get _ q2).trans q3
   have hk1:(k:Int)<(l.length:Int):=by omega
   simp only[Zct]at hz
   simp[A.lb184_0,hr,hf2,h8,hk1,hlt,hlen,q1,q3,q4,hW]
   refine Zhn (hf k c hc _ _ hK) ?_
   rintro v h2 n2 k2 rfl
   have kk:=hK.trans k2
   cases hp:p k
   ·rw[hp]at hz
    simp(disch:=first|(simp;done)|omega|rfl) [hr,hf2,h8,hW,kk]
    exact⟨m,by omega,k+1,by omega,by simp,by simpa using hz⟩
   ·rw[hp]at hz
    simp[hr,hf2,h8,hW,kk]
    simpa using hz.symm
 ·rintro e r ⟨H,n1,W⟩ hr ⟨hW,hK,⟨rfl,hz⟩|⟨rfl,h4⟩⟩
  ·simp only at hW hK
   simp[hr,hz,Ret,hW,hK]
  ·simp only at hW hK
   simp[hr,h4,Ret,hW,hK]
noncomputable def A.b114:=A.q Tryz.f114
def A.k114:=@A.kk 114 9 [.tmp 4] A.b114 (by kernel_rfl) rfl
noncomputable def A.b50:=A.q Tryz.f50
def A.k50:=@A.kk 50 8 [.tmp 2,.tmp 3] A.b50 (by kernel_rfl) rfl
noncomputable def A.w75:=A.q Tryz.f75
noncomputable def A.lb75_0:=A.ql A.w75 0 []
noncomputable def A.b75:=(fun x0=>A.qb A.w75 [x0]) A.lb75_0
def A.k75:=@A.kk 75 32 [.tmp 6] A.b75 (by kernel_rfl) rfl
def Yja{f:V}(l:List (List V))(p:Nat→Bool)(hs:Sn 4 h N v l)(hl:l.length<1152921504606846976)(hf:∀(j:Nat) (x:List V),l[j]?=some x→∀h' n',Keeps h N h' n'→FnV A.C f [.agg x] h' n' (fun u _ _=>u=.bool (p j))):Fn A.C 114 [v,f] h N (fun u _ _=>u=.bool (decide (0≤Zct p 0 l.length))):=by
 intro w
 rw[Zab,A.k114 (by simp)]
 simp[A.b114]
 refine Zac (Yny l p hs hl hf) ?_
 rintro v h2 n2 k2 rfl
 simp[Ret,k2]
def Zz6:decide (0≤Zct (fun j=>Yav (l[j]?.getD 0)) 0 l.length)=Zfl l:=by
 rw[Bool.eq_iff_iff,decide_eq_true_eq,Zs6]
 unfold Zfl
 rw[List.any_eq_true]
 constructor
 ·rintro⟨j,_,h2,h3⟩
  obtain⟨q,hq⟩:=Zae (l:=l) (k:=j) (by omega)
  rw[hq]at h3
  exact⟨q,Yv7 hq,h3⟩
 ·rintro⟨q,hq,h3⟩
  obtain⟨j,hj⟩:=Yxq hq
  exact⟨j,Yyj _,by have:=Zau hj;omega,by rw[hj];exact h3⟩
def Zv7{h:T O}{N:Nat}{u:V}{l:List Rat}{k:Nat}(hu:FrS h N u l)(hP:P10 h N)(hl:l.length<1000000000)(hq:∀q∈l,Qb k q)(hk:k≤400000000):Fn A.C 50 [u] h N (fun x h' n'=>(Zfl l=true∧x=.tup [.nilslice,.int .i64 4])∨(Zfl l=false∧∃v,x=.tup [v,.int .i64 0]∧TxT h' n' v l)):=by
 intro w
 obtain⟨cs,s1,s2,s3⟩:=id hu
 have key:=Yja (f:=.func 91 [] []) cs (fun j=>Yav (l[j]?.getD 0)) s1 (by omega) (fun j x hx h' n' hk'=>by
  obtain⟨q,hqj⟩:=Zae (l:=l) (k:=j) (by have:=Zau hx;omega)
  obtain⟨c,g1,g2⟩:=s3 j q hqj
  rw[hx]at g1
  obtain rfl:x=c:=by simpa using g1
  simp only[hqj,Yxg]
  exact Yef (g2.keep hk').fc (hP.keep hk') (hq q (Yv7 hqj)) (by omega))
 rw[s2,Zz6]at key
 rw[Zab,A.k50 (by simp)]
 simp[A.b50]
 refine Zac key ?_
 rintro _ h2 n2 k2 rfl
 cases hb:Zfl l with
 |true=>
  simp[Ret]
  exact k2
 |false=>
  simp[]
  refine Zac (Ygg (k0:=k) (hu.keep k2) (hP.keep k2) hl hq hk) ?_
  rintro v h3 n3 k3 t1
  simp[Ret]
  exact⟨k2.trans k3,t1⟩
def Yli{k:Nat}(hu:FrS h N u l)(hP:P10 h N)(hl:l.length<1000000000)(hq:∀q∈l,Qb k q)(hk:k≤400000000):Fn A.C 50 [u] h N (fun x h' n'=>(Zfl l=true∧x=.tup [.nilslice,.int .i64 4])∨(Zfl l=false∧∃v,x=.tup [v,.int .i64 0]∧Tx h' n' v l)):=fun w=>(Zv7 hu hP hl hq hk w).mono fun x st ⟨a,b,c⟩=>⟨a,b,c.imp id fun ⟨e,v,r,t⟩=>⟨e,v,r,t.1⟩⟩
def MfO(N0:Nat)(h:T O)(N:Nat)(v:V)(m:List (List Rat)):Prop:=∃us:List V,Own 1 80 N0 h N v (us.map fun y=>[y])∧(us=[]→v=.nilslice)∧us.length=m.length∧∀(j:Nat) (l:List Rat),m[j]?=some l→∃u,us[j]?=some u∧FrT h N u l
def MfO.nil{N0:Nat}:MfO N0 h N .nilslice []:=⟨[],Own.nil,fun _=>rfl,rfl,fun j l hl=>by simp at hl⟩
def MfO.keep{N0:Nat}{h':T O}{N':Nat}(s:MfO N0 h N v m)(k:Keeps h N h' N'):MfO N0 h' N' v m:=by
 obtain⟨us,h1,h2,h3,h4⟩:=s
 refine⟨us,h1.keep k,h2,h3,fun j l hl=>?_⟩
 obtain⟨u,g1,g2⟩:=h4 j l hl
 exact⟨u,g1,g2.keep k⟩
def MfO.mfs{N0:Nat}(s:MfO N0 h N v m):MfS h N v m:=by
 obtain⟨us,h1,h2,h3,h4⟩:=s
 exact⟨us,Sn.one.1 h1.sn,h3,h4⟩
def MfO.push{N0:Nat}{x:V}{w:List Nat}(s:MfO N0 h N v m)(hu:FrT h N u l)(hN:N0≤N)(hx:Zaz ⟨h,N,w⟩ 1 x=some (1,[u]))(hm:m.length<100000):
  ∃v' h' w',Zb0 ⟨h,N,w⟩ 1 24 80 v x=some (v',⟨h',N+1,w'⟩)∧Zaa N0 w'=Zaa N0 w∧Keeps h N0 h' (N+1)∧MfO N0 h' (N+1) v' (m++[l]):=by
 obtain⟨us,h1,h2,h3,h4⟩:=s
 obtain⟨v',h',w',f1,f2,f3,f4,fD,f5⟩:=Zdj (Y:=NW) (x:=[u]) (u:=x) (bytes:=24) (w:=w) h1 (fun h0=>h2 (List.map_eq_nil_iff.1 h0)) (fun c hc y hy=>by
  obtain⟨z,hz,rfl⟩:=Ywv.1 hc
  obtain rfl:y=z:=by simpa using hy
  obtain⟨j,hj⟩:=Yxq hz
  obtain⟨r,hr⟩:=Zae (l:=m) (k:=j) (by have:=Zau hj;omega)
  obtain⟨u',g1,g2⟩:=h4 j r hr
  rw[hj]at g1
  obtain rfl:y=u':=by simpa using g1
  exact g2.1.form.2.2) hN (by decide) rfl hx (by rw[Yw7];omega)
 refine⟨v',h',w',f1,f2,f3,us++[u],by simpa using f5,by simp,by simp[h3],fun j r hr=>?_⟩
 by_cases hj:j<m.length
 ·rw[Ywp hj]at hr
  obtain⟨u',g1,g2⟩:=h4 j r hr
  exact⟨u',by rw[Ywp (by omega)];exact g1,g2.moved f4 fD (by simp)⟩
 ·rw[Yw0 (by omega)]at hr
  cases hd:j-m.length with
  |zero=>
   rw[hd]at hr
   simp at hr
   subst hr
   exact⟨u,by rw[Yw0 (by omega),h3,hd];rfl,hu.moved f4 fD (by simp)⟩
  |succ d=>rw[hd]at hr;simp at hr
variable {a b:List Rat}
set_option maxHeartbeats 2000000
def Zmu(F:Rat→Rat→Rat)(a b:List Rat)(n:Nat):List Rat:=(List.range n).map fun k=>F (a[k]?.getD 0) (b[k]?.getD 0)
def Zqc{F:Rat→Rat→Rat}{n j:Nat}(h:j<n):(Zmu F a b n)[j]?=some (F (a[j]?.getD 0) (b[j]?.getD 0)):=by
 simp[Zmu,h]
def Zgg{F:Rat→Rat→Rat}{n:Nat}:(Zmu F a b n).length=n:=by simp[Zmu]
structure JnI (F:Rat→Rat→Rat) (h:T O) (N:Nat) (a b:List Rat) (m:Nat) (r:T V) (st:St):Prop where
 w:Zaa N st.w=[]
 keep:Keeps h N st.h st.n
 ex:∃(k:Nat) (cs:List (List V)),k+m=a.length∧r.get 14=some (.int .i64 k)∧N<st.n∧st.h.get N=some (.cells (cs.flatten++Zck zF m) 111 true)∧cs.length=k∧∀(j:Nat) (q:Rat),j<k→(Zmu F a b a.length)[j]?=some q→∃c,cs[j]?=some c∧FcC st.h st.n c q
def Yns{h:T O}{N:Nat}{u v f:V}(F:Rat→Rat→Rat)(hu:FrS h N u a)(hv:FrS h N v b)(hab:a.length≤b.length)(hF:∀x∈a,∀y∈b,∀(h':T O) (n':Nat) (ca cb:List V),Keeps h N h' n'→FcC h' n' ca x→FcC h' n' cb y→FnV A.C f [.agg ca,.agg cb] h' n' (fun z h2 n2=>Fc h2 n2 z (F x y)))(hl:a.length<1000000000):Fn A.C 75 [u,v,f] h N (fun x h' n'=>FrT h' n' x (Zmu F a b a.length)):=by
 intro w
 have l1:=hu.len
 have l2:=hv.len
 have c1:(64:Int)*(a.length:Int)≤140737488355328:=by omega
 have c2:(a.length:Int)<4611686018427387904:=by omega
 have kB:Keeps h N (h.set N (.cells (Zck zF a.length) 111 true)) (N+1):=Keeps.refl.new _
 rw[Zab,A.k75 (by simp)]
 simp[A.b75,l1,c1,c2]
 refine Zai [(8,8),(14,30)] (fun e r st=>e=.exit 0∧JnI F h N a b 0 r st) (JnI F h N a b) a.length ?_ ?_ ?_
 ·exact⟨by simp,kB,0,[],by omega,by simp,by show N<N+1;omega,by rw[T.get_set,Yv6 rfl];rfl,rfl,fun j q hj=>by omega⟩
 ·rintro m r ⟨H,n1,W⟩ hr hf ⟨hW,hK,t,cs,ht,h14,hN1,hM,hcl,hcs⟩
  simp only at hW hK hM hN1 hcs
  rw[Zah]
  cases m with
  |zero=>
   obtain rfl:t=a.length:=by omega
   simp[A.lb75_0,hr,hf,h14]
   exact⟨hW,hK,a.length,cs,by omega,by simp[h14],hN1,hM,hcl,hcs⟩
  |succ m=>
   have hlt:t<a.length:=by omega
   have hlt':(t:Int)<(a.length:Int):=by omega
   have hlb:t<b.length:=by omega
   have hlb':(t:Int)<(b.length:Int):=by omega
   obtain⟨x,hx⟩:=Zae hlt
   obtain⟨y,hy⟩:=Zae hlb
   obtain⟨i,o,cc,e,rw,ca,q1,q2,q3,q4,q5⟩:=(hu.keep hK).at hx
   obtain⟨i',o',cc',e',rw',cb,p1,p2,p3,p4,p5⟩:=(hv.keep hK).at hy
   have hi:i<N:=by
    obtain⟨i2,_,_,_,_,_,z1,z2,_⟩:=hu.at hx
    rw[q1]at z1
    simp at z1
    omega
   have hi':i'<N:=by
    obtain⟨i2,_,_,_,_,_,z1,z2,_⟩:=hv.at hy
    rw[p1]at z1
    simp at z1
    omega
   simp[A.lb75_0,hr,hf,h14,l1,l2,hlt,hlt',hlb,hlb',q1,q2,q3,q4,p1,p2,p3,p4]
   refine Zhn (hF x (Yv7 hx) y (Yv7 hy) _ _ _ _ hK q5 p5) ?_
   rintro _ H2 n2 k2 hf2
   obtain⟨c,rfl,hc⟩:=hf2.c
   have le2:=k2.le
   have nle:=hK.le
   have hM2:=(k2.get N hN1).trans hM
   have hcs2:∀(j:Nat) (q:Rat),j<cs.length→(Zmu F a b a.length)[j]?=some q→∃c,cs[j]?=some c∧FcC H2 n2 c q:=fun j q hj hq=>by
    obtain⟨c,g1,g2⟩:=hcs j q (by omega) hq
    exact⟨c,g1,g2.keep k2⟩
   obtain⟨f1,f2,f3⟩:=Zn4 (l:=Zmu F a b a.length) (by rw[Zgg];omega) hcs2
   have hfl:=Zbi f1
   obtain⟨e1,e2⟩:=hc.len
   have hsp:splice (cs.flatten++Zck zF (m+1)) (t*4) c=(cs++[c]).flatten++Zck zF m:=by
    rw[Zfm,Zf1 (n:=4) (by rw[hfl,hcl]) rfl e1,Zik,Yxf]
   have hb4:t*4+4≤(cs.flatten++Zck zF (m+1)).length:=by
    rw[Ywl,hfl,Yay];omega
   have hcc:(V.agg c).cells=c:=rfl
   have hnu:NoU (cs.flatten++Zck zF (m+1)):=f2.app Zjq
   have hlen4:((cs++[c]).flatten++Zck zF m).length=(cs.flatten++Zck zF (m+1)).length:=by
    rw[Zfm,Zik];simp[e1,zF];omega
   generalize cs.flatten++Zck zF (m+1)=X at*
   obtain⟨Y,hY⟩:∃Y,(cs++[c]).flatten++Zck zF m=Y:=⟨_,rfl⟩
   rw[hY]at hsp hlen4
   have d1:N<n2:=by omega
   have d2:¬i=N:=by omega
   have d3:¬i'=N:=by omega
   simp(disch:=first|(simp;done)|omega|rfl) [-V.cells, -V.one,hr,hf,h14,hlt,hlt',hM2,Zal,hcc,e1,e2,hb4,hsp]
   have wok:¬N<N:=by omega
   refine⟨m,by omega,⟨by simp[d1,Zaa,hW],(hK.trans k2).set (Yv5 N),t+1,cs++[c],by omega,by simp,d1,by show T.get _ N=_;rw[T.get_set,Yv6 rfl,hY],by simp[hcl],fun j q' hj hq'=>?_⟩⟩
   by_cases hjk:j<t
   ·obtain⟨c',g1,g2⟩:=hcs j q' hjk hq'
    exact⟨c',by rw[Ywp (by omega)];exact g1,(g2.keep k2).setNU hM2 hnu hlen4⟩
   ·obtain rfl:j=t:=by omega
    rw[Zqc hlt,hx,hy]at hq'
    simp only[Yxg,Yv3]at hq'
    subst hq'
    exact⟨c,by rw[Yw0 (by omega),hcl];simp,hc.setNU hM2 hnu hlen4⟩
 ·rintro _ r ⟨H,n1,W⟩ hr ⟨rfl,hW,hK,t,cs,ht,h14,hN1,hM,hcl,hcs⟩
  simp only at hW hK hM hN1 hcs
  obtain rfl:t=a.length:=by omega
  simp[hr,Ret,hW,hK]
  have hz:Zck zF 0=[]:=by simp[Zck]
  obtain⟨f1,_,_⟩:=Zn4 (l:=Zmu F a b a.length) (by rw[Zgg];omega) (fun j q hj hq=>hcs j q (by omega) hq)
  have hfl:=Zbi f1
  rw[hz,Yyb]at hM
  refine⟨⟨cs,.inr ⟨N,0,some a.length,cs.flatten,_,true,by rw[hcl],hN1,hM,fun j x hx=>by rw[Yyt];exact Zfj f1 hx,by omega,fun k hk=>by simp at hk;omega⟩,by rw[Zgg];exact hcl,fun j q hq=>hcs j q (by have:=Zau hq;rw[Zgg]at this;omega) hq⟩,fun i hi=>?_⟩
  simp[Zel]at hi
  subst hi
  exact⟨_,_,hM⟩
variable {l:List Str} {m:List (List Str)} {n:Nat}
set_option maxHeartbeats 2000000
noncomputable def A.b11:=A.q Tryz.f11
def A.k11:=@A.kk 11 22 [.tmp 4,.tmp 5] A.b11 (by kernel_rfl) rfl
def Ztp(l:List Str):List Rat:=l.map Zo0
def Zdq(m:List (List Str)):List (List Rat):=m.map Ztp
def Zcc:∀{l:List Int},Zam l=0→∀x∈l,x=0
 |[],_,x,hx=>by simp at hx
 |y::l,h,x,hx=>by
  simp only[Zam]at h
  split at h
  ·rename_i h0
   rcases Yxa.1 hx with rfl|hx
   ·exact h0
   ·exact Zcc h x hx
  ·rename_i h0;exact absurd h h0
def OkL(l:List Str):Prop:=∀s∈l,chkNum s=0∧s.length≤24
def OkL.txt(h:OkL l):(Ztp l).map Zax=l:=by
 unfold Ztp
 rw[List.map_map]
 conv=>rhs;rw[←List.map_id l]
 apply Yyp
 intro s hs
 exact(Zoh (h s hs).1).1
def OkL.qb(h:OkL l):∀q∈Ztp l,Qb 100 q:=fun q hq=>by
 obtain⟨s,hs,rfl⟩:=Ywv.1 hq
 exact Yrt (h s hs).1 (h s hs).2
def MtS.rat{h:T O}{N:Nat}{v:V}(hs:MtS h N v m)(hm:∀r∈m,OkL r):TxM h N v (Zdq m):=by
 apply MtS.txm
 have:((Zdq m).map fun l=>l.map Zax)=m:=by
  unfold Zdq
  rw[List.map_map]
  conv=>rhs;rw[←List.map_id m]
  apply Yyp
  intro r hr
  exact(hm r hr).txt
 rw[this]
 exact hs
def Zxv(h:Zbz l n=0)(hs:Zbt 6 l=true):l.length=n∧OkL l:=by
 unfold Zbz at h
 split at h
 ·rename_i hn
  refine⟨hn,fun s hs'=>?_⟩
  have h1:=Zcc h _ (Ywv.2 ⟨s,hs',rfl⟩)
  have h2:l.all Zo3=true:=by
   unfold Zbt at hs
   rw[Ywo]at hs
   exact hs.2
  have h3:=Yw1.1 h2 s hs'
  simp[Zo3]at h3
  exact⟨by omega,h3⟩
 ·exact absurd h (by decide)
def Zm8(h:Zbt n l=true):Zfv l.length n=true:=by
 unfold Zbt at h
 rw[Ywo]at h
 exact h.1
structure OkM (m:List (List Str)) (n:Nat):Prop where
 pos:0<m.length
 le:m.length≤6
 n1:0<n
 n6:n≤6
 row:∀r∈m,r.length=n∧OkL r
def OkM.rat(h:OkM m n):∀r∈Zdq m,r.length=n∧∀q∈r,Qb 100 q:=fun r hr=>by
 obtain⟨s,hs,rfl⟩:=Ywv.1 hr
 exact⟨by simp[Ztp,(h.row s hs).1],(h.row s hs).2.qb⟩
def Zld(h:Zcq 6 6 m=true):Zfv m.length 6=true∧∀r∈m,Zbt 6 r=true:=by
 unfold Zcq at h
 rw[Ywo,Yw1]at h
 exact h
def Ykk(h:0<m.length):∃r∈m,hdL m=r.length:=by
 obtain⟨r,hr⟩:=Zae h
 exact⟨r,Yv7 hr,by simp[hdL,hr]⟩
def Zg1{k:Nat}(h:Zfv k 6=true)(h2:k≤64):k≤6:=by
 simp[Zfv]at h
 omega
def Yfd(h:Zg9 m 64 64=0)(hs:Zcq 6 6 m=true):OkM m (hdL m):=by
 obtain⟨s1,s2⟩:=Zld hs
 unfold Zg9 at h
 split at h
 ·exact absurd h (by decide)
 split at h
 ·exact absurd h (by decide)
 rename_i h1 h2
 have hp:0<m.length:=by omega
 obtain⟨r0,hr0,e0⟩:=Ykk hp
 refine⟨hp,Zg1 s1 (by omega),by omega,?_,fun r hr=>Zxv (Zcc h _ (Ywv.2 ⟨r,hr,rfl⟩)) (s2 r hr)⟩
 rw[e0]
 exact Zg1 (Zm8 (s2 r0 hr0)) (by omega)
def Zyj(h:Zbt 6 l=true):l.length<100000∧∀s∈l,s.length≤100000:=by
 refine⟨by have:=Zw8 (Zm8 h) (by omega);omega,fun s hs=>?_⟩
 unfold Zbt at h
 rw[Ywo]at h
 have h3:=Yw1.1 h.2 s hs
 simp[Zo3]at h3
 omega
def Ze9(h:Zcq 6 6 m=true):m.length<100000∧∀r∈m,r.length<100000∧∀s∈r,s.length≤100000:=by
 obtain⟨s1,s2⟩:=Zld h
 exact⟨by have:=Zw8 s1 (by omega);omega,fun r hr=>Zyj (s2 r hr)⟩
def Yvv(e:Int)(l:List Rat)(x:V)(h:T O)(n:Nat):Prop:=(e≠0∧x=.tup [.nilslice,.int .i64 e])∨(e=0∧((Zfl l=true∧x=.tup [.nilslice,.int .i64 4])∨(Zfl l=false∧∃v,x=.tup [v,.int .i64 0]∧Tx h n v l)))
def Yrz(m:List (List Str))(l:List Str):Int:=Zam [Zg9 m 64 64,Zbz l (hdL m)]
def Ypu(m:List (List Str))(l:List Str):List Rat:=(Zdq m).map fun r=>Yau r (Ztp l)
def Yoi{a b:List Rat}{j k:Nat}(ha:∀q∈a,Qb j q)(hb:∀q∈b,Qb k q)(hj:1≤j)(hk:1≤k)(hn:a.length≤n):Qb (n*(j+k+1)+1) (Yau a b):=(Zn9 ha hb hj hk a.length).mono (by have:=Ywr (j+k+1) hn;omega)
def Ymn{a b:V}{x y:Int}{P:V→Int→Nat→Prop}(h0:P a x 0)(h1:x=0→P b y 1):∀(j:Nat) (f:V) (e:Int),[a,b][j]?=some f→[x,y][j]?=some e→(∀(i:Nat) (z:Int),i<j→[x,y][i]?=some z→z=0)→P f e j
 |0,f,e,hf,he,_=>by simp at hf he;subst hf he;exact h0
 |1,f,e,hf,he,hz=>by simp at hf he;subst hf he;exact h1 (hz 0 x (by omega) rfl)
 |j+2,f,e,hf,_,_=>by simp at hf
set_option maxHeartbeats 2000000
set_option maxHeartbeats 2000000
def TP(e:Int)(l:List Rat)(v:V)(c:Int)(h:T O)(n:Nat):Prop:=(e≠0∧v=.nilslice∧c=e)∨(e=0∧((Zfl l=true∧v=.nilslice∧c=4)∨(Zfl l=false∧c=0∧Tx h n v l)))
noncomputable def A.b125:=A.q Tryz.f125
def A.k125:=@A.kk 125 9 [.cell 2 (some 4)] A.b125 (by kernel_rfl) rfl
noncomputable def A.b76:=A.q Tryz.f76
def A.k76:=@A.kk 76 9 [.cell 4 (some 4)] A.b76 (by kernel_rfl) rfl
def Yee{x:V}{q:Rat}{h:T O}{N:Nat}(hx:Fc h N x q)(l1:wl q.num<1000000000):Fn A.C 125 [x] h N (fun v h' n'=>Fc h' n' v (-q)):=by
 intro w
 rw[Zab,A.k125 (by simp)]
 obtain⟨n1,u1,n2,u2,rfl,s1,s2⟩:=hx
 have o1:=Za1 s1
 have o2:=Za1 s2
 unfold V.one at o1 o2
 have kB:Keeps h N ((h.set N (.cells [.int .i64 n1,u1,.int .i64 n2,u2] 111 true)).set (N+1) (.cells [.int .i64 0,.nilslice,.int .i64 0,.nilslice] 111 true)) (N+2):=kset (kset Keeps.refl _) _
 simp[A.b125,Zak,slc,splice,o1,o2]
 generalize hhB:(h.set N (.cells [.int .i64 n1,u1,.int .i64 n2,u2] 111 true)).set (N+1) (.cells [.int .i64 0,.nilslice,.int .i64 0,.nilslice] 111 true)=hB at*
 have b1:hB.get N=some (.cells [.int .i64 n1,u1,.int .i64 n2,u2] 111 true):=by rw[←hhB];simp
 have b3:hB.get (N+1)=some (.cells [.int .i64 0,.nilslice,.int .i64 0,.nilslice] 111 true):=by rw[←hhB];simp
 refine Zac (Zpq (s1.keep kB) (by omega)) ?_
 rintro v5 h1 m1 k1 q1
 obtain⟨n3,u3,rfl⟩:∃n3 u3,v5=.agg [.int .i64 n3,u3]:=by
  rcases q1 with⟨rfl,_⟩|⟨_,_,_,_,rfl,_⟩<;>exact⟨_,_,rfl⟩
 have o3:=Za1 q1
 unfold V.one at o3
 have kle1:=k1.le
 have f1:=(k1.get N (by omega)).trans b1
 have f3:=(k1.get (N+1) (by omega)).trans b3
 have e1:N<m1:=by omega
 have e2:N+1<m1:=by omega
 simp[f1,f3,e1,e2,Zak,slc,splice,Zal,o2,o3,Zao.chk,Ret]
 have kk:=kB.trans k1
 exact⟨kk.set (by omega),n3,u3,n2,u2,rfl,by rw[Rat.neg_num];exact q1.setNU (i:=N+1) f3 nu0 rfl,by rw[Rat.neg_den];exact((s2.keep kB).keep k1).setNU (i:=N+1) f3 nu0 rfl⟩
def Yn1{x y:V}{p q:Rat}{h:T O}{N:Nat}(hx:Fc h N x p)(hy:Fc h N y q)(l1:wl p.num<1000000000)(l2:wl (p.den:Nat)<1000000000)(l3:wl q.num<1000000000)(l4:wl (q.den:Nat)<1000000000):Fn A.C 76 [x,y] h N (fun v h' n'=>Fc h' n' v (p-q)):=by
 intro w
 rw[Zab,A.k76 (by simp)]
 have hx0:=hx
 have hy0:=hy
 obtain⟨n1,u1,n2,u2,rfl,s1,s2⟩:=hx
 obtain⟨n3,u3,n4,u4,rfl,s3,s4⟩:=hy
 have o1:=Za1 s1
 have o2:=Za1 s2
 have o3:=Za1 s3
 have o4:=Za1 s4
 unfold V.one at o1 o2 o3 o4
 have kB:Keeps h N (((h.set N (.cells [.int .i64 n1,u1,.int .i64 n2,u2] 111 true)).set (N+1) (.cells [.int .i64 n3,u3,.int .i64 n4,u4] 111 true)).set (N+2) (.cells [.int .i64 0,.nilslice,.int .i64 0,.nilslice] 111 true)) (N+3):=kset (kset (kset Keeps.refl _) _) _
 simp[A.b76,Zak,slc,splice,o1,o2,o3,o4]
 generalize hhB:((h.set N (.cells [.int .i64 n1,u1,.int .i64 n2,u2] 111 true)).set (N+1) (.cells [.int .i64 n3,u3,.int .i64 n4,u4] 111 true)).set (N+2) (.cells [.int .i64 0,.nilslice,.int .i64 0,.nilslice] 111 true)=hB at*
 have b1:hB.get N=some (.cells [.int .i64 n1,u1,.int .i64 n2,u2] 111 true):=by rw[←hhB];simp
 have b2:hB.get (N+1)=some (.cells [.int .i64 n3,u3,.int .i64 n4,u4] 111 true):=by rw[←hhB];simp
 have b3:hB.get (N+2)=some (.cells [.int .i64 0,.nilslice,.int .i64 0,.nilslice] 111 true):=by rw[←hhB];simp
 refine Zac (Yee (hy0.keep kB) l3) ?_
 rintro v5 h1 m1 k1 q1
 have kle1:=k1.le
 have f1:=(k1.get N (by omega)).trans b1
 have f2:=(k1.get (N+1) (by omega)).trans b2
 have f3:=(k1.get (N+2) (by omega)).trans b3
 have e1:N<m1:=by omega
 have e2:N+1<m1:=by omega
 simp[f1,f2,e1,e2,Zak,slc,splice]
 refine Zac (Yei ((hx0.keep kB).keep k1) q1 l1 l2 (by rw[Rat.neg_num,Zro];exact l3) (by rw[Rat.neg_den];exact l4)) ?_
 rintro v7 h3 m3 k3 hv
 rw[←Rat.sub_eq_add_neg]at hv
 obtain⟨n5,u5,n6,u6,rfl,t1,t2⟩:=hv
 have o5:=Za1 t1
 have o6:=Za1 t2
 unfold V.one at o5 o6
 have kle3:=k3.le
 have f5:=(k3.get (N+2) (by omega)).trans f3
 have e3:N+2<m3:=by omega
 simp[f5,e3,Zak,slc,splice,Zal,o5,o6,Zao.chk,Ret]
 have kk:=(kB.trans k1).trans k3
 exact⟨kk.set (by omega),n5,u5,n6,u6,rfl,t1.setNU (i:=N+2) f5 nu0 rfl,t2.setNU (i:=N+2) f5 nu0 rfl⟩
def Qb.wls{q:Rat}{k:Nat}(h:Qb k q):wl q.num≤k∧wl (q.den:Nat)≤k:=⟨Zl3 h.1,Zl3 (z:=(q.den:Int)) (k:=k) (by rw[Ywc];exact h.2)⟩
noncomputable def A.b39:=A.q Tryz.f39
def A.k39:=@A.kk 39 6 [.tmp 2] A.b39 (by kernel_rfl) rfl
def Zmi{h:T O}{N:Nat}{v:V}{l:List (List Str)}(hs:MtS h N v l)(hl:l.length<100000)(hx:∀x∈l,x.length<100000∧∀s∈x,s.length≤100000):Fn A.C 39 [v] h N (fun u _ _=>u=.int .i64 (Zg9 l 64 16)):=by
 intro w
 rw[Zab,A.k39 (by simp)]
 simp[A.b39,splice]
 refine Zac (Zwm (a:=64) (b:=16) hs hl hx) ?_
 rintro _ H2 n2 k2 rfl
 simp[Ret]
 exact k2
def Zmp{m:List (List Str)}(h:Zg9 m 64 16=0)(hs:Zcq 6 6 m=true):OkM m (hdL m):=by
 obtain⟨s1,s2⟩:=Zld hs
 unfold Zg9 at h
 split at h
 ·exact absurd h (by decide)
 split at h
 ·exact absurd h (by decide)
 rename_i h1 h2
 have hp:0<m.length:=by omega
 obtain⟨r0,hr0,e0⟩:=Ykk hp
 refine⟨hp,Zg1 s1 (by omega),by omega,?_,fun r hr=>Zxv (Zcc h _ (Ywv.2 ⟨r,hr,rfl⟩)) (s2 r hr)⟩
 rw[e0]
 exact Zg1 (Zm8 (s2 r0 hr0)) (by omega)
set_option maxHeartbeats 4000000
variable {N:Nat} {h:T O} {w:List Nat} {z:Int}
set_option maxHeartbeats 2000000
noncomputable def A.w182:=A.q Tryz.f182
noncomputable def A.lb182_0:=A.ql A.w182 0 []
noncomputable def A.b182:=(fun x0=>A.qb A.w182 [x0]) A.lb182_0
def A.k182:=@A.kk 182 19 [.tmp 4] A.b182 (by kernel_rfl) rfl
noncomputable def A.b111:=A.q Tryz.f111
def A.k111:=@A.kk 111 9 [.tmp 4] A.b111 (by kernel_rfl) rfl
def Yd1(z:Int):List Int→Nat→Int
 |[],_=> -1
 |x::l,k=>if z=x then k else Yd1 z l (k+1)
def Zxc{z:Int}:∀{l:List Int} {k:Nat},decide (0≤Yd1 z l k)=l.contains z
 |[],k=>by simp[Yd1]
 |x::l,k=>by
  unfold Yd1
  by_cases e:z=x
  ·rw[Yv6 e];subst e;simp
  ·rw[Yv4 e,Zxc,List.contains_cons]
   have:(z==x)=false:=by simpa using e
   rw[this,Bool.false_or]
def Ytq{v:V}{l:List Int}(hs:Sl h N v (dI l))(hl:l.length<100000):A.C.call (.func 182 [] []) [v,.int .i64 z] ⟨h,N,w⟩=some (.int .i64 (Yd1 z l 0),⟨h,N,w⟩):=by
 apply Call.eq
 have lg:=hs.len
 rw[Zat]at lg
 rw[Zab,A.k182 (by simp)]
 simp[A.b182,lg]
 refine Zai [(4,5),(8,18)] (fun e r st=>st=⟨h,N,[]⟩∧((e=.exit 0∧Yd1 z l 0= -1)∨(e=.ret∧r.get 4=some (.int .i64 (Yd1 z l 0))))) (fun m r st=>st=⟨h,N,[]⟩∧∃k,k+m=l.length∧r.get 8=some (.int .i64 k)∧Yd1 z l 0=Yd1 z (l.drop k) k) l.length ?_ ?_ ?_
 ·exact⟨rfl,0,by omega,by simp,by simp⟩
 ·rintro m r _ hr hf ⟨rfl,k,hk,h8,hz⟩
  rw[Zah]
  cases m with
  |zero=>
   obtain rfl:k=l.length:=by omega
   rw[Yw5,Yd1]at hz
   simp[A.lb182_0,hr,hf,h8,lg,hz]
  |succ m=>
   have hlt:k<l.length:=by omega
   have hk1:(k:Int)<(l.length:Int):=by omega
   obtain⟨s,hc⟩:=Zae hlt
   obtain⟨i,o,cc,e,rw,q1,q2,q3,q4⟩:=hs.at (Zbg hc)
   rw[Zan hc,Yd1]at hz
   by_cases c4:z=s
   ·rw[Yv6 c4]at hz
    subst c4
    simp[A.lb182_0,hr,hf,h8,hk1,hlt,lg,q1,q2,q3,q4,Zad,hz]
   ·rw[Yv4 c4]at hz
    simp(disch:=first|(simp;done)|omega|rfl) [A.lb182_0,hr,hf,h8,hk1,hlt,lg,q1,q2,q3,q4,Zad,c4]
    exact⟨m,by omega,k+1,by omega,by simp,by simpa using hz⟩
 ·rintro e r _ hr ⟨rfl,⟨rfl,hq⟩|⟨rfl,h2⟩⟩
  ·simp[hr,hq]
  ·simp[hr,h2]
def Yot{v:V}{l:List Int}(hs:Sl h N v (dI l))(hl:l.length<100000):A.C.call (.func 111 [] []) [v,.int .i64 z] ⟨h,N,w⟩=some (.bool (l.contains z),⟨h,N,w⟩):=by
 apply Call.eq
 have hi:=fun w=>Ytq (z:=z) (w:=w) hs hl
 rw[Zab,A.k111 (by simp)]
 rw[←Zxc (k:=0)]
 simp[A.b111,hi]
def Yp9{i o:Nat}{cp:Option Nat}{c l:List V}{e:TypeId}{rw:Bool}(h3:h.get i=some (.cells c e rw))(h4:∀j,j<l.length→c[o+j]?=l[j]?)(h5:o+l.length≤c.length):Zaz ⟨h,N,w⟩ 1 (.slice i o l.length cp 1)=some (l.length,l):=by
 have:slc c o (l.length*1)=some l:=by
  unfold slc
  rw[Yv6 (by omega),Yyy]
  congr 1
  apply Ywy
  intro j
  by_cases hj:j<l.length
  ·rw[Ywn,Yv6 hj,Ywg];exact h4 j hj
  ·rw[Ywd (by simp;omega),Ywd (by omega)]
 simp only[Zaz,if_true,St.row,h3,this]
variable {a:List Rat}
noncomputable def A.w15:=A.q Tryz.f15
noncomputable def A.lb15_0:=A.ql A.w15 0 []
noncomputable def A.b15:=(fun x0=>A.qb A.w15 [x0]) A.lb15_0
def A.k15:=@A.kk 15 26 [.tmp 4] A.b15 (by kernel_rfl) rfl
noncomputable def A.w16:=A.q Tryz.f16
noncomputable def A.lb16_0:=A.ql A.w16 0 []
noncomputable def A.b16:=(fun x0=>A.qb A.w16 [x0]) A.lb16_0
def A.k16:=@A.kk 16 23 [.tmp 4] A.b16 (by kernel_rfl) rfl
def Ybu{h:T O}{N:Nat}{u:V}{c:Rat}{j k:Nat}(hu:Tx h N u a)(ha:∀q∈a,Qb j q)(hc:Qb k c)(hj:j≤400000000)(hk:k≤400000000)(hl:a.length<100000):Fn A.C 16 [u,.str (Zax c)] h N (fun x h' n'=>Own 1 37 N h' n' x ((tx (a.map fun q=>q*c)).map fun y=>[y])):=by
 intro w
 have l1:=hu.len
 rw[Zab,A.k16 (by simp)]
 simp[A.b16]
 refine Zai [(5,21)] (fun e r st=>e=.exit 0∧Zaa N st.w=[]∧Keeps h N st.h st.n∧∃x,r.get 5=some x∧Own 1 37 N st.h st.n x ((tx (a.map fun q=>q*c)).map fun y=>[y])) (fun i r st=>Zaa N st.w=[]∧Keeps h N st.h st.n∧∃t x,t+i=a.length∧r.get 6=some (.int .i64 t)∧r.get 5=some x∧Own 1 37 N st.h st.n x ((tx ((a.take t).map fun q=>q*c)).map fun y=>[y])) (a.length) ?_ ?_ ?_
 ·exact⟨by simp,Keeps.refl,0,.nilslice,by omega,by simp,by simp,by simpa[tx,strs]using Own.nil⟩
 ·rintro i r ⟨H,n1,W⟩ hr hf ⟨hW,hK,t,x,ht,h6,h5,ho⟩
  simp only at hW hK ho
  rw[Zah]
  cases i with
  |zero=>
   obtain rfl:t=a.length:=by omega
   rw[Yym]at ho
   simp[A.lb16_0,hr,hf,h6,h5,l1,hW,hK]
   exact ho
  |succ i=>
   have hlt:t<a.length:=by omega
   have hlt':(t:Int)<((a.length:Nat):Int):=by omega
   obtain⟨q,hq⟩:=Zae hlt
   have hqb:=ha q (Yv7 hq)
   obtain⟨i',o,cc,e,rw,q1,q2,q3,q4⟩:=(hu.keep hK).at (Zhj hq)
   simp[A.lb16_0,hr,hf,h6,h5,l1,hlt,hlt',q1,q2,q3,q4]
   refine Zac (Yc0 hqb hc hj hk) ?_
   rintro _ H2 n2 k2 rfl
   have le2:=k2.le
   have nle:=hK.le
   obtain⟨v',h',w',f1,f2,f3,_,f5⟩:=Zbs (x:=[.str (Zax (q*c))]) (u:=.slice n2 0 1 (some 1) 1) (bytes:=16) (w:=W) ((ho.keep k2).keep (Keeps.refl.new (.cells [.str (Zax (q*c))] 37 true))) (by omega) (by decide) rfl (by simp[Zaz,St.row,slc]) (by simp[Zhc];omega)
   have e7:((tx ((a.take t).map fun q=>q*c)).map fun y=>[y])++[[.str (Zax (q*c))]]=(tx ((a.take (t+1)).map fun q=>q*c)).map fun y=>[y]:=by rw[Yyq,hq];simp[tx,strs]
   rw[e7]at f5
   simp(disch:=first|(simp;done)|omega|rfl) [hr,hf,h6,h5,q1,q2,q3,q4,splice,f1]
   exact⟨i,by omega,by rw[f2];exact hW,((hK.trans k2).trans (Keeps.refl.new (.cells [.str (Zax (q*c))] 37 true))).then f3,t+1,by omega,by simp,by rw[←List.map_take];exact f5⟩
 ·rintro _ r ⟨H,n1,W⟩ hr ⟨rfl,hW,hK,x,h5,ho⟩
  simp only at hW hK ho
  simp[hr,h5,Ret,hW,hK]
  exact ho
def Yax{F:Rat→Rat→Rat}{b:List Rat}{t:Nat}{p q:Rat}(hp:a[t]?=some p)(hq:b[t]?=some q):Zmu F a b (t+1)=Zmu F a b t++[F p q]:=by
 simp[Zmu,List.range_succ,hp,hq]
def Yjo{h:T O}{N:Nat}{u v:V}{b:List Rat}{j k:Nat}(hu:Tx h N u a)(hv:Tx h N v b)(hab:a.length≤b.length)(ha:∀q∈a,Qb j q)(hb:∀q∈b,Qb k q)(hj:j≤400000000)(hk:k≤400000000)(hl:a.length<100000):Fn A.C 15 [u,v] h N (fun x h' n'=>Own 1 37 N h' n' x ((tx (Zmu (fun x y=>x+y) a b a.length)).map fun y=>[y])):=by
 intro w
 have l1:=hu.len
 have l2:=hv.len
 rw[Zab,A.k15 (by simp)]
 simp[A.b15]
 refine Zai [(5,24)] (fun e r st=>e=.exit 0∧Zaa N st.w=[]∧Keeps h N st.h st.n∧∃x,r.get 5=some x∧Own 1 37 N st.h st.n x ((tx (Zmu (fun x y=>x+y) a b a.length)).map fun y=>[y])) (fun i r st=>Zaa N st.w=[]∧Keeps h N st.h st.n∧∃t x,t+i=a.length∧r.get 6=some (.int .i64 t)∧r.get 5=some x∧Own 1 37 N st.h st.n x ((tx (Zmu (fun x y=>x+y) a b t)).map fun y=>[y])) (a.length) ?_ ?_ ?_
 ·exact⟨by simp,Keeps.refl,0,.nilslice,by omega,by simp,by simp,by simpa[tx,strs,Zmu]using Own.nil⟩
 ·rintro i r ⟨H,n1,W⟩ hr hf ⟨hW,hK,t,x,ht,h6,h5,ho⟩
  simp only at hW hK ho
  rw[Zah]
  cases i with
  |zero=>
   obtain rfl:t=a.length:=by omega
   simp[A.lb15_0,hr,hf,h6,h5,l1,hW,hK]
   exact ho
  |succ i=>
   have hlt:t<a.length:=by omega
   have hlt':(t:Int)<((a.length:Nat):Int):=by omega
   obtain⟨p,hp⟩:=Zae hlt
   have hpb:=ha p (Yv7 hp)
   have hltb:t<b.length:=by omega
   have hltb':(t:Int)<(b.length:Int):=by omega
   obtain⟨q,hq⟩:=Zae hltb
   have hqb:=hb q (Yv7 hq)
   obtain⟨i',o,cc,e,rw,q1,q2,q3,q4⟩:=(hu.keep hK).at (Zhj hp)
   obtain⟨i2,o2,cc2,e2,rw2,p1,p2,p3,p4⟩:=(hv.keep hK).at (Zhj hq)
   simp[A.lb15_0,hr,hf,h6,h5,l1,hlt,hlt',l2,hltb,hltb',q1,q2,q3,q4,p1,p2,p3,p4]
   refine Zac (Zv1 hpb hqb hj hk) ?_
   rintro _ H2 n2 k2 rfl
   have le2:=k2.le
   have nle:=hK.le
   obtain⟨v',h',w',f1,f2,f3,_,f5⟩:=Zbs (x:=[.str (Zax (p+q))]) (u:=.slice n2 0 1 (some 1) 1) (bytes:=16) (w:=[]) ((ho.keep k2).keep (Keeps.refl.new (.cells [.str (Zax (p+q))] 37 true))) (by omega) (by decide) rfl (by simp[Zaz,St.row,slc]) (by simp[Zhc,Zgg];omega)
   have e7:((tx (Zmu (fun x y=>x+y) a b t)).map fun y=>[y])++[[.str (Zax (p+q))]]=(tx (Zmu (fun x y=>x+y) a b (t+1))).map fun y=>[y]:=by rw[Yax hp hq];simp[tx,strs]
   rw[e7]at f5
   have ow:Zaa N w'=[]:=Yhl f2 (by omega) rfl
   simp(disch:=first|(simp;done)|omega|rfl) [-Zaa,q2,p2,hr,hf,h6,h5,l2,hltb,hltb',q1,q2,q3,q4,p1,p2,p3,p4,splice,f1]
   exact⟨i,by omega,Ymp ow hW,((hK.trans k2).trans (Keeps.refl.new (.cells [.str (Zax (p+q))] 37 true))).then f3,t+1,by omega,by simp,f5⟩
 ·rintro _ r ⟨H,n1,W⟩ hr ⟨rfl,hW,hK,x,h5,ho⟩
  simp only at hW hK ho
  simp[hr,h5,Ret,hW,hK]
  exact ho
noncomputable def A.b21:=A.q Tryz.f21
def A.k21:=@A.kk 21 5 [.tmp 2] A.b21 (by kernel_rfl) rfl
def Yg3{h:T O}{N:Nat}{v:V}{l:List (List Str)}(hs:MtS h N v l)(hl:l.length<100000)(hx:∀x∈l,x.length<100000∧∀s∈x,s.length≤100000):Fn A.C 21 [v] h N (fun u _ _=>u=.int .i64 (Zg9 l 64 16)):=by
 intro w
 rw[Zab,A.k21 (by simp)]
 simp[A.b21]
 refine Zac (You (a:=64) (b:=16) hs hl hx) ?_
 rintro _ H2 n2 k2 rfl
 simp[Ret]
 exact k2
noncomputable def A.b187:=A.q Tryz.f187
def A.k187:=@A.kk 187 8 [.cell 2 (some 4)] A.b187 (by kernel_rfl) rfl
noncomputable def A.b122:=A.q Tryz.f122
def A.k122:=@A.kk 122 9 [.cell 4 (some 4)] A.b122 (by kernel_rfl) rfl
noncomputable def A.b119:=A.q Tryz.f119
def A.k119:=@A.kk 119 10 [.tmp 3] A.b119 (by kernel_rfl) rfl
noncomputable def A.b121:=A.q Tryz.f121
def A.k121:=@A.kk 121 7 [.cell 3 (some 4)] A.b121 (by kernel_rfl) rfl
noncomputable def A.b123:=A.q Tryz.f123
def A.k123:=@A.kk 123 11 [.cell 5 (some 4)] A.b123 (by kernel_rfl) rfl
def Yn4{x:V}{q:Rat}{h:T O}{N:Nat}(hx:Fc h N x q)(h0:q≠0)(l1:wl q.num<1000000000)(l2:wl (q.den:Nat)<1000000000):Fn A.C 187 [x] h N (fun v h' n'=>Fc h' n' v q⁻¹):=by
 intro w
 rw[Zab,A.k187 (by simp)]
 obtain⟨n1,u1,n2,u2,rfl,s1,s2⟩:=hx
 have o1:=Za1 s1
 have o2:=Za1 s2
 unfold V.one at o1 o2
 have kB:Keeps h N ((h.set N (.cells [.int .i64 n1,u1,.int .i64 n2,u2] 111 true)).set (N+1) (.cells [.int .i64 0,.nilslice,.int .i64 0,.nilslice] 111 true)) (N+2):=kset (kset Keeps.refl _) _
 simp[A.b187,Zak,slc,splice,o1,o2]
 generalize hhB:(h.set N (.cells [.int .i64 n1,u1,.int .i64 n2,u2] 111 true)).set (N+1) (.cells [.int .i64 0,.nilslice,.int .i64 0,.nilslice] 111 true)=hB at*
 have b3:hB.get (N+1)=some (.cells [.int .i64 0,.nilslice,.int .i64 0,.nilslice] 111 true):=by rw[←hhB];simp
 have hn:q.num≠0:=fun hc=>h0 (Ykb.1 hc)
 refine Zac (Zu7 (s2.keep kB) (s1.keep kB) hn (by omega) (by omega)) ?_
 rintro v7 h3 m3 k3 hv
 rw[←Zpw]at hv
 obtain⟨n5,u5,n6,u6,rfl,t1,t2⟩:=hv
 have o5:=Za1 t1
 have o6:=Za1 t2
 unfold V.one at o5 o6
 have kle3:=k3.le
 have f5:=(k3.get (N+1) (by omega)).trans b3
 have e3:N+1<m3:=by omega
 simp[f5,e3,Zak,slc,splice,Zal,o5,o6,Ret]
 have kk:=kB.trans k3
 exact⟨kk.set (by omega),n5,u5,n6,u6,rfl,t1.setNU (i:=N+1) f5 nu0 rfl,t2.setNU (i:=N+1) f5 nu0 rfl⟩
def Yn8{x y:V}{p q:Rat}{h:T O}{N:Nat}(hx:Fc h N x p)(hy:Fc h N y q)(h0:q≠0)(l1:wl p.num<1000000000)(l2:wl (p.den:Nat)<1000000000)(l3:wl q.num<1000000000)(l4:wl (q.den:Nat)<1000000000)(l5:wl q⁻¹.num<1000000000)(l6:wl (q⁻¹.den:Nat)<1000000000):Fn A.C 122 [x,y] h N (fun v h' n'=>Fc h' n' v (p/q)):=by
 intro w
 rw[Zab,A.k122 (by simp)]
 have hx0:=hx
 have hy0:=hy
 obtain⟨n1,u1,n2,u2,rfl,s1,s2⟩:=hx
 obtain⟨n3,u3,n4,u4,rfl,s3,s4⟩:=hy
 have o1:=Za1 s1
 have o2:=Za1 s2
 have o3:=Za1 s3
 have o4:=Za1 s4
 unfold V.one at o1 o2 o3 o4
 have kB:Keeps h N (((h.set N (.cells [.int .i64 n1,u1,.int .i64 n2,u2] 111 true)).set (N+1) (.cells [.int .i64 n3,u3,.int .i64 n4,u4] 111 true)).set (N+2) (.cells [.int .i64 0,.nilslice,.int .i64 0,.nilslice] 111 true)) (N+3):=kset (kset (kset Keeps.refl _) _) _
 simp[A.b122,Zak,slc,splice,o1,o2,o3,o4]
 generalize hhB:((h.set N (.cells [.int .i64 n1,u1,.int .i64 n2,u2] 111 true)).set (N+1) (.cells [.int .i64 n3,u3,.int .i64 n4,u4] 111 true)).set (N+2) (.cells [.int .i64 0,.nilslice,.int .i64 0,.nilslice] 111 true)=hB at*
 have b1:hB.get N=some (.cells [.int .i64 n1,u1,.int .i64 n2,u2] 111 true):=by rw[←hhB];simp
 have b2:hB.get (N+1)=some (.cells [.int .i64 n3,u3,.int .i64 n4,u4] 111 true):=by rw[←hhB];simp
 have b3:hB.get (N+2)=some (.cells [.int .i64 0,.nilslice,.int .i64 0,.nilslice] 111 true):=by rw[←hhB];simp
 refine Zac (Yn4 (hy0.keep kB) h0 l3 l4) ?_
 rintro v5 h1 m1 k1 q1
 have kle1:=k1.le
 have f1:=(k1.get N (by omega)).trans b1
 have f2:=(k1.get (N+1) (by omega)).trans b2
 have f3:=(k1.get (N+2) (by omega)).trans b3
 have e1:N<m1:=by omega
 have e2:N+1<m1:=by omega
 simp[f1,f2,e1,e2,Zak,slc,splice]
 refine Zac (Zvg ((hx0.keep kB).keep k1) q1 l1 l2 l5 l6) ?_
 rintro v7 h3 m3 k3 hv
 rw[←Rat.div_def]at hv
 obtain⟨n5,u5,n6,u6,rfl,t1,t2⟩:=hv
 have o5:=Za1 t1
 have o6:=Za1 t2
 unfold V.one at o5 o6
 have kle3:=k3.le
 have f5:=(k3.get (N+2) (by omega)).trans f3
 have e3:N+2<m3:=by omega
 simp[f5,e3,Zak,slc,splice,Zal,o5,o6,Zao.chk,Ret]
 have kk:=(kB.trans k1).trans k3
 exact⟨kk.set (by omega),n5,u5,n6,u6,rfl,t1.setNU (i:=N+2) f5 nu0 rfl,t2.setNU (i:=N+2) f5 nu0 rfl⟩
end Go.Mx
