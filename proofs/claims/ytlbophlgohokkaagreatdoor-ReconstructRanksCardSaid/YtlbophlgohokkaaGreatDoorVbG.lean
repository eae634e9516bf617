/-
  reconstruct: joined by Mul; Noise's map.
-/
import Derived.Test.YtlbophlgohokkaaGreatDoorVaE
set_option linter.all false
namespace Go.Mx
open Go Go.Proofs
variable {a b:List Rat}
set_option maxHeartbeats 2000000
set_option maxRecDepth 1000000
def Zks(F:Rat→Rat→Rat)(a b:List Rat)(n:Nat):List Rat:=(List.range n).map fun k=>F (a[k]?.getD 0) (b[k]?.getD 0)
theorem Ztb{F:Rat→Rat→Rat}{n j:Nat}(h:j<n):(Zks F a b n)[j]?=some (F (a[j]?.getD 0) (b[j]?.getD 0)):=by
 simp[Zks,h]
theorem Zfi{F:Rat→Rat→Rat}{n:Nat}:(Zks F a b n).length=n:=by simp[Zks]
structure JnI (F:Rat→Rat→Rat) (h:T O) (N:Nat) (a b:List Rat) (m:Nat) (r:T V) (st:St):Prop where
 w:Zaa N st.w=[]
 keep:Keeps h N st.h st.n
 ex:∃(k:Nat) (cs:List (List V)),k+m=a.length∧r.get 14=some (.int .i64 k)∧N<st.n∧st.h.get N=some (.cells (cs.flatten++Zc7 zF m) 114 true)∧cs.length=k∧∀(j:Nat) (q:Rat),j<k→(Zks F a b a.length)[j]?=some q→∃c,cs[j]?=some c∧FcC st.h st.n c q
theorem Yh9{h:T O}{N:Nat}{u v f:V}(F:Rat→Rat→Rat)(hu:FrS h N u a)(hv:FrS h N v b)(hab:a.length≤b.length)(hF:∀x∈a,∀y∈b,∀(h':T O) (n':Nat) (ca cb:List V),Keeps h N h' n'→FcC h' n' ca x→FcC h' n' cb y→FnV A.C f [.agg ca,.agg cb] h' n' (fun z h2 n2=>Fc h2 n2 z (F x y)))(hl:a.length<1000000):Fn A.C 89 [u,v,f] h N (fun x h' n'=>FrT h' n' x (Zks F a b a.length)):=by
 intro w
 have l1:=hu.len
 have l2:=hv.len
 have c1:(64:Int)*(a.length:Int)≤140737488355328:=by omega
 have c2:(a.length:Int)<4611686018427387904:=by omega
 have kB:Keeps h N (h.set N (.cells (Zc7 zF a.length) 114 true)) (N+1):=Keeps.refl.new _
 rw[Zab,A.k89 (by simp)]
 simp[A.b89,l1,c1,c2]
 refine Zaj [(8,8),(14,30)] (fun e r st=>e=.exit 0∧JnI F h N a b 0 r st) (JnI F h N a b) a.length ?_ ?_ ?_
 ·exact⟨by simp,kB,0,[],by omega,by simp,by show N<N+1;omega,by rw[T.get_set,Yo4 rfl];rfl,rfl,fun j q hj=>by omega⟩
 ·rintro m r ⟨H,n1,W⟩ hr hf ⟨hW,hK,t,cs,ht,h14,hN1,hM,hcl,hcs⟩
  simp only at hW hK hM hN1 hcs
  rw[Zah]
  cases m with
  |zero=>
   obtain rfl:t=a.length:=by omega
   simp[A.lb89_0,hr,hf,h14]
   exact⟨hW,hK,a.length,cs,by omega,by simp[h14],hN1,hM,hcl,hcs⟩
  |succ m=>
   have hlt:t<a.length:=by omega
   have hlt':(t:Int)<(a.length:Int):=by omega
   have hlb:t<b.length:=by omega
   have hlb':(t:Int)<(b.length:Int):=by omega
   obtain⟨x,hx⟩:=Zaf hlt
   obtain⟨y,hy⟩:=Zaf hlb
   obtain⟨i,o,cc,e,rw,ca,q1,q2,q3,q4,q5⟩:=(hu.keep hK).at hx
   obtain⟨i',o',cc',e',rw',cb,p1,p2,p3,p4,p5⟩:=(hv.keep hK).at hy
   have hi:i<N:=by
    obtain⟨i2,_,_,_,_,_,z1,z2,_⟩:=hu.at hx
    rw[q1]at z1
    simp at z1
    omega
   have hi':i'<N:=by
    obtain⟨i2,_,_,_,_,_,z1,z2,_⟩:=hv.at hy
    rw[p1]at z1
    simp at z1
    omega
   simp[A.lb89_0,hr,h14,l1,l2,hlt',hlb',q1,q2,q3,q4,p1,p2,p3,p4]
   refine Zh2 (hF x (Yo3 hx) y (Yo3 hy) _ _ _ _ hK q5 p5) ?_
   rintro _ H2 n2 k2 hf2
   obtain⟨c,rfl,hc⟩:=hf2.c
   have le2:=k2.le
   have nle:=hK.le
   have hM2:=(k2.get N hN1).trans hM
   have hcs2:∀(j:Nat) (q:Rat),j<cs.length→(Zks F a b a.length)[j]?=some q→∃c,cs[j]?=some c∧FcC H2 n2 c q:=fun j q hj hq=>by
    obtain⟨c,g1,g2⟩:=hcs j q (by omega) hq
    exact⟨c,g1,g2.keep k2⟩
   obtain⟨f1,f2,f3⟩:=Zot (l:=Zks F a b a.length) (by rw[Zfi];omega) hcs2
   have hfl:=Zbz f1
   obtain⟨e1,e2⟩:=hc.len
   have hsp:splice (cs.flatten++Zc7 zF (m+1)) (t*4) c=(cs++[c]).flatten++Zc7 zF m:=by
    rw[Zg3,Zm9 (n:=4) (by rw[hfl,hcl]) rfl e1,Zk3,Yqf]
   have hb4:t*4+4≤(cs.flatten++Zc7 zF (m+1)).length:=by
    rw[Ypm,hfl,Ye4];omega
   have hcc:(V.agg c).cells=c:=rfl
   have hnu:NoU (cs.flatten++Zc7 zF (m+1)):=f2.app Zn2
   have hlen4:((cs++[c]).flatten++Zc7 zF m).length=(cs.flatten++Zc7 zF (m+1)).length:=by
    rw[Zg3,Zk3];simp[e1,zF];omega
   generalize cs.flatten++Zc7 zF (m+1)=X at*
   obtain⟨Y,hY⟩:∃Y,(cs++[c]).flatten++Zc7 zF m=Y:=⟨_,rfl⟩
   rw[hY]at hsp hlen4
   have d1:N<n2:=by omega
   have d2:¬i=N:=by omega
   have d3:¬i'=N:=by omega
   simp(disch:=first|(simp;done)|omega|rfl) [-V.cells, -V.one,hf,h14,hM2,Zak,hcc,e1,e2,hb4,hsp]
   have wok:¬N<N:=by omega
   refine⟨m,by omega,⟨by simp[d1,Zaa,hW],(hK.trans k2).set (Yoy N),t+1,cs++[c],by omega,by simp,d1,by show T.get _ N=_;rw[T.get_set,Yo4 rfl,hY],by simp[hcl],fun j q' hj hq'=>?_⟩⟩
   by_cases hjk:j<t
   ·obtain⟨c',g1,g2⟩:=hcs j q' hjk hq'
    exact⟨c',by rw[Ypl (by omega)];exact g1,(g2.keep k2).setNU hM2 hnu hlen4⟩
   ·obtain rfl:j=t:=by omega
    rw[Ztb hlt,hx,hy]at hq'
    simp only[Yq2,Yox]at hq'
    subst hq'
    exact⟨c,by rw[Ypr (by omega),hcl];simp,hc.setNU hM2 hnu hlen4⟩
 ·rintro _ r ⟨H,n1,W⟩ hr ⟨rfl,hW,hK,t,cs,ht,h14,hN1,hM,hcl,hcs⟩
  simp only at hW hK hM hN1 hcs
  obtain rfl:t=a.length:=by omega
  simp[hr,Ret,hW,hK]
  have hz:Zc7 zF 0=[]:=by simp[Zc7]
  obtain⟨f1,_,_⟩:=Zot (l:=Zks F a b a.length) (by rw[Zfi];omega) (fun j q hj hq=>hcs j q (by omega) hq)
  have hfl:=Zbz f1
  rw[hz,Yrb]at hM
  refine⟨⟨cs,.inr ⟨N,0,some a.length,cs.flatten,_,true,by rw[hcl],hN1,hM,fun j x hx=>by rw[Yq7];exact Zev f1 hx,by omega,fun k hk=>by simp at hk;omega⟩,by rw[Zfi];exact hcl,fun j q hq=>hcs j q (by have:=Za6 hq;rw[Zfi]at this;omega) hq⟩,fun i hi=>?_⟩
  simp[Zcl]at hi
  subst hi
  exact⟨_,_,hM⟩
variable {l:List Str} {m:List (List Str)} {n:Nat}
set_option maxHeartbeats 2000000
def A.b11:Zae:=sr [bx 2 22 0,bx 3 23 1,mN 4,mc 5 0]
 (sr [⟨(some 7),.mkfunc 65 [] [(.tmp 2)],none⟩,⟨(some 8),.mkfunc 67 [] [(.tmp 3),(.tmp 2)],none⟩,⟨(some 9),.bslice 94 1 2 [.nilfunc,.nilfunc] [(0,1,(.tmp 7)),(1,1,(.tmp 8))],none⟩,c1 10 64 9,mv 6 10]
 (.seq (sr [mv 11 6,ni 12 11 0]
 (cd 12
 (sr [mv 13 6,mN 4,mv 5 13]
 (.ret))
 (.skip)))
 (.seq (.regD [ld 14 2,c1 15 71 14,ld 16 3,c1 17 72 16,c2 18 70 15 17,c1 19 69 18,xt 20 19 0,xt 21 19 1,mv 4 20,mv 5 21] [0,1,0,7,15,31,63,63,255,511])
 (.ret))))
theorem A.c11:A.F 11=some ⟨22,[.tmp 4,.tmp 5],A.b11⟩:=by kernel_rfl
def Yjo(l:List Str):List Rat:=l.map Ztn
def Zrw(m:List (List Str)):List (List Rat):=m.map Yjo
theorem Zgr:∀{l:List Int},Zau l=0→∀x∈l,x=0
 |[],_,x,hx=>by simp at hx
 |y::l,h,x,hx=>by
  simp only[Zau]at h
  split at h
  ·rename_i h0
   rcases Ypy.1 hx with rfl|hx
   ·exact h0
   ·exact Zgr h x hx
  ·rename_i h0;exact absurd h h0
def OkL(l:List Str):Prop:=∀s∈l,chkNum s=0∧s.length≤24
theorem OkL.txt(h:OkL l):(Yjo l).map Zax=l:=by
 unfold Yjo
 rw[List.map_map]
 conv=>rhs;rw[←List.map_id l]
 apply Ysm
 intro s hs
 exact(Zsz (h s hs).1).1
theorem OkL.qb(h:OkL l):∀q∈Yjo l,Qb 100 q:=fun q hq=>by
 obtain⟨s,hs,rfl⟩:=Yql.1 hq
 exact Yk8 (h s hs).1 (h s hs).2
theorem OkL.sl{h:T O}{N:Nat}{v:V}(hs:Sl h N v (strs l))(hl:OkL l):Tx h N v (Yjo l):=by
 unfold Tx tx
 rw[hl.txt]
 exact hs
theorem MtS.rat{h:T O}{N:Nat}{v:V}(hs:MtS h N v m)(hm:∀r∈m,OkL r):TxM h N v (Zrw m):=by
 apply MtS.txm
 have:((Zrw m).map fun l=>l.map Zax)=m:=by
  unfold Zrw
  rw[List.map_map]
  conv=>rhs;rw[←List.map_id m]
  apply Ysm
  intro r hr
  exact(hm r hr).txt
 rw[this]
 exact hs
theorem Yeq(h:Ze4 l n=0)(hs:Zbr 6 l=true):l.length=n∧OkL l:=by
 unfold Ze4 at h
 split at h
 ·rename_i hn
  refine⟨hn,fun s hs'=>?_⟩
  have h1:=Zgr h _ (Yql.2 ⟨s,hs',rfl⟩)
  have h2:l.all Zmv=true:=by
   unfold Zbr at hs
   rw[Ypj]at hs
   exact hs.2
  have h3:=Ypv.1 h2 s hs'
  simp[Zmv]at h3
  exact⟨by omega,h3⟩
 ·exact absurd h (by decide)
theorem Zpm(h:Zbr n l=true):Zga l.length n=true:=by
 unfold Zbr at h
 rw[Ypj]at h
 exact h.1
structure OkM (m:List (List Str)) (n:Nat):Prop where
 pos:0<m.length
 le:m.length≤6
 n1:0<n
 n6:n≤6
 row:∀r∈m,r.length=n∧OkL r
theorem OkM.rat(h:OkM m n):∀r∈Zrw m,r.length=n∧∀q∈r,Qb 100 q:=fun r hr=>by
 obtain⟨s,hs,rfl⟩:=Yql.1 hr
 exact⟨by simp[Yjo,(h.row s hs).1],(h.row s hs).2.qb⟩
theorem Znb(h:Zen 6 6 m=true):Zga m.length 6=true∧∀r∈m,Zbr 6 r=true:=by
 unfold Zen at h
 rw[Ypj,Ypv]at h
 exact h
theorem Yks(h:0<m.length):∃r∈m,hdL m=r.length:=by
 obtain⟨r,hr⟩:=Zaf h
 exact⟨r,Yo3 hr,by simp[hdL,hr]⟩
theorem Zl5{k:Nat}(h:Zga k 6=true)(h2:k≤64):k≤6:=by
 simp[Zga]at h
 omega
theorem Zvb(h:Zbr 6 l=true):l.length<100000∧∀s∈l,s.length≤100000:=by
 refine⟨by have:=Zua (Zpm h) (by omega);omega,fun s hs=>?_⟩
 unfold Zbr at h
 rw[Ypj]at h
 have h3:=Ypv.1 h.2 s hs
 simp[Zmv]at h3
 omega
theorem Zjx(h:Zen 6 6 m=true):m.length<100000∧∀r∈m,r.length<100000∧∀s∈r,s.length≤100000:=by
 obtain⟨s1,s2⟩:=Znb h
 exact⟨by have:=Zua s1 (by omega);omega,fun r hr=>Zvb (s2 r hr)⟩
def Ynf(e:Int)(l:List Rat)(x:V)(h:T O)(n:Nat):Prop:=(e≠0∧x=.tup [.nilslice,.int .i64 e])∨(e=0∧((Zd7 l=true∧x=.tup [.nilslice,.int .i64 4])∨(Zd7 l=false∧∃v,x=.tup [v,.int .i64 0]∧Tx h n v l)))
set_option maxHeartbeats 2000000
def A.b13:Zae:=sr [bx 2 22 0,bx 3 23 1,mN 4,mc 5 0]
 (sr [⟨(some 8),.mkfunc 81 [] [(.tmp 2)],none⟩,⟨(some 9),.mkfunc 82 [] [(.tmp 3),(.tmp 2)],none⟩,⟨(some 10),.mkfunc 83 [] [(.tmp 3)],none⟩,⟨(some 11),.bslice 94 1 3 [.nilfunc,.nilfunc,.nilfunc] [(0,1,(.tmp 8)),(1,1,(.tmp 9)),(2,1,(.tmp 10))],none⟩,c1 12 64 11,mv 6 12]
 (.seq (sr [mv 13 6,ni 14 13 0]
 (cd 14
 (sr [mv 15 6,mN 4,mv 5 15]
 (.ret))
 (.skip)))
 (sr [ld 16 3,c1 17 72 16,⟨(some 7),.alloc [.nilslice] 97,none⟩,so 7 17]
 (sr [ld 18 2,c1 19 71 18,⟨(some 20),.mkfunc 87 [] [(.tmp 7)],none⟩,c2 21 86 19 20,c1 22 69 21,xt 23 22 0,xt 24 22 1,mv 4 23,mv 5 24]
 (.ret)))))
theorem A.c13:A.F 13=some ⟨25,[.tmp 4,.tmp 5],A.b13⟩:=by kernel_rfl
def A.k13:=@A.kk 13 _ _ _ A.c13 rfl
set_option maxHeartbeats 2000000
def A.b12:Zae:=sr [bx 2 22 0,bx 3 23 1,mN 4,mc 5 0]
 (sr [⟨(some 7),.mkfunc 73 [] [(.tmp 2)],none⟩,⟨(some 8),.mkfunc 76 [] [(.tmp 2)],none⟩,⟨(some 9),.mkfunc 77 [] [(.tmp 2)],none⟩,⟨(some 10),.mkfunc 79 [] [(.tmp 3),(.tmp 2)],none⟩,⟨(some 11),.bslice 94 1 4 [.nilfunc,.nilfunc,.nilfunc,.nilfunc] [(0,1,(.tmp 7)),(1,1,(.tmp 8)),(2,1,(.tmp 9)),(3,1,(.tmp 10))],none⟩,c1 12 64 11,mv 6 12]
 (.seq (sr [mv 13 6,ni 14 13 0]
 (cd 14
 (sr [mv 15 6,mN 4,mv 5 15]
 (.ret))
 (.skip)))
 (.seq (.regD [ld 16 2,c1 17 71 16,ld 18 2,⟨(some 19),.iaddrSl 1 (.tmp 18) (.const (.int .i64 0)),none⟩,ld 20 19,ln 21 20,c2 22 80 17 21,ld 23 3,c1 24 72 23,c2 25 70 22 24,c1 26 69 25,xt 27 26 0,xt 28 26 1,mv 4 27,mv 5 28] [0,1,0,4,12,28,63,0,255,511,1023,2047,2047,8191,16383])
 (.ret))))
theorem A.c12:A.F 12=some ⟨29,[.tmp 4,.tmp 5],A.b12⟩:=by kernel_rfl
def A.k12:=@A.kk 12 _ _ _ A.c12 rfl
variable {h:T O} {l:List Rat}
def A.b22:Zae:=sr [⟨(some 8),.mov (.const (.bool false)),none⟩]
 (.seq (sr [mv 9 3,ei 10 9 0]
 (cd 10
 (.reg [mv 11 2,c1 12 97 11,mv 3 12])
 (.skip)))
 (sr [mv 13 1,mv 14 3,⟨(some 15),.bin .eql (.prim .int) false (.tmp 13) (.tmp 14),none⟩,mv 16 15,mg 17 3 16,⟨(some 18),.bin .eql (.prim .int) true (.tmp 17) (.const (.int .i64 0)),(some (16,true))⟩,mg 19 18 16,mg 20 0 19,mg 21 2 19,⟨(some 22),.call (.const (.func 60 [] [])) [(.tmp 20),(.tmp 21)],(some (19,true))⟩,⟨(some 23),.pick (.tmp 19) (.tmp 22) (.const (.bool false)),(some (16,true))⟩,mg 24 23 16,mh 25 3 24,⟨(some 26),.bin .neq (.prim .int) true (.tmp 25) (.const (.int .i64 0)),(some (24,false))⟩,mh 27 26 24,mg 28 0 27,⟨(some 29),.len 1 (.tmp 28),(some (27,true))⟩,⟨(some 30),.bin .eql (.prim .int) true (.tmp 29) (.const (.int .i64 0)),(some (27,true))⟩,⟨(some 31),.pick (.tmp 27) (.tmp 30) (.const (.bool false)),(some (24,false))⟩,⟨(some 32),.pick (.tmp 24) (.const (.bool true)) (.tmp 31),(some (16,true))⟩,pf 33 16 32,mv 8 33]
 (.ret)))
theorem A.c22:A.F 22=some ⟨34,[.tmp 8],A.b22⟩:=by kernel_rfl
def A.k22:=@A.kk 22 _ _ _ A.c22 rfl
def TP(e:Int)(l:List Rat)(v:V)(c:Int)(h:T O)(n:Nat):Prop:=(e≠0∧v=.nilslice∧c=e)∨(e=0∧((Zd7 l=true∧v=.nilslice∧c=4)∨(Zd7 l=false∧c=0∧Tx h n v l)))
theorem Ynf.parts{e:Int}{x:V}{n:Nat}(s:Ynf e l x h n):∃v c,x=.tup [v,.int .i64 c]∧TP e l v c h n:=by
 rcases s with⟨a,rfl⟩|⟨a,⟨b,rfl⟩|⟨b,v,rfl,c⟩⟩
 ·exact⟨_,_,rfl,.inl ⟨a,rfl,rfl⟩⟩
 ·exact⟨_,_,rfl,.inr ⟨a,.inl ⟨b,rfl,rfl⟩⟩⟩
 ·exact⟨_,_,rfl,.inr ⟨a,.inr ⟨b,rfl,c⟩⟩⟩
theorem TP.keep{e:Int}{v:V}{c:Int}{h':T O}{n n':Nat}(s:TP e l v c h n)(k:Keeps h n h' n'):TP e l v c h' n':=by
 rcases s with a|⟨a,b|⟨b,d,s⟩⟩
 ·exact .inl a
 ·exact .inr ⟨a,.inl b⟩
 ·exact .inr ⟨a,.inr ⟨b,d,s.keep k⟩⟩
theorem Yh3{N:Nat}{v u:V}{e c:Int}{w:List Nat}(hv:TP e l v c h N)(hu:e=0→Tx h N u l)(hl:l.length<100000)(hq:e=0→∀q∈l,(Zax q).length<1000000):A.C.call (.func 22 [] []) [v,.int .i64 c,u,.int .i64 e] ⟨h,N,w⟩=some (.bool true,⟨h,N,w⟩):=by
 apply Call.eq
 rw[Zab,A.k22 (by simp)]
 rcases hv with⟨a,rfl,rfl⟩|⟨rfl,⟨b,rfl,rfl⟩|⟨b,rfl,t⟩⟩
 ·simp[A.b22,a]
 ·have hr:=fun w=>Zzu (w:=w) (hu rfl) hl (hq rfl)
  rw[b]at hr
  simp only[if_true]at hr
  simp[A.b22,hr]
 ·have hr:=fun w=>Zzu (w:=w) (hu rfl) hl (hq rfl)
  rw[b]at hr
  simp only[Ypa,if_false]at hr
  have hs:=fun w=>Ygn (w:=w) (l:=l.map Zax) t (hu rfl) (by simpa using hl)
  simp[A.b22,hr,hs]
variable {q:Rat}
def A.b191:Zae:=sr [bx 1 114 0,⟨(some 2),.alloc [(.int .i64 0),.nilslice,(.int .i64 0),.nilslice] 114,none⟩]
 (.seq (.regD [fa 3 0 1,lN 4 2 3,c1 5 218 4,fa 6 2 1,lN 7 2 6,⟨(some 8),.build [(.int .i64 0),.nilslice,(.int .i64 0),.nilslice] [(0,2,(.tmp 5)),(2,2,(.tmp 7))],none⟩,⟨none,.store 4 (.tmp 2) (.tmp 8),none⟩] [0,1,3,0,8,31,63])
 (.ret))
theorem A.c191:A.F 191=some ⟨9,[.cell 2 (some 4)],A.b191⟩:=by kernel_rfl
def A.k191:=@A.kk 191 _ _ _ A.c191 rfl
def A.b119:Zae:=sr [bx 2 114 0,bx 3 114 1,⟨(some 4),.alloc [(.int .i64 0),.nilslice,(.int .i64 0),.nilslice] 114,none⟩]
 (.seq (.regD [lN 5 4 2,lN 6 4 3,c1 7 191 6,c2 8 120 5 7,⟨none,.store 4 (.tmp 4) (.tmp 8),none⟩] [0,0,2,7,15])
 (.ret))
theorem A.c119:A.F 119=some ⟨9,[.cell 4 (some 4)],A.b119⟩:=by kernel_rfl
def A.k119:=@A.kk 119 _ _ _ A.c119 rfl
theorem Yii{x:V}{h:T O}{N:Nat}(hx:Fc h N x q)(l1:wl q.num<1000000):Fn A.C 191 [x] h N (fun v h' n'=>Fc h' n' v (-q)):=by
 intro w
 rw[Zab,A.k191 (by simp)]
 obtain⟨n1,u1,n2,u2,rfl,s1,s2⟩:=hx
 have o1:=Za0 s1
 have o2:=Za0 s2
 unfold V.one at o1 o2
 have kB:Keeps h N ((h.set N (.cells [.int .i64 n1,u1,.int .i64 n2,u2] 114 true)).set (N+1) (.cells [.int .i64 0,.nilslice,.int .i64 0,.nilslice] 114 true)) (N+2):=kset (kset Keeps.refl _) _
 simp[A.b191,Zal,slc,o1,o2]
 generalize hhB:(h.set N (.cells [.int .i64 n1,u1,.int .i64 n2,u2] 114 true)).set (N+1) (.cells [.int .i64 0,.nilslice,.int .i64 0,.nilslice] 114 true)=hB at*
 have b1:hB.get N=some (.cells [.int .i64 n1,u1,.int .i64 n2,u2] 114 true):=by rw[←hhB];simp
 have b3:hB.get (N+1)=some (.cells [.int .i64 0,.nilslice,.int .i64 0,.nilslice] 114 true):=by rw[←hhB];simp
 refine Zac (Zno (s1.keep kB) (by omega)) ?_
 rintro v5 h1 m1 k1 q1
 obtain⟨n3,u3,rfl⟩:∃n3 u3,v5=.agg [.int .i64 n3,u3]:=by
  rcases q1 with⟨rfl,_⟩|⟨_,_,_,_,rfl,_⟩<;>exact⟨_,_,rfl⟩
 have o3:=Za0 q1
 unfold V.one at o3
 have kle1:=k1.le
 have f1:=(k1.get N (by omega)).trans b1
 have f3:=(k1.get (N+1) (by omega)).trans b3
 have e1:N<m1:=by omega
 have e2:N+1<m1:=by omega
 simp[f1,f3,e1,e2,Zal,slc,splice,Zak,o2,o3,Zap.chk,Ret]
 have kk:=kB.trans k1
 exact⟨kk.set (by omega),n3,u3,n2,u2,rfl,by rw[Rat.neg_num];exact q1.setNU (i:=N+1) f3 nu0 rfl,by rw[Rat.neg_den];exact((s2.keep kB).keep k1).setNU (i:=N+1) f3 nu0 rfl⟩
theorem Yig{x y:V}{p:Rat}{h:T O}{N:Nat}(hx:Fc h N x p)(hy:Fc h N y q)(l1:wl p.num<1000000)(l2:wl (p.den:Nat)<1000000)(l3:wl q.num<1000000)(l4:wl (q.den:Nat)<1000000):Fn A.C 119 [x,y] h N (fun v h' n'=>Fc h' n' v (p-q)):=by
 intro w
 rw[Zab,A.k119 (by simp)]
 have hx0:=hx
 have hy0:=hy
 obtain⟨n1,u1,n2,u2,rfl,s1,s2⟩:=hx
 obtain⟨n3,u3,n4,u4,rfl,s3,s4⟩:=hy
 have o1:=Za0 s1
 have o2:=Za0 s2
 have o3:=Za0 s3
 have o4:=Za0 s4
 unfold V.one at o1 o2 o3 o4
 have kB:Keeps h N (((h.set N (.cells [.int .i64 n1,u1,.int .i64 n2,u2] 114 true)).set (N+1) (.cells [.int .i64 n3,u3,.int .i64 n4,u4] 114 true)).set (N+2) (.cells [.int .i64 0,.nilslice,.int .i64 0,.nilslice] 114 true)) (N+3):=kset (kset (kset Keeps.refl _) _) _
 simp[A.b119,Zal,slc,o1,o2,o3,o4]
 generalize hhB:((h.set N (.cells [.int .i64 n1,u1,.int .i64 n2,u2] 114 true)).set (N+1) (.cells [.int .i64 n3,u3,.int .i64 n4,u4] 114 true)).set (N+2) (.cells [.int .i64 0,.nilslice,.int .i64 0,.nilslice] 114 true)=hB at*
 have b1:hB.get N=some (.cells [.int .i64 n1,u1,.int .i64 n2,u2] 114 true):=by rw[←hhB];simp
 have b2:hB.get (N+1)=some (.cells [.int .i64 n3,u3,.int .i64 n4,u4] 114 true):=by rw[←hhB];simp
 have b3:hB.get (N+2)=some (.cells [.int .i64 0,.nilslice,.int .i64 0,.nilslice] 114 true):=by rw[←hhB];simp
 refine Zac (Yii (hy0.keep kB) l3) ?_
 rintro v5 h1 m1 k1 q1
 have kle1:=k1.le
 have f1:=(k1.get N (by omega)).trans b1
 have f2:=(k1.get (N+1) (by omega)).trans b2
 have f3:=(k1.get (N+2) (by omega)).trans b3
 have e1:N<m1:=by omega
 have e2:N+1<m1:=by omega
 simp
 refine Zac (Yim ((hx0.keep kB).keep k1) q1 l1 l2 (by rw[Rat.neg_num,Zpd];exact l3) (by rw[Rat.neg_den];exact l4)) ?_
 rintro v7 h3 m3 k3 hv
 rw[←Rat.sub_eq_add_neg]at hv
 obtain⟨n5,u5,n6,u6,rfl,t1,t2⟩:=hv
 have o5:=Za0 t1
 have o6:=Za0 t2
 unfold V.one at o5 o6
 have kle3:=k3.le
 have f5:=(k3.get (N+2) (by omega)).trans f3
 have e3:N+2<m3:=by omega
 simp[f5,e3,Zal,slc,splice,Zak,o5,o6,Zap.chk,Ret]
 have kk:=(kB.trans k1).trans k3
 exact⟨kk.set (by omega),n5,u5,n6,u6,rfl,t1.setNU (i:=N+2) f5 nu0 rfl,t2.setNU (i:=N+2) f5 nu0 rfl⟩
theorem Qb.wls{k:Nat}(h:Qb k q):wl q.num≤k∧wl (q.den:Nat)≤k:=⟨Yju h.1,Yju (z:=(q.den:Int)) (k:=k) (by rw[Yo6];exact h.2)⟩
def A.b248:Zae:=sr [bx 1 114 0,⟨(some 2),.alloc [(.int .i64 0),.nilslice,(.int .i64 0),.nilslice] 114,none⟩]
 (sr [fa 3 2 1,lN 4 2 3,fa 5 0 1,lN 6 2 5,c2 7 156 4 6,⟨none,.store 4 (.tmp 2) (.tmp 7),none⟩]
 (.ret))
theorem A.c248:A.F 248=some ⟨8,[.cell 2 (some 4)],A.b248⟩:=by kernel_rfl
def A.k248:=@A.kk 248 _ _ _ A.c248 rfl
def A.b186:Zae:=sr [bx 2 114 0,bx 3 114 1,⟨(some 4),.alloc [(.int .i64 0),.nilslice,(.int .i64 0),.nilslice] 114,none⟩]
 (.seq (.regD [lN 5 4 2,lN 6 4 3,c1 7 248 6,c2 8 90 5 7,⟨none,.store 4 (.tmp 4) (.tmp 8),none⟩] [0,0,2,7,15])
 (.ret))
theorem A.c186:A.F 186=some ⟨9,[.cell 4 (some 4)],A.b186⟩:=by kernel_rfl
def A.k186:=@A.kk 186 _ _ _ A.c186 rfl
def A.b194:Zae:=sr [⟨(some 3),.mov (.const (.bool false)),none⟩]
 (sr [mv 4 0,ld 5 1,ia 6 4 4 5,lN 7 4 6,c1 8 128 7,ni 9 8 0,mv 3 9]
 (.ret))
theorem A.c194:A.F 194=some ⟨10,[.tmp 3],A.b194⟩:=by kernel_rfl
def A.k194:=@A.kk 194 _ _ _ A.c194 rfl
def A.b195:Zae:=sr [bx 2 114 0,⟨(some 3),.alloc [(.int .i64 0),.nilslice,(.int .i64 0),.nilslice] 114,none⟩]
 (sr [lN 4 4 2,lN 5 4 1,c2 6 186 4 5,⟨none,.store 4 (.tmp 3) (.tmp 6),none⟩]
 (.ret))
theorem A.c195:A.F 195=some ⟨7,[.cell 3 (some 4)],A.b195⟩:=by kernel_rfl
def A.k195:=@A.kk 195 _ _ _ A.c195 rfl
def A.b196:Zae:=sr [bx 3 114 0,bx 4 114 1,⟨(some 5),.alloc [(.int .i64 0),.nilslice,(.int .i64 0),.nilslice] 114,none⟩]
 (.seq (.regD [lN 6 4 3,lN 7 4 2,lN 8 4 4,c2 9 90 7 8,c2 10 119 6 9,⟨none,.store 4 (.tmp 5) (.tmp 10),none⟩] [0,0,0,6,15,31])
 (.ret))
theorem A.c196:A.F 196=some ⟨11,[.cell 5 (some 4)],A.b196⟩:=by kernel_rfl
def A.k196:=@A.kk 196 _ _ _ A.c196 rfl
theorem Yik{x:V}{q:Rat}{h:T O}{N:Nat}(hx:Fc h N x q)(h0:q≠0)(l1:wl q.num<1000000)(l2:wl (q.den:Nat)<1000000):Fn A.C 248 [x] h N (fun v h' n'=>Fc h' n' v q⁻¹):=by
 intro w
 rw[Zab,A.k248 (by simp)]
 obtain⟨n1,u1,n2,u2,rfl,s1,s2⟩:=hx
 have o1:=Za0 s1
 have o2:=Za0 s2
 unfold V.one at o1 o2
 have kB:Keeps h N ((h.set N (.cells [.int .i64 n1,u1,.int .i64 n2,u2] 114 true)).set (N+1) (.cells [.int .i64 0,.nilslice,.int .i64 0,.nilslice] 114 true)) (N+2):=kset (kset Keeps.refl _) _
 simp[A.b248,Zal,slc,o1,o2]
 generalize hhB:(h.set N (.cells [.int .i64 n1,u1,.int .i64 n2,u2] 114 true)).set (N+1) (.cells [.int .i64 0,.nilslice,.int .i64 0,.nilslice] 114 true)=hB at*
 have b3:hB.get (N+1)=some (.cells [.int .i64 0,.nilslice,.int .i64 0,.nilslice] 114 true):=by rw[←hhB];simp
 have hn:q.num≠0:=fun hc=>h0 (Ybo.1 hc)
 refine Zac (Zsl (s2.keep kB) (s1.keep kB) hn (by omega) (by omega)) ?_
 rintro v7 h3 m3 k3 hv
 rw[←Zj2]at hv
 obtain⟨n5,u5,n6,u6,rfl,t1,t2⟩:=hv
 have o5:=Za0 t1
 have o6:=Za0 t2
 unfold V.one at o5 o6
 have kle3:=k3.le
 have f5:=(k3.get (N+1) (by omega)).trans b3
 have e3:N+1<m3:=by omega
 simp[f5,Zal,slc,splice,Zak,o5,o6,Ret]
 have kk:=kB.trans k3
 exact⟨kk.set (by omega),n5,u5,n6,u6,rfl,t1.setNU (i:=N+1) f5 nu0 rfl,t2.setNU (i:=N+1) f5 nu0 rfl⟩
theorem Yil{x y:V}{p q:Rat}{h:T O}{N:Nat}(hx:Fc h N x p)(hy:Fc h N y q)(h0:q≠0)(l1:wl p.num<1000000)(l2:wl (p.den:Nat)<1000000)(l3:wl q.num<1000000)(l4:wl (q.den:Nat)<1000000)(l5:wl q⁻¹.num<1000000)(l6:wl (q⁻¹.den:Nat)<1000000):Fn A.C 186 [x,y] h N (fun v h' n'=>Fc h' n' v (p/q)):=by
 intro w
 rw[Zab,A.k186 (by simp)]
 have hx0:=hx
 have hy0:=hy
 obtain⟨n1,u1,n2,u2,rfl,s1,s2⟩:=hx
 obtain⟨n3,u3,n4,u4,rfl,s3,s4⟩:=hy
 have o1:=Za0 s1
 have o2:=Za0 s2
 have o3:=Za0 s3
 have o4:=Za0 s4
 unfold V.one at o1 o2 o3 o4
 have kB:Keeps h N (((h.set N (.cells [.int .i64 n1,u1,.int .i64 n2,u2] 114 true)).set (N+1) (.cells [.int .i64 n3,u3,.int .i64 n4,u4] 114 true)).set (N+2) (.cells [.int .i64 0,.nilslice,.int .i64 0,.nilslice] 114 true)) (N+3):=kset (kset (kset Keeps.refl _) _) _
 simp[A.b186,Zal,slc,o1,o2,o3,o4]
 generalize hhB:((h.set N (.cells [.int .i64 n1,u1,.int .i64 n2,u2] 114 true)).set (N+1) (.cells [.int .i64 n3,u3,.int .i64 n4,u4] 114 true)).set (N+2) (.cells [.int .i64 0,.nilslice,.int .i64 0,.nilslice] 114 true)=hB at*
 have b1:hB.get N=some (.cells [.int .i64 n1,u1,.int .i64 n2,u2] 114 true):=by rw[←hhB];simp
 have b2:hB.get (N+1)=some (.cells [.int .i64 n3,u3,.int .i64 n4,u4] 114 true):=by rw[←hhB];simp
 have b3:hB.get (N+2)=some (.cells [.int .i64 0,.nilslice,.int .i64 0,.nilslice] 114 true):=by rw[←hhB];simp
 refine Zac (Yik (hy0.keep kB) h0 l3 l4) ?_
 rintro v5 h1 m1 k1 q1
 have kle1:=k1.le
 have f1:=(k1.get N (by omega)).trans b1
 have f2:=(k1.get (N+1) (by omega)).trans b2
 have f3:=(k1.get (N+2) (by omega)).trans b3
 have e1:N<m1:=by omega
 have e2:N+1<m1:=by omega
 simp
 refine Zac (Yaf ((hx0.keep kB).keep k1) q1 l1 l2 l5 l6) ?_
 rintro v7 h3 m3 k3 hv
 rw[←Rat.div_def]at hv
 obtain⟨n5,u5,n6,u6,rfl,t1,t2⟩:=hv
 have o5:=Za0 t1
 have o6:=Za0 t2
 unfold V.one at o5 o6
 have kle3:=k3.le
 have f5:=(k3.get (N+2) (by omega)).trans f3
 have e3:N+2<m3:=by omega
 simp[f5,e3,Zal,slc,splice,Zak,o5,o6,Zap.chk,Ret]
 have kk:=(kB.trans k1).trans k3
 exact⟨kk.set (by omega),n5,u5,n6,u6,rfl,t1.setNU (i:=N+2) f5 nu0 rfl,t2.setNU (i:=N+2) f5 nu0 rfl⟩
variable {N k:Nat} {h:T O} {rw:Bool}
theorem Yl6{q:Rat}(h:Qb k q)(h0:q≠0):Qb k q⁻¹:=by
 have e:=Zj2 q
 have h1:q.num≠0:=fun hc=>h0 (Ybo.1 hc)
 refine⟨?_,?_⟩
 ·rw[Rat.num_inv,Yqt,Yo6]
  have:q.num.sign.natAbs=1:=by
   rcases Int.lt_trichotomy q.num 0 with h2|h2|h2
   ·rw[Int.sign_eq_neg_one_of_neg h2];rfl
   ·exact absurd h2 h1
   ·rw[Int.sign_eq_one_of_pos h2];rfl
  rw[this,Nat.one_mul]
  exact h.2
 ·rw[Rat.den_inv,Yo0 h1]
  exact h.1
theorem Yk3{p:Nat}{u:V}{l:List Rat}{e:TypeId}(hp:h.get p=some (.cells [.int .i64 k] e rw))(hpl:p<N)(hu:FrS h N u l)(hk:k<l.length):FnV A.C (.func 194 [] [.ptr p 0]) [u] h N (fun x _ _=>x=.bool (decide (l[k]?.getD 0≠0))):=by
 intro w
 have l1:=hu.len
 have hk':(k:Int)<(l.length:Int):=by omega
 obtain⟨q,hq⟩:=Zaf hk
 obtain⟨i,o,cc,e,rw,c,q1,q2,q3,q4,q5⟩:=hu.at hq
 rw[hq]
 rw[Zab,A.k194 (by simp)]
 simp[A.b194,hp,l1,hk',q1,q3,q4]
 refine Zac (Zor q5.fc) ?_
 rintro _ H2 n2 k2 rfl
 have hz:(sg3 q.num≠0)=(q≠0):=by
  have h1:=@Ybo q
  apply propext
  unfold sg3
  constructor
  ·intro hh hc
   have:=h1.2 hc
   rw[this]at hh
   simp at hh
  ·intro hh hc
   apply hh
   apply h1.1
   split at hc
   ·omega
   ·split at hc<;>omega
 simp[Ret]
 refine⟨k2,?_⟩
 by_cases c0:q=0
 ·simp[c0,sg3]
 ·have:sg3 q.num≠0:=by rw[hz];exact c0
  simp[c0,this]
theorem Yk2{p:Nat}{c d:List V}{x q:Rat}{e:TypeId}{j:Nat}(hp:h.get p=some (.cells d e rw))(hpl:p<N)(hc:FcC h N c x)(hd:FcC h N d q)(h0:q≠0)(hx:Qb j x)(hq:Qb k q)(hj:j≤500000)(hk:k≤500000):FnV A.C (.func 195 [] [.ptr p 0]) [.agg c] h N (fun z h' n'=>Fc h' n' z (x/q)):=by
 intro w
 obtain⟨c1,c2⟩:=hc.len
 obtain⟨d1,d2⟩:=hd.len
 have w1:=hx.wls
 have w2:=hq.wls
 have w3:=(Yl6 hq h0).wls
 have hcc:∀c:List V,(V.agg c).cells=c:=fun _=>rfl
 have s0:slc c 0 4=some c:=by unfold slc;rw[c1];simp;exact Yo7 (by omega)
 have s1:slc d 0 4=some d:=by unfold slc;rw[d1];simp;exact Yo7 (by omega)
 have kB:Keeps h N ((h.set N (.cells c 114 true)).set (N+1) (.cells zF 114 true)) (N+1+1):=(Keeps.refl.new _).new _
 unfold zF at kB
 have n1:¬p=N:=by omega
 have n2:¬p=N+1:=by omega
 have n3:¬N=N+1:=by omega
 rw[Zab,A.k195 (by simp)]
 simp[-V.cells, -V.one,A.b195,hp,n1,n2,hcc,c2,s0,s1]
 generalize hG:(h.set N (.cells c 114 true)).set (N+1) (.cells [.int .i64 0,.nilslice,.int .i64 0,.nilslice] 114 true)=G at*
 have g1:G.get (N+1)=some (.cells [.int .i64 0,.nilslice,.int .i64 0,.nilslice] 114 true):=by rw[←hG];simp
 clear hG
 refine Zac (Yil (hc.keep kB).fc (hd.keep kB).fc h0 (by omega) (by omega) (by omega) (by omega) (by omega) (by omega)) ?_
 rintro _ H2 m2 k2 hz
 obtain⟨z,rfl,hzc⟩:=hz.c
 obtain⟨z1,z2⟩:=hzc.len
 have le2:=k2.le
 have g2:=(k2.get (N+1) (by omega)).trans g1
 have e4:splice [V.int .i64 0,.nilslice,.int .i64 0,.nilslice] 0 z=z:=by unfold splice;rw[z1];simp
 have s2:slc z 0 4=some z:=by unfold slc;rw[z1];simp;exact Yo7 (by omega)
 have lt:N+1<m2:=by omega
 simp[-V.cells, -V.one,Zak,hcc,z1,z2,e4,s2,g2,Ret]
 exact⟨(kB.trans k2).set (by omega),(hzc.setNU (e1:=114) (w1:=true) (c1:=z) g2 nu0 (by rw[z1];rfl)).fc⟩
theorem Yk1{p:Nat}{a b d:List V}{x y f:Rat}{e:TypeId}{i j:Nat}(hp:h.get p=some (.cells d e rw))(hpl:p<N)(ha:FcC h N a x)(hb:FcC h N b y)(hd:FcC h N d f)(hx:Qb i x)(hy:Qb j y)(hf:Qb k f)(hi:i≤450000)(hj:j≤450000)(hk:k≤450000)(hj1:1≤j)(hk1:1≤k):FnV A.C (.func 196 [] [.ptr p 0]) [.agg a,.agg b] h N (fun z h' n'=>Fc h' n' z (x-f*y)):=by
 intro w
 obtain⟨a1,a2⟩:=ha.len
 obtain⟨b1,b2⟩:=hb.len
 obtain⟨d1,d2⟩:=hd.len
 have w1:=hx.wls
 have w2:=hy.wls
 have w3:=hf.wls
 have w4:=(hf.mul hy).wls
 have hcc:∀c:List V,(V.agg c).cells=c:=fun _=>rfl
 have s0:∀c:List V,c.length=4→slc c 0 4=some c:=fun c h=>by unfold slc;rw[h];simp;exact Yo7 (by omega)
 have sa:=s0 a a1
 have sb:=s0 b b1
 have sd:=s0 d d1
 have kB:Keeps h N (((h.set N (.cells a 114 true)).set (N+1) (.cells b 114 true)).set (N+1+1) (.cells zF 114 true)) (N+1+1+1):=((Keeps.refl.new _).new _).new _
 unfold zF at kB
 have n1:¬p=N:=by omega
 have n2:¬p=N+1:=by omega
 have n3:¬p=N+1+1:=by omega
 have n4:¬N=N+1:=by omega
 have n5:¬N=N+1+1:=by omega
 have lp:p<N+1+1+1:=by omega
 rw[Zab,A.k196 (by simp)]
 simp[-V.cells, -V.one,A.b196,hp,n1,n2,n3,hcc,a2,b2,sa,sb,sd,n5,lp]
 generalize hG:((h.set N (.cells a 114 true)).set (N+1) (.cells b 114 true)).set (N+1+1) (.cells [.int .i64 0,.nilslice,.int .i64 0,.nilslice] 114 true)=G at*
 have g1:G.get (N+1+1)=some (.cells [.int .i64 0,.nilslice,.int .i64 0,.nilslice] 114 true):=by rw[←hG];simp
 have g2:G.get N=some (.cells a 114 true):=by rw[←hG];simp[n5]
 have g3:G.get (N+1)=some (.cells b 114 true):=by rw[←hG];simp
 clear hG
 refine Zac (Yaf (hd.keep kB).fc (hb.keep kB).fc (by omega) (by omega) (by omega) (by omega)) ?_
 rintro _ H2 m2 k2 hz
 have le2:=k2.le
 have lt:N+1+1<m2:=by omega
 simp[]
 refine Zac (Yig ((ha.keep kB).keep k2).fc hz (by omega) (by omega) (by omega) (by omega)) ?_
 rintro _ H3 m3 k3 hv
 obtain⟨z,rfl,hzc⟩:=hv.c
 obtain⟨z1,z2⟩:=hzc.len
 have le3:=k3.le
 have g4:=(k3.get (N+1+1) (by omega)).trans ((k2.get (N+1+1) (by omega)).trans g1)
 have e4:splice [V.int .i64 0,.nilslice,.int .i64 0,.nilslice] 0 z=z:=by unfold splice;rw[z1];simp
 have s2:=s0 z z1
 have lt3:N+1+1<m3:=by omega
 simp[-V.cells, -V.one,Zak,hcc,z1,z2,e4,s2,g4,lt,lt3,Ret,Zap.chk]
 exact⟨((kB.trans k2).trans k3).set (by omega),(hzc.setNU (e1:=114) (w1:=true) (c1:=z) g4 nu0 (by rw[z1];rfl)).fc⟩
end Go.Mx
