/-The echelon form of a matrix-/
import Derived.Test.YteoackkadadmdaaGreatDoorVbF
set_option linter.all false
namespace Go.Mx
open Go Go.Proofs
variable {d k:Nat} {m:List (List Rat)}
set_option maxRecDepth 1000000
def nE(m:List (List Rat))(k:Nat):Nat->Nat->Nat
 |d,0=>d
 |d,n+1=>if (m[d]?.getD [])[k]?.getD 0≠0 then d else nE m k (d+1) n
def eG(m:List (List Rat))(d k:Nat):Nat:=nE m k d (m.length-d)
def HM{m:List (List Rat)}{k:Nat}:∀{n d:Nat},d<=nE m k d n/\nE m k d n<=d+n
 |0,d=>by simp[nE]
 |n+1,d=>by
  unfold nE
  split
  ·omega
  ·have:=@HM m k n (d+1)
   omega
def JJ{m:List (List Rat)}{k:Nat}:∀{n d:Nat},nE m k d n<d+n->(m[nE m k d n]?.getD [])[k]?.getD 0≠0
 |0,d,h=>by simp[nE]at h
 |n+1,d,h=>by
  unfold nE at h ⊢
  split
  ·assumption
  ·rename_i hc
   rw[ar hc]at h
   exact JJ (by omega)
def oS(r p:List Rat)(k:Nat):List Rat:=me (fun x y=>x-r[k]?.getD 0*y) r p r.length
def gg(m:List (List Rat))(d k t:Nat):List (List Rat):=(List.range m.length).map fun i=>if i<t/\i≠d then oS (m[i]?.getD []) (m[d]?.getD []) k else m[i]?.getD []
def eE(m:List (List Rat))(d p:Nat):List (List Rat):=(m.set d (m[p]?.getD [])).set p (m[d]?.getD [])
def g_(m:List (List Rat))(d k:Nat):List (List Rat):=m.set d ((m[d]?.getD []).map fun x=>x/(m[d]?.getD [])[k]?.getD 0)
def iR(s:List (List Rat)×Nat×List Nat)(k:Nat):List (List Rat)×Nat×List Nat:=
 if eG s.1 s.2.1 k<s.1.length then (gg (g_ (eE s.1 s.2.1 (eG s.1 s.2.1 k)) s.2.1 k) s.2.1 k s.1.length,s.2.1+1,s.2.2++[k]) else s
def bf(m:List (List Rat))(n:Nat):List (List Rat)×Nat×List Nat:=(List.range n).foldl iR (m,0,[])
def wz{n:Nat}:bf m (n+1)=iR (bf m n) n:=by simp[bf,List.range_succ]
def Ax{t:Nat}:(gg m d k t).length=m.length:=by simp[gg]
def Da{t i:Nat}(h:i<m.length):(gg m d k t)[i]?=some (if i<t/\i≠d then oS (m[i]?.getD []) (m[d]?.getD []) k else m[i]?.getD []):=by simp[gg,h]
def Zp:gg m d k 0=m:=by
 apply nD
 intro i
 by_cases h:i<m.length
 ·rw[Da h];simp[cZ h]
 ·rw[fC (by rw[Ax];omega),fC (by omega)]
def Zr{t:Nat}(h:d<m.length):(gg m d k t)[d]?=m[d]?:=by
 rw[Da h,cZ h];simp
def Tk{t:Nat}(h:t<m.length)(hd:t≠d):gg m d k (t+1)=(gg m d k t).set t (oS (m[t]?.getD []) (m[d]?.getD []) k):=by
 apply nD
 intro i
 by_cases hi:i<m.length
 ·by_cases e:i=t
  ·subst e
   rw[iI (by rw[Ax];exact h),Da hi,aF ⟨by omega,hd⟩]
  ·rw[ec (Ne.symm e),Da hi,Da hi]
   congr 1
   by_cases e2:i<t
   ·simp[e2,show i<t+1 by omega]
   ·simp[e2,show ¬i<t+1 by omega]
 ·rw[fC (by rw[Ax];omega),fC (by rw[yh,Ax];omega)]
def Zq:gg m d k (d+1)=gg m d k d:=by
 unfold gg
 apply AA
 intro i _
 by_cases e:i=d
 ·subst e;simp
 ·by_cases e2:i<d
  ·simp[e,e2,show i<d+1 by omega]
  ·simp[e2,show ¬i<d+1 by omega]
def Ybf{r p:List Rat}(h:r[k]?.getD 0=0):oS r p k=r:=by
 apply nD
 intro i
 by_cases hi:i<r.length
 ·unfold oS
  rw[Oi hi,h,Rat.zero_mul,Rat.sub_eq_add_neg,Rat.neg_zero,Rat.add_zero,cZ hi]
  rfl
 ·rw[fC (by unfold oS;rw[Ff];omega),fC (by omega)]
def JI{r p:List Rat}:(oS r p k).length=r.length:=by unfold oS;rw[Ff]
variable {K d i k n:Nat} {m:List (List Rat)} {r:List Rat}
def cD(m:List (List Rat))(n:Nat):Prop:=∀r∈m,r.length=n
def cD.at(h:cD m n)(hi:i<m.length):(m[i]?.getD []).length=n:=by
 rw[cZ hi]
 exact h _ (List.getElem_mem hi)
def cD.set(h:cD m n)(hr:r.length=n):cD (m.set i r) n:=fun x hx=>by
 rcases EZ hx with hx|rfl
 ·exact h x hx
 ·exact hr
def cD.Bs{p:Nat}(h:cD m n)(hd:d<m.length)(hp:p<m.length):cD (eE m d p) n:=(h.set (h.at hp)).set (h.at hd)
def cD.JH(h:cD m n)(hd:d<m.length):cD (g_ m d k) n:=h.set (by rw[jP];exact h.at hd)
def cD.elm{t:Nat}(h:cD m n):cD (gg m d k t) n:=fun r hr=>by
 unfold gg at hr
 obtain⟨i,hi,rfl⟩:=eM.1 hr
 have hi:=yb.1 hi
 split
 ·rw[JI];exact h.at hi
 ·exact h.at hi
def t_{p:Nat}:(eE m d p).length=m.length:=by simp[eE]
def Fa:(g_ m d k).length=m.length:=by simp[g_]
def Ylv{s:List (List Rat)×Nat×List Nat}:(iR s k).1.length=s.1.length:=by
 unfold iR
 split
 ·simp only[Ax,Fa,t_]
 ·rfl
def Yp2{s:List (List Rat)×Nat×List Nat}(h:cD s.1 n)(hd:s.2.1<=s.1.length):cD (iR s k).1 n/\(iR s k).2.1<=s.1.length/\s.2.1<=(iR s k).2.1:=by
 unfold iR
 have hle:=@HM s.1 k (s.1.length-s.2.1) s.2.1
 split
 ·rename_i hp
  have eX:s.2.1<s.1.length:=by unfold eG at hp;omega
  exact⟨((h.Bs eX hp).JH (by rw[t_];exact eX)).elm,by simp only;omega,by simp⟩
 ·exact⟨h,hd,aW _⟩
def cX(m:List (List Rat))(K:Nat):Prop:=∀r∈m,∀q∈r,Qb K q
def cX.mono{L:Nat}(h:cX m K)(hk:K<=L):cX m L:=fun r hr q hq=>(h r hr q hq).mono hk
def cX.at{m:List (List Rat)}{K i:Nat}(h:cX m K):∀q∈m[i]?.getD [],Qb K q:=fun q hq=>by
 cases hr:m[i]? with
 |none=>rw[hr]at hq;simp at hq
 |some r=>rw[hr]at hq;exact h r (cm hr) q hq
def cX.set(h:cX m K)(hr:∀q∈r,Qb K q):cX (m.set i r) K:=fun x hx=>by
 rcases EZ hx with hx|rfl
 ·exact h x hx
 ·exact hr
def cX.Bs{p:Nat}(h:cX m K):cX (eE m d p) K:=(h.set h.at).set h.at
def Td(h:cX m K)(hK:1<=K)(hp:(m[d]?.getD [])[k]?.getD 0≠0):∀q∈(m[d]?.getD []).map (fun x=>x/(m[d]?.getD [])[k]?.getD 0),Qb (2*K) q:=fun q hq=>by
 obtain⟨x,hx,rfl⟩:=eM.1 hq
 have h1:=h.at (i:=d) x hx
 have h2:=Te (Bt (fun q hq=>h.at (i:=d) q hq) hK k) hp
 rw[Rat.div_def,show 2*K=K+K by omega]
 exact h1.mul h2
def Ylt{p:List Rat}(hr:∀q∈r,Qb K q)(hp:∀q∈p,Qb (2*K) q)(hK:1<=K):∀q∈oS r p k,Qb (4*K+1) q:=fun q hq=>by
 unfold oS me at hq
 obtain⟨i,_,rfl⟩:=eM.1 hq
 have h1:=Bt hr hK i
 have h2:=(Bt hr hK k).mul (Bt hp (by omega) i)
 have h3:Qb (K+2*K) (-(r[k]?.getD 0*p[i]?.getD 0)):=⟨by rw[Rat.neg_num,yS];exact h2.1,by rw[Rat.neg_den];exact h2.2⟩
 have h4:=h1.add h3
 rw[<-Rat.sub_eq_add_neg]at h4
 exact h4.mono (by omega)
def Yp3{s:List (List Rat)×Nat×List Nat}(h:cX s.1 K)(hK:1<=K):cX (iR s k).1 (4*K+1):=by
 unfold iR
 split
 ·rename_i hp
  have hle:=@HM s.1 k (s.1.length-s.2.1) s.2.1
  have eX:s.2.1<s.1.length:=by unfold eG at hp;omega
  have bB:=@JJ s.1 k (s.1.length-s.2.1) s.2.1 (by unfold eG at hp;omega)
  have Bu:=h.Bs (d:=s.2.1) (p:=eG s.1 s.2.1 k)
  have ak:(eE s.1 s.2.1 (eG s.1 s.2.1 k))[s.2.1]?.getD []=s.1[eG s.1 s.2.1 k]?.getD []:=by
   unfold eE
   by_cases e:eG s.1 s.2.1 k=s.2.1
   ·rw[e,iI (by simp;omega)];rfl
   ·rw[ec e,iI eX];rfl
  have su:((eE s.1 s.2.1 (eG s.1 s.2.1 k))[s.2.1]?.getD [])[k]?.getD 0≠0:=by rw[ak];exact bB
  have Ay:=Td Bu hK su
  intro r hr
  unfold gg at hr
  obtain⟨i,hi,rfl⟩:=eM.1 hr
  have hi:=yb.1 hi
  rw[Fa,t_]at hi
  have C7:(g_ (eE s.1 s.2.1 (eG s.1 s.2.1 k)) s.2.1 k)[s.2.1]?.getD []=((eE s.1 s.2.1 (eG s.1 s.2.1 k))[s.2.1]?.getD []).map (fun x=>x/((eE s.1 s.2.1 (eG s.1 s.2.1 k))[s.2.1]?.getD [])[k]?.getD 0):=by
   unfold g_
   rw[iI (by rw[t_];exact eX)]
   rfl
  split
  ·rename_i hc
   have JK:(g_ (eE s.1 s.2.1 (eG s.1 s.2.1 k)) s.2.1 k)[i]?.getD []=(eE s.1 s.2.1 (eG s.1 s.2.1 k))[i]?.getD []:=by
    unfold g_
    rw[ec (Ne.symm hc.2)]
   rw[C7,JK]
   exact Ylt Bu.at Ay hK
  ·by_cases e:i=s.2.1
   ·rw[e,C7]
    exact fun q hq=>(Ay q hq).mono (by omega)
   ·unfold g_
    rw[ec (Ne.symm e)]
    exact fun q hq=>(Bu.at q hq).mono (by omega)
 ·exact h.mono (by omega)
variable {N:Nat} {h:T O} {l:List aQ} {m:List (List aQ)} {u v:V}
def A.b55:av:=sr [mc 2 0]
 (sr [mv 3 0,ge 4 (.build [.int .i64 0,.int .i64 0] [(0,1,(kq 64)),(1,1,(kq 16))]),c2 5 127 3 4,mv 2 5]
 (.ret))
def A.c55:A.F 55=some ⟨6,[.tmp 2],A.b55⟩:=by kernel_rfl
def A.k55:=@A.kk 55 _ _ _ A.c55 rfl
def A.b114:av:=sr [mc 4 0]
 (.seq (sr [mv 5 0,ln 6 5,mv 7 1,ge 8 (.bin .neq (.aM .int) false (tq 6) (tq 7))]
 (cd 8
 (sr [mc 4 2]
 (.ret))
 (.skip)))
 (sr [mv 9 0,ge 10 (.call (fq 77) [.const (.int .i64 1)]),c2 11 93 9 10,mv 4 11]
 (.ret)))
def A.c114:A.F 114=some ⟨12,[.tmp 4],A.b114⟩:=by kernel_rfl
def A.k114:=@A.kk 114 _ _ _ A.c114 rfl
def A.b112:av:=sr [mc 1 0]
 (sr [ld 2 0,c1 3 55 2,mv 1 3]
 (.ret))
def A.c112:A.F 112=some ⟨4,[.tmp 1],A.b112⟩:=by kernel_rfl
def A.k112:=@A.kk 112 _ _ _ A.c112 rfl
def A.b113:av:=sr [mc 2 0]
 (sr [ld 3 0,ld 4 1,ln 5 4,c2 6 114 3 5,mv 2 6]
 (.ret))
def A.c113:A.F 113=some ⟨7,[.tmp 2],A.b113⟩:=by kernel_rfl
def A.k113:=@A.kk 113 _ _ _ A.c113 rfl
def A.b39:av:=sr [bx 2 22 0,bx 3 23 1,mc 4 0]
 (sr [ge 5 (.cP 112 [] [tq 2]),ge 6 (.cP 113 [] [tq 3,tq 2]),ge 7 (.aV 70 1 2 [.bs,.bs] [(0,1,(tq 5)),(1,1,(tq 6))]),c1 8 37 7,mv 4 8]
 (.ret))
def A.c39:A.F 39=some ⟨9,[.tmp 4],A.b39⟩:=by kernel_rfl
def A.k39:=@A.kk 39 _ _ _ A.c39 rfl
def Yhd{l:List (List aQ)}(hs:eP h N v l)(hl:l.length<100000)(hx:∀x∈l,x.length<100000/\∀s∈x,s.length<=100000):Fn A.C 55 [v] h N (fun u _ _=>u=.int .i64 (ky l 64 16)):=by
 intro w
 rw[aO,A.k55 (by simp)]
 simp[A.b55,ad]
 refine aA (Yhc (a:=64) (b:=16) hs hl hx) ?_
 rintro _ H2 n2 k2 rfl
 simp[az]
 exact k2
def Y7(h:ky m 64 16=0)(hs:mi 6 6 m=true):Fb m (iS m):=by
 obtain⟨s1,s2⟩:=Y8 hs
 unfold ky at h
 split at h
 ·exact absurd h (by decide)
 split at h
 ·exact absurd h (by decide)
 rename_i h1 h2
 have hp:0<m.length:=by omega
 obtain⟨r0,eC,e0⟩:=Yq6 hp
 refine⟨hp,Y9 s1 (by omega),by omega,?_,fun r hr=>Za (Bv h _ (eM.2 ⟨r,hr,rfl⟩)) (s2 r hr)⟩
 rw[e0]
 exact Y9 (Zb (s2 r0 eC)) (by omega)
def Yqg{n:Nat}(ht:Sl h N v (strs l))(xx:l.length<100000)(JL:∀s∈l,s.length<=100000):Fn A.C 114 [v,.int .i64 n] h N (fun z _ _=>z=.int .i64 (sD l n 1)):=by
 intro w
 have ll:=ht.len
 rw[tD]at ll
 have sg:∀w,A.C.call (.func 77 [] []) [.int .i64 1] ⟨h,N,w⟩=some (.func 143 [] [.ptr N 0],⟨h.set N (.cells [.int .i64 1] 3 true),N+1,w⟩):=fun w=>by
  apply Call.eq
  rw[aO,A.k77 (by simp)]
  simp[A.b77]
 have e1:((l.length:Int)=(n:Int))=(l.length=n):=by apply propext;omega
 rw[aO,A.k114 (by simp)]
 by_cases c:l.length=n
 ·subst c
  simp[A.b114,ll,sg]
  have k1:ab h N (h.set N (.cells [.int .i64 1] 3 true)) (N+1):=ab.refl.new _
  refine aA (Zc (pX 1) (ht.ae k1) xx fun s hs h' n' hk=>Zyf (z:=1) (e:=3) (rw:=true) (by rw[hk.get N (by omega)];simp) (by have:=hk.le;omega) (JL s hs)) ?_
  rintro _ H2 n2 k2 rfl
  simp[az,sD]
  exact k1.trans k2
 ·simp[A.b114,ll,e1,c,az,sD]
  exact ab.refl
def Yor{q:Nat}{l:List aQ}{eq:TypeId}{wq:Bool}(Fe:h.get q=some (.cells [u] eq wq))(NT:q<N)(hs:eP h N u m)(jQ:m.length<100000)(dh:∀x∈m,x.length<100000/\∀s∈x,s.length<=100000):jR A.C (.func 112 [] [.ptr q 0]) [] h N (fun z _ _=>z=.int .i64 (ky m 64 16)):=by
 intro w
 rw[aO,A.k112 (by simp)]
 simp[A.b112,Fe]
 refine aA (Yhd hs jQ dh) ?_
 rintro _ H2 n2 k2 rfl
 simp[az]
 exact k2
def Yoq{p q:Nat}{ep eq:TypeId}{wp wq:Bool}(lD:h.get p=some (.cells [v] ep wp))(Tf:p<N)(Fe:h.get q=some (.cells [u] eq wq))(NT:q<N)(hs:eP h N u m)(jQ:m.length<100000)(dh:∀x∈m,x.length<100000/\∀s∈x,s.length<=100000)(ht:Sl h N v (strs l))(xx:l.length<100000)(JL:∀s∈l,s.length<=100000):jR A.C (.func 113 [] [.ptr p 0,.ptr q 0]) [] h N (fun z _ _=>z=.int .i64 (sD l m.length 1)):=by
 intro w
 have ml:=hs.len
 rw[aO,A.k113 (by simp)]
 simp[A.b113,Fe,lD,ml]
 refine aA (Yqg ht xx JL) ?_
 rintro _ H2 n2 k2 rfl
 simp[az]
 exact k2
def eP.one(hm:eP h N u m):V.one u=true/\V.cells u=[u]:=by
 obtain⟨us,⟨_,rfl|rfl⟩|⟨i,o,cp,c,e,rw,rfl,_⟩,_⟩:=hm<;>exact⟨rfl,rfl⟩
def C8(m:List (List aQ))(l:List aQ):Int:=bK [ky m 64 16,sD l m.length 1]
def Yrq(hm:eP h N u m)(hl:Sl h N v (strs l))(m1:m.length<100000)(m2:∀x∈m,x.length<100000/\∀s∈x,s.length<=100000)(l1:l.length<100000)(l2:∀s∈l,s.length<=100000):Fn A.C 39 [u,v] h N (fun z _ _=>z=.int .i64 (C8 m l)):=by
 intro w
 have o2:=hl.form.one
 have o3:=hl.form.cells
 obtain⟨o4,o5⟩:=hm.one
 rw[aO,A.k39 (by simp)]
 unfold V.one at o2 o4
 unfold V.cells at o3 o5
 simp[A.b39,o2,o3,o4,o5,ad]
 generalize hH:((h.set N (.cells [u] 22 true)).set (N+1) (.cells [v] 23 true)).set (N+1+1) (.cells [.func 112 [] [.ptr N 0],.func 113 [] [.ptr (N+1) 0,.ptr N 0]] 70 true)=H
 have kB:ab h N H (N+1+1+1):=by rw[<-hH];exact((ab.refl.new _).new _).new _
 have g0:H.get N=some (.cells [u] 22 true):=by rw[<-hH];simp
 have g1:H.get (N+1)=some (.cells [v] 23 true):=by rw[<-hH];simp
 have g2:H.get (N+1+1)=some (.cells [.func 112 [] [.ptr N 0],.func 113 [] [.ptr (N+1) 0,.ptr N 0]] 70 true):=by rw[<-hH];simp
 clear hH
 have hs:Sl H (N+1+1+1) (.slice (N+1+1) 0 2 (some 2) 1) [.func 112 [] [.ptr N 0],.func 113 [] [.ptr (N+1) 0,.ptr N 0]]:=Sl.row (by omega) g2 rfl (fun k hk=>by simp at hk;omega)
 have key:=Zd (l:=[ky m 64 16,sD l m.length 1]) hs rfl (by simp) (Ze (P:=fun f e _=>∀h' n',ab H (N+1+1+1) h' n'->jR A.C f [] h' n' (fun u _ _=>u=.int .i64 e)) (fun h' n' hk=>Yor (l:=l) ((hk.get N (by omega)).trans g0) (by have:=hk.le;omega) ((hm.ae kB).ae hk) m1 m2) (fun hz h' n' hk=>Yoq ((hk.get (N+1) (by omega)).trans g1) (by have:=hk.le;omega) ((hk.get N (by omega)).trans g0) (by have:=hk.le;omega) ((hm.ae kB).ae hk) m1 m2 ((hl.ae kB).ae hk) l1 l2))
 change Fn A.C 37 _ H _ (fun u _ _=>u=.int .i64 (C8 m l))at key
 refine aA key ?_
 rintro _ H2 n2 k2 rfl
 simp[az]
 exact kB.trans k2
set_option maxHeartbeats 4000000
def Zf{m:List (List aQ)}{w:List aQ}(h:C8 m w=0)(sm:mi 6 6 m=true)(sw:eY 6 w=true):Fb m (iS m)/\w.length=m.length/\uc w:=by
 have h1:=Bv h (ky m 64 16) (by simp)
 have h2:=Bv h (sD w m.length 1) (by simp)
 refine⟨Y7 h1 sm,?_⟩
 unfold sD at h2
 split at h2
 ·rename_i e
  exact⟨e,Yoz h2 sw⟩
 ·exact absurd h2 (by decide)
set_option maxHeartbeats 2000000
def Zg{h:T O}{N:Nat}{w:List Nat}{i o:Nat}{cp:Option Nat}{c l:List V}{e:TypeId}{rw:Bool}(h3:h.get i=some (.cells c e rw))(h4:∀j,j<l.length->c[o+j]?=l[j]?)(h5:o+l.length<=c.length):eD ⟨h,N,w⟩ 1 (.slice i o l.length cp 1)=some (l.length,l):=by
 have:aE c o (l.length*1)=some l:=by
  unfold aE
  rw[aF (by omega),yc]
  congr 1
  apply nD
  intro j
  by_cases hj:j<l.length
  ·rw[iy,aF hj,fh];exact h4 j hj
  ·rw[fC (by simp;omega),fC (by omega)]
 simp only[eD,if_true,St.row,h3,this]
variable {a:List Rat}
def A.pY:av:=.seq (sr [mv 7 6,mv 8 0,ln 9 8,bi 10 .lss 7 9]
 (cd 10
 (.skip)
 (.exit 0)))
 (.seq (.block 1 (.aX [mv 13 5,mv 14 0,mv 15 6,ia 16 1 14 15,ld 17 16,mv 18 1,mv 19 6,ia 20 1 18 19,ld 21 20,c2 22 226 17 21,ge 23 (.aV 40 1 1 [(.str [])] [(0,1,(tq 22))]),ge 24 (.append 1 16 40 [(.str [])] (tq 13) (tq 23)),mv 5 24] [0,0,0,6,14,0,0,96,224,510,1022,2047,4095]))
 (.aR [mv 11 6,bc 12 .add 11 1,mv 6 12]))
def A.b184:av:=sr [mN 4]
 (sr [mN 5]
 (.seq (sr [mc 6 0]
 (.block 0 (.loop A.pY)))
 (sr [mv 25 5,mv 4 25]
 (.ret))))
def A.c184:A.F 184=some ⟨26,[.tmp 4],A.b184⟩:=by kernel_rfl
def A.k184:=@A.kk 184 _ _ _ A.c184 rfl
def A.pZ:av:=.seq (sr [mv 7 6,mv 8 0,ln 9 8,bi 10 .lss 7 9]
 (cd 10
 (.skip)
 (.exit 0)))
 (.seq (.block 1 (.aR [mv 13 5,mv 14 0,mv 15 6,ia 16 1 14 15,ld 17 16,mv 18 1,c2 19 122 17 18,ge 20 (.aV 40 1 1 [(.str [])] [(0,1,(tq 19))]),ge 21 (.append 1 16 40 [(.str [])] (tq 13) (tq 20)),mv 5 21]))
 (.aR [mv 11 6,bc 12 .add 11 1,mv 6 12]))
def A.b182:av:=sr [mN 4]
 (sr [mN 5]
 (.seq (sr [mc 6 0]
 (.block 0 (.loop A.pZ)))
 (sr [mv 22 5,mv 4 22]
 (.ret))))
def A.c182:A.F 182=some ⟨23,[.tmp 4],A.b182⟩:=by kernel_rfl
def A.k182:=@A.kk 182 _ _ _ A.c182 rfl
def Zh{h:T O}{N:Nat}{u:V}{c:Rat}{j k:Nat}(hu:Tx h N u a)(ha:∀q∈a,Qb j q)(hc:Qb k c)(hj:j<=400000000)(hk:k<=400000000)(hl:a.length<100000):Fn A.C 182 [u,.str (a_ c)] h N (fun x h' n'=>Own 1 40 N h' n' x ((tx (a.map fun q=>q*c)).map fun y=>[y])):=by
 intro w
 have l1:=hu.len
 rw[aO,A.k182 (by simp)]
 simp[A.b182]
 refine bP [(5,21)] (fun e r st=>e=.exit 0/\ax N st.w=[]/\ab h N st.h st.n/\∃x,r.get 5=some x/\Own 1 40 N st.h st.n x ((tx (a.map fun q=>q*c)).map fun y=>[y])) (fun i r st=>ax N st.w=[]/\ab h N st.h st.n/\∃t x,t+i=a.length/\r.get 6=some (.int .i64 t)/\r.get 5=some x/\Own 1 40 N st.h st.n x ((tx ((a.take t).map fun q=>q*c)).map fun y=>[y])) (a.length) ?_ ?_ ?_
 ·exact⟨by simp,ab.refl,0,.aa,by omega,by simp,by simp,by simpa[tx,strs]using Own.nil⟩
 ·rintro i r ⟨H,n1,W⟩ hr hf ⟨hW,hK,t,x,ht,h6,h5,ho⟩
  simp only at hW hK ho
  rw[bq]
  cases i with
  |zero=>
   obtain rfl:t=a.length:=by omega
   rw[wo]at ho
   simp[A.pZ,hr,hf,h6,h5,l1,hW,hK]
   exact ho
  |succ i=>
   have ay:t<a.length:=by omega
   have bn:(t:Int)<((a.length:Nat):Int):=by omega
   obtain⟨q,hq⟩:=bp ay
   have iJ:=ha q (cm hq)
   obtain⟨i',o,cc,e,rw,q1,q2,q3,q4⟩:=(hu.ae hK).at (wu hq)
   simp[A.pZ,hr,h6,h5,l1,bn,q1,q3,q4]
   refine aA (Tg iJ hc hj hk) ?_
   rintro _ H2 n2 k2 rfl
   have kI:=k2.le
   have fi:=hK.le
   obtain⟨v',h',w',f1,f2,f3,_,f5⟩:=sE (x:=[.str (a_ (q*c))]) (u:=.slice n2 0 1 (some 1) 1) (bytes:=16) (w:=W) ((ho.ae k2).ae (ab.refl.new (.cells [.str (a_ (q*c))] 40 true))) (by omega) (by decide) rfl (by simp[eD,St.row,aE]) (by simp[oT];omega)
   have e7:((tx ((a.take t).map fun q=>q*c)).map fun y=>[y])++[[.str (a_ (q*c))]]=(tx ((a.take (t+1)).map fun q=>q*c)).map fun y=>[y]:=by rw[tE,hq];simp[tx,strs]
   rw[e7]at f5
   simp(disch:=first|(simp;done)|omega|rfl) [hf,h6,ad,f1]
   exact⟨i,by omega,by rw[f2];exact hW,((hK.trans k2).trans (ab.refl.new (.cells [.str (a_ (q*c))] 40 true))).then f3,t+1,by omega,by simp,by rw[<-List.map_take];exact f5⟩
 ·rintro _ r ⟨H,n1,W⟩ hr ⟨rfl,hW,hK,x,h5,ho⟩
  simp only at hW hK ho
  simp[h5,az,hW,hK]
  exact ho
def Yay{F:Rat->Rat->Rat}{b:List Rat}{t:Nat}{p q:Rat}(hp:a[t]?=some p)(hq:b[t]?=some q):me F a b (t+1)=me F a b t++[F p q]:=by
 simp[me,List.range_succ,hp,hq]
def Yjq{h:T O}{N:Nat}{u v:V}{b:List Rat}{j k:Nat}(hu:Tx h N u a)(hv:Tx h N v b)(h_:a.length<=b.length)(ha:∀q∈a,Qb j q)(hb:∀q∈b,Qb k q)(hj:j<=400000000)(hk:k<=400000000)(hl:a.length<100000):Fn A.C 184 [u,v] h N (fun x h' n'=>Own 1 40 N h' n' x ((tx (me (fun x y=>x+y) a b a.length)).map fun y=>[y])):=by
 intro w
 have l1:=hu.len
 have l2:=hv.len
 rw[aO,A.k184 (by simp)]
 simp[A.b184]
 refine bP [(5,24)] (fun e r st=>e=.exit 0/\ax N st.w=[]/\ab h N st.h st.n/\∃x,r.get 5=some x/\Own 1 40 N st.h st.n x ((tx (me (fun x y=>x+y) a b a.length)).map fun y=>[y])) (fun i r st=>ax N st.w=[]/\ab h N st.h st.n/\∃t x,t+i=a.length/\r.get 6=some (.int .i64 t)/\r.get 5=some x/\Own 1 40 N st.h st.n x ((tx (me (fun x y=>x+y) a b t)).map fun y=>[y])) (a.length) ?_ ?_ ?_
 ·exact⟨by simp,ab.refl,0,.aa,by omega,by simp,by simp,by simpa[tx,strs,me]using Own.nil⟩
 ·rintro i r ⟨H,n1,W⟩ hr hf ⟨hW,hK,t,x,ht,h6,h5,ho⟩
  simp only at hW hK ho
  rw[bq]
  cases i with
  |zero=>
   obtain rfl:t=a.length:=by omega
   simp[A.pY,hr,hf,h6,h5,l1,hW,hK]
   exact ho
  |succ i=>
   have ay:t<a.length:=by omega
   have bn:(t:Int)<((a.length:Nat):Int):=by omega
   obtain⟨p,hp⟩:=bp ay
   have tF:=ha p (cm hp)
   have Th:t<b.length:=by omega
   have JM:(t:Int)<(b.length:Int):=by omega
   obtain⟨q,hq⟩:=bp Th
   have iJ:=hb q (cm hq)
   obtain⟨i',o,cc,e,rw,q1,q2,q3,q4⟩:=(hu.ae hK).at (wu hp)
   obtain⟨i2,o2,Zi,e2,HN,p1,p2,p3,p4⟩:=(hv.ae hK).at (wu hq)
   simp[A.pY,hr,h6,h5,l1,bn,l2,JM,q1,q2,q3,q4,p1,p2,p3,p4]
   refine aA (Zj tF iJ hj hk) ?_
   rintro _ H2 n2 k2 rfl
   have kI:=k2.le
   have fi:=hK.le
   obtain⟨v',h',w',f1,f2,f3,_,f5⟩:=sE (x:=[.str (a_ (p+q))]) (u:=.slice n2 0 1 (some 1) 1) (bytes:=16) (w:=[]) ((ho.ae k2).ae (ab.refl.new (.cells [.str (a_ (p+q))] 40 true))) (by omega) (by decide) rfl (by simp[eD,St.row,aE]) (by simp[oT,Ff];omega)
   have e7:((tx (me (fun x y=>x+y) a b t)).map fun y=>[y])++[[.str (a_ (p+q))]]=(tx (me (fun x y=>x+y) a b (t+1))).map fun y=>[y]:=by rw[Yay hp hq];simp[tx,strs]
   rw[e7]at f5
   have ow:ax N w'=[]:=Ti f2 (by omega) rfl
   simp(disch:=first|(simp;done)|omega|rfl) [-ax,hf,h6,ad,f1]
   exact⟨i,by omega,Zk ow hW,((hK.trans k2).trans (ab.refl.new (.cells [.str (a_ (p+q))] 40 true))).then f3,t+1,by omega,by simp,f5⟩
 ·rintro _ r ⟨H,n1,W⟩ hr ⟨rfl,hW,hK,x,h5,ho⟩
  simp only at hW hK ho
  simp[h5,az,hW,hK]
  exact ho
variable {N R:Nat} {h:T O} {l:List Rat} {m:List (List Rat)} {u:V}
def yU(N0:Nat)(h:T O)(N:Nat)(u:V)(l:List Rat):Prop:=Tx h N u l/\∀i∈cR u,i<N0\/∃z w,h.get i=some (.cells z 40 w)
def yU.ae{N0:Nat}{h':T O}{N':Nat}(s:yU N0 h N u l)(k:ab h N h' N'):yU N0 h' N' u l:=⟨s.1.ae k,fun i hi=>by
 rcases s.2 i hi with h1|⟨z,w,h1⟩
 ·exact .inl h1
 ·exact .inr ⟨z,w,(k.get i (NU s.1 i hi)).trans h1⟩⟩
def sF.old{N0:Nat}(s:sF h N u l):yU N0 h N u l:=⟨s.1,fun i hi=>.inr (s.2 i hi)⟩
def Tx.old{N0:Nat}(s:Tx h N0 u l):yU N0 h N0 u l:=⟨s,fun i hi=>.inl (NU s i hi)⟩
def yU.sG{N0:Nat}{us vs:List V}{b c:Bool}(s:yU N0 h N u l)(g:h.get R=some (.cells us 23 b))(hR:N0<=R):yU N0 (h.set R (.cells vs 23 c)) N u l:=by
 have bB:∀i∈cR u,i≠R:=fun i hi hc=>by
  rcases s.2 i hi with h1|⟨z,w,hz⟩
  ·omega
  ·rw[hc,g]at hz
   simp at hz
 have k:dP (fun i=>i=R) h N (h.set R (.cells vs 23 c)) N:=⟨aW _,fun i _ hi=>by rw[T.ag,ar hi]⟩
 refine⟨Sl.bV s.1 k bB,fun i hi=>?_⟩
 rcases s.2 i hi with h1|⟨z,w,hz⟩
 ·exact .inl h1
 ·exact .inr ⟨z,w,by rw[T.ag,ar (bB i hi)];exact hz⟩
structure po (N0:Nat) (h:T O) (N R:Nat) (m:List (List Rat)):Prop where
 ge:N0<=R
 lt:R<N
 ex:∃us:List V,h.get R=some (.cells us 23 true)/\us.length=m.length/\∀(j:Nat) (l:List Rat),m[j]?=some l->∃u,us[j]?=some u/\yU N0 h N u l
def po.ae{N0:Nat}{h':T O}{N':Nat}(s:po N0 h N R m)(k:ab h N h' N'):po N0 h' N' R m:=by
 obtain⟨us,g1,g2,g5⟩:=s.ex
 refine⟨s.ge,fE s.lt k.le,us,(k.get R s.lt).trans g1,g2,fun j l hl=>?_⟩
 obtain⟨u,a1,a2⟩:=g5 j l hl
 exact⟨u,a1,a2.ae k⟩
def po.at{N0:Nat}(s:po N0 h N R m){j:Nat}{l:List Rat}(hj:m[j]?=some l):∃us u,h.get R=some (.cells us 23 true)/\us.length=m.length/\us[j]?=some u/\yU N0 h N u l:=by
 obtain⟨us,g1,g2,g5⟩:=s.ex
 obtain⟨u,a1,a2⟩:=g5 j l hj
 exact⟨us,u,g1,g2,a1,a2⟩
def po.put{N0:Nat}{i:Nat}{us:List V}(s:po N0 h N R m)(g:h.get R=some (.cells us 23 true))(hu:yU N0 h N u l)(hi:i<m.length):po N0 (h.set R (.cells (us.set i u) 23 true)) N R (m.set i l):=by
 obtain⟨vs,g1,g2,g5⟩:=s.ex
 rw[g]at g1
 simp only[al,O.cells.injEq]at g1
 obtain⟨rfl,_⟩:=g1
 refine⟨s.ge,s.lt,us.set i u,by rw[T.ag,aF rfl],by simp[g2],fun j r hr=>?_⟩
 by_cases e:j=i
 ·subst e
  rw[iI hi]at hr
  simp only[al]at hr
  subst hr
  exact⟨u,by rw[iI (by omega)],hu.sG g s.ge⟩
 ·rw[ec (Ne.symm e)]at hr ⊢
  obtain⟨u',a1,a2⟩:=g5 j r hr
  exact⟨u',a1,a2.sG g s.ge⟩
def Bw{l:List V}{i:Nat}(h:i<l.length):ad l i [u]=l.set i u:=by
 unfold ad
 rw[List.set_eq_take_append_cons_drop,aF h]
 simp
def A.jn:av:=.seq (sr [mv 75 7,mv 76 3,ln 77 76,bi 78 .lss 75 77]
 (cd 78
 (.skip)
 (.exit 4)))
 (.seq (.block 5 (sr [mv 81 7,mv 82 4,ge 83 (.bin .neq (.aM .int) false (tq 81) (tq 82))]
 (cd 83
 (.aX [mv 84 3,mv 85 7,mv 86 3,mv 87 7,ia 88 1 86 87,ld 89 88,mv 90 3,mv 91 4,ia 92 1 90 91,ld 93 92,mv 94 3,mv 95 7,ia 96 1 94 95,ld 97 96,mv 98 5,ia 99 1 97 98,ld 100 99,c1 101 185 100,c2 102 182 93 101,c2 103 184 89 102,ia 104 1 84 85,so 104 103] [0,0,0,0,12,28,0,0,192,448,0,0,3072,7168,0,31744,64512,130048,262080,524284,1048575,2097151])
 (.skip))))
 (.aR [mv 79 7,bc 80 .add 79 1,mv 7 80]))
def A.jo:av:=.seq (sr [mv 25 6,mv 26 3,ln 27 26,bi 28 .lss 25 27,mv 29 28,mg 30 3 29,mg 31 6 29,gy 32 29 (.aU 1 (tq 30) (tq 31)),gy 33 29 (.load none (tq 32)),mg 34 5 29,gy 35 29 (.aU 1 (tq 33) (tq 34)),gy 36 29 (.load none (tq 35)),gy 37 29 (.call (fq 181) [tq 36]),pf 38 29 37]
 (cd 38
 (.skip)
 (.exit 2)))
 (.block 3 (.aR [mv 39 6,bc 40 .add 39 1,mv 6 40]))
def A.mj:av:=.seq (sr [mv 11 3,ln 12 11,bc 13 .gtr 12 0,mv 14 13,mg 15 5 14,mg 16 3 14,gy 17 14 (.aU 1 (tq 16) (kq 0)),gy 18 14 (.load none (tq 17)),gy 19 14 (.len 1 (tq 18)),gy 20 14 (.bin .lss (.node []) false (tq 15) (tq 19)),pf 21 14 20]
 (cd 21
 (.skip)
 (.exit 0)))
 (.seq (.block 1 (sr [mv 24 4,mv 6 24]
 (.seq (.block 2 (.loop A.jo))
 (.seq (sr [mv 41 6,mv 42 3,ln 43 42,ge 44 (.bin .eql (.aM .int) false (tq 41) (tq 43))]
 (cd 44
 (.exit 1)
 (.skip)))
 (.seq (.aX [mv 45 3,mv 46 4,mv 47 3,mv 48 6,mv 49 3,mv 50 6,ia 51 1 49 50,ld 52 51,mv 53 3,mv 54 4,ia 55 1 53 54,ld 56 55,ia 57 1 45 46,so 57 52,ia 58 1 47 48,so 58 56] [0,0,0,0,0,0,48,112,0,0,768,1792,4083,8179,16383,32767])
 (.seq (.aX [mv 59 3,mv 60 4,mv 61 3,mv 62 4,ia 63 1 61 62,ld 64 63,mv 65 3,mv 66 4,ia 67 1 65 66,ld 68 67,mv 69 5,ia 70 1 68 69,ld 71 70,c1 72 183 71,c2 73 182 64 72,ia 74 1 59 60,so 74 73] [0,0,0,0,12,28,0,0,192,448,0,1984,4032,8128,16380,32767,65535])
 (.seq (sr [mc 7 0]
 (.block 4 (.loop A.jn)))
 (.aR [mv 105 4,bc 106 .add 105 1,mv 4 106]))))))))
 (.aR [mv 22 5,bc 23 .add 22 1,mv 5 23]))
def A.b124:av:=sr [mN 2]
 (sr [ge 8 (.aV 23 1 0 [] []),mv 9 0,ge 10 (.append 1 24 23 [.aa] (tq 8) (tq 9)),mv 3 10]
 (sr [mc 4 0]
 (.seq (sr [mc 5 0]
 (.block 0 (.loop A.mj)))
 (sr [mv 107 3,mv 108 4,ge 109 (.cQ 1 (tq 107) none (some (tq 108)) none),mv 2 109]
 (.ret)))))
def A.c124:A.F 124=some ⟨110,[.tmp 2],A.b124⟩:=by kernel_rfl
def A.k124:=@A.kk 124 _ _ _ A.c124 rfl
def Yml{m:List (List Rat)}{k p n:Nat}(hn:0<n):nE m k p n=if (m[p]?.getD [])[k]?.getD 0≠0 then p else nE m k (p+1) (n-1):=by
 obtain⟨n,rfl⟩:∃n',n=n'+1:=⟨n-1,by omega⟩
 rfl
def Yg1{W0:List Nat}{N0:Nat}{H:T O}{n R:Nat}{r0:T V}{m:List (List Rat)}{d k c:Nat}(s:po N0 H n R m)(hc:cD m c)(hk:k<c)(hd:d<=m.length)(jQ:m.length<1000)(a3:r0.get 3=some (.slice R 0 m.length none 1))(a5:r0.get 5=some (.int .i64 k))(a6:r0.get 6=some (.int .i64 d)):
  Code A.C none (.loop A.jo) ⟨r0,110,[]⟩ ⟨H,n,W0⟩ (fun e fr st=>e=.exit 2/\st=⟨H,n,W0⟩/\∃r,Fx [(6,6),(25,40)] r0 110 ⟨r,110,[]⟩/\fr=⟨r,110,[]⟩/\r.get 6=some (.int .i64 (eG m d k))):=by
 rw[bq]
 refine bP [(6,6),(25,40)] (fun e r st=>e=.exit 2/\st=⟨H,n,W0⟩/\r.get 6=some (.int .i64 (eG m d k))) (fun i r st=>st=⟨H,n,W0⟩/\∃p,p<=m.length/\i=m.length-p/\r.get 6=some (.int .i64 p)/\eG m d k=nE m k p (m.length-p)) (m.length-d) ?_ ?_ ?_
 ·exact⟨rfl,d,hd,rfl,a6,rfl⟩
 ·rintro i r _ hr hf ⟨rfl,p,hp,rfl,h6,hz⟩
  rw[bq]
  by_cases ay:p<m.length
  ·have bn:(p:Int)<(m.length:Int):=by omega
   obtain⟨row,ak⟩:=bp ay
   obtain⟨us,u,g1,g2,g3,g4⟩:=s.at ak
   have wx:=hc row (cm ak)
   obtain⟨q,hq⟩:=bp (l:=row) (k:=k) (by omega)
   obtain⟨i1,o1,c1,e1,w1,q1,q2,q3,q4⟩:=g4.1.at (wu hq)
   have ue:=g4.1.len
   have bR:(k:Int)<(row.length:Int):=by omega
   have hk2:k<row.length:=by omega
   have Fg:=fun st=>Zl (q:=q) (st:=st)
   have hR:=s.lt
   rw[Yml (by omega),ak]at hz
   simp only[rM,hq]at hz
   by_cases c0:q=0
   ·rw[ar (by simpa using c0)]at hz
    have JN:=Fg
    simp only[decide_eq_true c0]at JN
    simp(disch:=first|(simp;done)|omega|rfl) [-getElem?_pos,A.jo,hr,hf,a3,a5,h6,bn,g1,g3,q1,q3,q4,JN,ue]
    refine⟨m.length-(p+1),by omega,p+1,by omega,rfl,by simp,?_⟩
    rw[hz,show m.length-p-1=m.length-(p+1) by omega]
   ·rw[aF c0]at hz
    have JN:=Fg
    simp only[decide_eq_false c0]at JN
    simp[A.jo,hr,hf,a3,a5,h6,bn,g1,g3,q1,q3,q4,bR,JN,ue,hz]
  ·obtain rfl:p=m.length:=by omega
   rw[Nat.sub_self,nE]at hz
   simp[A.jo,hr,hf,a3,h6,hz]
 ·rintro _ r _ hr ⟨rfl,rfl,h6⟩
  simp[]
  exact⟨r,⟨hr,rfl,rfl⟩,rfl,h6⟩
def A.b9:av:=sr [mc 2 0]
 (sr [mv 3 0,ge 4 (.call (fq 46) [tq 3,.const (.int .i64 64),.const (.int .i64 16)]),mv 2 4]
 (.ret))
def A.c9:A.F 9=some ⟨5,[.tmp 2],A.b9⟩:=by kernel_rfl
def A.k9:=@A.kk 9 _ _ _ A.c9 rfl
def Yg4{h:T O}{N:Nat}{v:V}{l:List (List aQ)}(hs:eP h N v l)(hl:l.length<100000)(hx:∀x∈l,x.length<100000/\∀s∈x,s.length<=100000):Fn A.C 9 [v] h N (fun u _ _=>u=.int .i64 (ky l 64 16)):=by
 intro w
 rw[aO,A.k9 (by simp)]
 simp[A.b9]
 refine aA (Yow (a:=64) (b:=16) hs hl hx) ?_
 rintro _ H2 n2 k2 rfl
 simp[az]
 exact k2
variable {N:Nat} {h:T O} {m:List (List Rat)} {v:V}
def wy(N0:Nat)(h:T O)(N:Nat)(v:V)(m:List (List Rat)):Prop:=∃us:List V,Own 1 23 N0 h N v (us.map fun y=>[y])/\us.length=m.length/\∀(j:Nat) (l:List Rat),m[j]?=some l->∃u,us[j]?=some u/\Tx h N0 u l
def wy.nil{N0:Nat}:wy N0 h N .aa []:=⟨[],Own.nil,rfl,fun j l hl=>by simp at hl⟩
def wy.ae{N0:Nat}{h':T O}{N':Nat}(s:wy N0 h N v m)(k:ab h N h' N')(hN:N0<=N):wy N0 h' N' v m:=by
 obtain⟨us,h1,h3,h4⟩:=s
 refine⟨us,h1.ae k,h3,fun j l hl=>?_⟩
 obtain⟨u,g1,g2⟩:=h4 j l hl
 exact⟨u,g1,g2.ae ⟨aW _,fun i hi=>k.get i (by omega)⟩⟩
def wy.uf{N0:Nat}(s:wy N0 h N v m)(hN:N0<=N):gh h N v m:=by
 obtain⟨us,h1,h3,h4⟩:=s
 refine⟨us,Sn.one.1 h1.sn,h3,fun j l hl=>?_⟩
 obtain⟨u,g1,g2⟩:=h4 j l hl
 exact⟨u,g1,g2.ae ⟨hN,fun _ _=>rfl⟩⟩
def wy.push{N0:Nat}{u x:V}{l:List Rat}{w:List Nat}(s:wy N0 h N v m)(hu:Tx h N0 u l)(hN:N0<=N)(hx:eD ⟨h,N,w⟩ 1 x=some (1,[u]))(hm:m.length<100000):
  ∃v' h' w',gj ⟨h,N,w⟩ 1 24 23 v x=some (v',⟨h',N+1,w'⟩)/\ax N0 w'=ax N0 w/\ab h N0 h' (N+1)/\wy N0 h' (N+1) v' (m++[l]):=by
 obtain⟨us,h1,h3,h4⟩:=s
 obtain⟨v',h',w',f1,f2,f3,_,f5⟩:=sE (x:=[u]) (u:=x) (bytes:=24) (w:=w) h1 hN (by decide) rfl hx (by rw[jP];omega)
 have kk:ab h N0 h' N0:=⟨aW _,f3.get⟩
 refine⟨v',h',w',f1,f2,f3,us++[u],by simpa using f5,by simp[h3],fun j r hr=>?_⟩
 by_cases hj:j<m.length
 ·rw[lE hj]at hr
  obtain⟨u',g1,g2⟩:=h4 j r hr
  exact⟨u',by rw[lE (by omega)];exact g1,g2.ae kk⟩
 ·rw[oV (by omega)]at hr
  cases hd:j-m.length with
  |zero=>
   rw[hd]at hr
   simp at hr
   subst hr
   exact⟨u,by rw[oV (by omega),h3,hd];rfl,hu.ae kk⟩
  |succ d=>rw[hd]at hr;simp at hr
variable {N:Nat} {h:T O} {m:List (List Rat)} {u v:V} {w:List Nat}
def A.ui:av:=.seq (sr [mv 11 5,mv 12 0,ln 13 12,bi 14 .lss 11 13]
 (cd 14
 (.skip)
 (.exit 0)))
 (.seq (.block 1 (.seq (.aX [mv 17 0,mv 18 5,ia 19 1 17 18,ld 20 19,mv 21 1,mv 22 5,ia 23 1 21 22,ld 24 23,c2 25 25 20 24,ge 26 (.un .not (tq 25))] [0,0,3,7,0,0,48,112,255,511])
 (cd 26
 (sr [ge 4 (.ba (.const (.bool false)))]
 (.ret))
 (.skip))))
 (.aR [mv 15 5,bc 16 .add 15 1,mv 5 16]))
def A.b24:av:=sr [ge 4 (.ba (.const (.bool false)))]
 (.seq (sr [mv 6 0,ln 7 6,mv 8 1,ln 9 8,ge 10 (.bin .neq (.aM .int) false (tq 7) (tq 9))]
 (cd 10
 (sr [ge 4 (.ba (.const (.bool false)))]
 (.ret))
 (.skip)))
 (.seq (sr [mc 5 0]
 (.block 0 (.loop A.ui)))
 (sr [ge 4 (.ba (.const (.bool true)))]
 (.ret))))
def A.c24:A.F 24=some ⟨27,[.tmp 4],A.b24⟩:=by kernel_rfl
def A.k24:=@A.kk 24 _ _ _ A.c24 rfl
def A.p9:av:=.seq (sr [mv 5 3,mv 6 0,ln 7 6,bi 8 .lss 5 7]
 (cd 8
 (.skip)
 (.exit 0)))
 (.seq (.block 1 (sr [mv 11 0,mv 12 3,ia 13 1 11 12,ld 14 13,c1 15 126 14,mv 4 15]
 (sr [mv 16 4,ni 17 16 0]
 (cd 17
 (sr [mv 18 4,mv 2 18]
 (.ret))
 (.skip)))))
 (.aR [mv 9 3,bc 10 .add 9 1,mv 3 10]))
def A.b54:av:=sr [mc 2 0]
 (.seq (sr [mc 3 0]
 (.block 0 (.loop A.p9)))
 (sr [mc 2 0]
 (.ret)))
def A.c54:A.F 54=some ⟨19,[.tmp 2],A.b54⟩:=by kernel_rfl
def A.k54:=@A.kk 54 _ _ _ A.c54 rfl
def A.b15:av:=sr [ge 8 (.ba (.const (.bool false)))]
 (.seq (sr [mv 9 3,ei 10 9 0]
 (cd 10
 (.aR [mv 11 2,c1 12 54 11,mv 3 12])
 (.skip)))
 (sr [mv 13 1,mv 14 3,ge 15 (.bin .eql (.aM .int) false (tq 13) (tq 14)),mv 16 15,mg 17 3 16,gy 18 16 (.bin .eql (.aM .int) true (tq 17) (kq 0)),mg 19 18 16,mg 20 0 19,mg 21 2 19,gy 22 19 (.call (fq 24) [tq 20,tq 21]),gy 23 16 (.pick (tq 19) (tq 22) (.const (.bool false))),mg 24 23 16,mh 25 3 24,gz 26 24 (.bin .neq (.aM .int) true (tq 25) (kq 0)),mh 27 26 24,mg 28 0 27,gy 29 27 (.len 1 (tq 28)),gy 30 27 (.bin .eql (.aM .int) true (tq 29) (kq 0)),gz 31 24 (.pick (tq 27) (tq 30) (.const (.bool false))),gy 32 16 (.pick (tq 24) (.const (.bool true)) (tq 31)),pf 33 16 32,mv 8 33]
 (.ret)))
def A.c15:A.F 15=some ⟨34,[.tmp 8],A.b15⟩:=by kernel_rfl
def A.k15:=@A.kk 15 _ _ _ A.c15 rfl
def Yl5(hu:gh h N u m)(hv:gh h N v m)(hl:m.length<100000)(hr:∀r∈m,r.length<100000):A.C.call (.func 24 [] []) [u,v] ⟨h,N,w⟩=some (.bool true,⟨h,N,w⟩):=by
 apply Call.eq
 have l1:=hu.len
 have l2:=hv.len
 rw[aO,A.k24 (by simp)]
 simp[A.b24,l1,l2]
 refine bP [(4,5),(11,26)] (fun e r st=>st=⟨h,N,[]⟩/\e=.exit 0) (fun i r st=>st=⟨h,N,[]⟩/\∃k,k+i=m.length/\r.get 5=some (.int .i64 k)) m.length ?_ ?_ ?_
 ·exact⟨rfl,0,by omega,by simp⟩
 ·rintro i r _ eC hf ⟨rfl,k,hk,h5⟩
  rw[bq]
  cases i with
  |zero=>
   obtain rfl:k=m.length:=by omega
   simp[A.ui,eC,hf,h5,l1]
  |succ i=>
   have ay:k<m.length:=by omega
   have bn:(k:Int)<(m.length:Int):=by omega
   obtain⟨row,ak⟩:=bp ay
   obtain⟨i1,o,cc,e,rw,ru,q1,q2,q3,q4,q5⟩:=hu.at ak
   obtain⟨i2,o2,c2,e2,HN,rv,p1,p2,p3,p4,p5⟩:=hv.at ak
   have hs:=fun w=>Ylx (w:=w) (l:=row.map a_) q5 p5 (by simpa using hr row (cm ak))
   simp(disch:=first|(simp;done)|omega|rfl) [A.ui,eC,hf,h5,l1,l2,bn,q1,q2,q3,q4,p1,p2,p3,p4,hs]
   exact⟨i,by omega,k+1,by omega,by simp⟩
 ·rintro _ r _ eC ⟨rfl,rfl⟩
  simp
def lF(m:List (List Rat)):Bool:=m.any oW
def Zm(hu:gh h N u m)(hl:m.length<100000)(hr:∀r∈m,r.length<100000/\∀q∈r,(a_ q).length<1000000000):A.C.call (.func 54 [] []) [u] ⟨h,N,w⟩=some (.int .i64 (if lF m=true then 4 else 0),⟨h,N,w⟩):=by
 apply Call.eq
 have l1:=hu.len
 rw[aO,A.k54 (by simp)]
 simp[A.b54]
 refine bP [(2,18)] (fun e r st=>st=⟨h,N,[]⟩/\((e=.exit 0/\lF m=false)\/(e=.ret/\lF m=true/\r.get 2=some (.int .i64 4)))) (fun i r st=>st=⟨h,N,[]⟩/\∃k,k+i=m.length/\r.get 3=some (.int .i64 k)/\lF m=lF (m.drop k)) m.length ?_ ?_ ?_
 ·exact⟨rfl,0,by omega,by simp,by simp⟩
 ·rintro i r _ eC hf ⟨rfl,k,hk,h3,hz⟩
  rw[bq]
  cases i with
  |zero=>
   obtain rfl:k=m.length:=by omega
   rw[mm]at hz
   have uj:lF m=false:=by rw[hz];rfl
   simp[A.p9,eC,hf,h3,l1,uj]
  |succ i=>
   have ay:k<m.length:=by omega
   have bn:(k:Int)<(m.length:Int):=by omega
   obtain⟨row,ak⟩:=bp ay
   obtain⟨i1,o,cc,e,rw,ru,q1,q2,q3,q4,q5⟩:=hu.at ak
   obtain⟨a1,a2⟩:=hr row (cm ak)
   have hs:=fun w=>Ynl (w:=w) q5 a1 a2
   rw[jq ak]at hz
   cases hb:oW row with
   |true=>
    have uj:lF m=true:=by rw[hz];simp[lF,hb]
    rw[hb]at hs
    simp only[if_true]at hs
    simp[A.p9,eC,hf,h3,l1,bn,q1,q3,q4,hs,uj]
   |false=>
    have uj:lF m=lF (m.drop (k+1)):=by rw[hz];simp[lF,hb]
    rw[hb]at hs
    simp only[fF,if_false]at hs
    simp(disch:=first|(simp;done)|omega|rfl) [A.p9,eC,hf,h3,l1,bn,q1,q3,q4,hs]
    exact⟨i,by omega,k+1,by omega,by simp,uj⟩
 ·rintro e r _ eC ⟨rfl,⟨rfl,hz⟩|⟨rfl,hz,h2⟩⟩
  ·simp[hz]
  ·simp[hz,h2]
def Bx(e:Int)(m:List (List Rat))(v:V)(c:Int)(h:T O)(n:Nat):Prop:=(e≠0/\v=.aa/\c=e)\/(e=0/\((lF m=true/\v=.aa/\c=4)\/(lF m=false/\c=0/\gh h n v m)))
def Bx.ae{h':T O}{n n':Nat}{e c:Int}(s:Bx e m v c h n)(k:ab h n h' n'):Bx e m v c h' n':=by
 rcases s with s|⟨a,s|⟨b,c,s⟩⟩
 ·exact .inl s
 ·exact .inr ⟨a,.inl s⟩
 ·exact .inr ⟨a,.inr ⟨b,c,s.ae k⟩⟩
def TPN(e:Int)(q:Rat)(s:List UInt8)(c:Int):Prop:=(e≠0/\s=[]/\c=e)\/(e=0/\((Az q=true/\s=[]/\c=4)\/(Az q=false/\c=0/\s=a_ q)))
def NV{e c:Int}(hv:Bx e m v c h N)(hu:e=0->gh h N u m)(hl:m.length<100000)(hr:e=0->∀r∈m,r.length<100000/\∀q∈r,(a_ q).length<1000000000):A.C.call (.func 15 [] []) [v,.int .i64 c,u,.int .i64 e] ⟨h,N,w⟩=some (.bool true,⟨h,N,w⟩):=by
 apply Call.eq
 rw[aO,A.k15 (by simp)]
 rcases hv with⟨a,rfl,rfl⟩|⟨rfl,⟨b,rfl,rfl⟩|⟨b,rfl,t⟩⟩
 ·simp[A.b15,a]
 ·have hr:=fun w=>Zm (w:=w) (hu rfl) hl (hr rfl)
  rw[b]at hr
  simp only[if_true]at hr
  simp[A.b15,hr]
 ·have hs:=fun w=>Yl5 (w:=w) t (hu rfl) hl (fun r hx=>(hr rfl r hx).1)
  have hr:=fun w=>Zm (w:=w) (hu rfl) hl (hr rfl)
  rw[b]at hr
  simp only[fF,if_false]at hr
  simp[A.b15,hr,hs]
def A.p_:av:=sr [bi 8 .lss 7 6]
 (.seq (cd 8
 (.skip)
 (.exit 0))
 (.seq (.block 1 (sr [ia 9 1 5 7,ld 10 9,mv 4 10]
 (sr [mv 11 4,ni 12 11 0]
 (cd 12
 (sr [mv 13 4,mv 2 13]
 (.ret))
 (.skip)))))
 (.aR [bc 14 .add 7 1,mv 7 14])))
def A.b10:av:=sr [mc 2 0]
 (.seq (sr [mv 5 0,ln 6 5,mc 7 0]
 (.block 0 (.loop A.p_)))
 (sr [mc 2 0]
 (.ret)))
def A.c10:A.F 10=some ⟨15,[.tmp 2],A.b10⟩:=by kernel_rfl
def A.k10:=@A.kk 10 _ _ _ A.c10 rfl
def Ydo{h:T O}{N:Nat}{v:V}{l:List Int}{w:List Nat}(hs:Sl h N v (dI l))(hl:l.length<1000):A.C.call (.func 10 [] []) [v] ⟨h,N,w⟩=some (.int .i64 (bK l),⟨h,N,w⟩):=by
 apply Call.eq
 have hlen:=hs.len
 rw[gk]at hlen
 rw[aO,A.k10 (by simp)]
 simp[A.b10,hlen]
 refine bP [(2,2),(4,4),(7,14)] (fun e r st=>st=⟨h,N,[]⟩/\((e=.exit 0/\bK l=0)\/(e=.ret/\r.get 2=some (.int .i64 (bK l))))) (fun m r st=>st=⟨h,N,[]⟩/\∃k,m=l.length-k/\k<=l.length/\r.get 7=some (.int .i64 k)/\bK l=bK (l.drop k)) l.length ?_ ?_ ?_
 ·exact⟨rfl,0,by omega,by omega,by simp,by simp⟩
 ·rintro m r _ hr hf ⟨rfl,k,rfl,hk,h7,hz⟩
  rw[bq]
  by_cases ay:k<l.length
  ·obtain⟨c,hc⟩:=bp ay
   obtain⟨i,o,cc,e,rw,q1,q2,q3,q4⟩:=hs.at (gl hc)
   rw[jq hc,bK]at hz
   have bR:(k:Int)<(l.length:Int):=by omega
   by_cases h0:c=0
   ·rw[aF h0]at hz
    simp(disch:=first|(simp;done)|omega|rfl) [A.p_,hr,hf,h7,bR,hlen,q1,q3,q4,h0]
    exact⟨_,by omega,k+1,rfl,by omega,by simp,hz⟩
   ·rw[ar h0]at hz
    simp[A.p_,hr,hf,h7,bR,hlen,q1,q3,q4,h0,hz]
  ·have:l.drop k=[]:=yd (by omega)
   rw[this,bK]at hz
   have:k=l.length:=by omega
   subst this
   simp[A.p_,hr,hf,h7,hz]
 ·rintro _ r _ hr ⟨rfl,⟨rfl,hz⟩|⟨rfl,h2⟩⟩
  ·simp[hz]
  ·simp[h2]
def Ynq{h:T O}{N i:Nat}{w:List Nat}{a0 a1:Int}(hi:i<N):A.C.call (.func 10 [] []) [.slice i 0 2 (some 2) 1] ⟨h.set i (.cells [.int .i64 a0,.int .i64 a1] 3 true),N,w⟩=some (.int .i64 (bK [a0,a1]),⟨h.set i (.cells [.int .i64 a0,.int .i64 a1] 3 true),N,w⟩):=
 Ydo (l:=[a0,a1]) (Sl.row (e:=3) (rw:=true) (cp:=some 2) hi (by simp[dI]) rfl (by simp)) (by simp)
def JO{h:T O}{N:Nat}{w:List Nat}(hP:kJ h N):A.C.call (.func 7 [] []) [] ⟨h,N,w⟩=some (.bool true,⟨h,N,w⟩):=by
 exact A.known hP.2
structure Wt (e:Int) (l:List Rat) (v:V) (c:Int) (u:V) (h:T O) (n:Nat):Prop where
 p:kJ h n
 tp:TP e l v c h n
 tx:e=0->Tx h n u l
 len:l.length<100000
 Fh:e=0->∀q∈l,(a_ q).length<1000000000
structure WtN (e:Int) (q:Rat) (s:aQ) (c:Int) (t:aQ):Prop where
 tp:TPN e q s c
 tx:e=0->t=a_ q
 Fh:e=0->(a_ q).length<1000000000
structure WtM (e:Int) (m:List (List Rat)) (v:V) (c:Int) (u:V) (h:T O) (n:Nat):Prop where
 tp:Bx e m v c h n
 tx:e=0->gh h n u m
 len:m.length<100000
 Fh:e=0->∀r∈m,r.length<100000/\∀q∈r,(a_ q).length<1000000000
def Zn{N n:Nat}{w:List Nat}(h:ax n w=[])(hN:N<=n):ax N w=[]:=xy fun i hi=>by
 have:=ye h i hi
 omega
def Zo{q:Rat}{k:Nat}(h:Qb k q)(hk:k<=400000000):(a_ q).length<1000000000:=by
 have h1:=Fi h.1
 have h2:=C9 h.2
 unfold a_
 split<;>simp<;>omega
variable {h:T O}
def Sl.fG{N:Nat}{v:V}{l:List V}(s:Sl h N v l):v.cells=[v]:=by
 rcases s with⟨_,rfl|rfl⟩|⟨j,o,cp,c,e,rw,rfl,hj,_⟩<;>rfl
def Sl.qc{N:Nat}{v:V}{l:List V}(s:Sl h N v l):v.one=true:=by
 rcases s with⟨_,rfl|rfl⟩|⟨j,o,cp,c,e,rw,rfl,hj,_⟩<;>rfl
def Ylr{r p:List Rat}{k:Nat}:me (fun x y=>x+y) r (p.map fun q=>q* -(r[k]?.getD 0)) r.length=oS r p k:=by
 unfold oS me
 apply AA
 intro i _
 rw[gG]
 cases hb:p[i]? with
 |none=>simp only[Option.map_none,Option.getD_none];rw[Rat.sub_eq_add_neg,Rat.mul_zero,Rat.neg_zero]
 |some q=>simp only[xz,rM];rw[Rat.sub_eq_add_neg,Rat.mul_neg,Rat.mul_comm]
def Yg3{W0:List Nat}{N0:Nat}{H:T O}{n R:Nat}{r0:T V}{m:List (List Rat)}{d k c K:Nat}(s:po N0 H n R m)(hc:cD m c)(hk:k<c)(hd:d<m.length)(jQ:m.length<1000)(cO:c<1000)(hK:∀i,i≠d->∀q∈m[i]?.getD [],Qb K q)(hP:∀q∈m[d]?.getD [],Qb (2*K) q)(hKl:3*K<=400000000)(kH:ab h N0 H n)(yf:ax N0 W0=[])(a3:r0.get 3=some (.slice R 0 m.length none 1))(a4:r0.get 4=some (.int .i64 d))(a5:r0.get 5=some (.int .i64 k))(a7:r0.get 7=some (.int .i64 0)):
  Code A.C none (.loop A.jn) ⟨r0,110,[]⟩ ⟨H,n,W0⟩ (fun e fr st=>e=.exit 4/\ax N0 st.w=[]/\ab h N0 st.h st.n/\po N0 st.h st.n R (gg m d k m.length)/\∃r,Fx [(7,7),(75,104)] r0 110 ⟨r,110,[]⟩/\fr=⟨r,110,[]⟩):=by
 rw[bq]
 refine bP [(7,7),(75,104)] (fun e r st=>e=.exit 4/\ax N0 st.w=[]/\ab h N0 st.h st.n/\po N0 st.h st.n R (gg m d k m.length)) (fun i r st=>ax N0 st.w=[]/\ab h N0 st.h st.n/\∃t,t<=m.length/\i=m.length-t/\r.get 7=some (.int .i64 t)/\po N0 st.h st.n R (gg m d k t)) (m.length) ?_ ?_ ?_
 ·exact⟨yf,kH,0,by omega,by omega,a7,by rw[Zp];exact s⟩
 ·rintro i r ⟨H1,n1,W⟩ hr hf ⟨hW,k1,t,ht,rfl,h7,s1⟩
  simp only at hW k1 s1
  rw[bq]
  by_cases ay:t<m.length
  ·have bn:(t:Int)<(m.length:Int):=by omega
   by_cases e:t=d
   ·subst e
    rw[<-Zq]at s1
    simp(disch:=first|(simp;done)|omega|rfl) [A.jn,hr,hf,a3,a4,h7,bn,k1,hW]
    exact⟨m.length-(t+1),by omega,t+1,by omega,rfl,by simp,s1⟩
   ·have e':¬(t:Int)=(d:Int):=by omega
    have By:(d:Int)<(m.length:Int):=by omega
    obtain⟨row,ak⟩:=bp ay
    obtain⟨lG,iK⟩:=bp hd
    have wx:=hc row (cm ak)
    have kK:=hc lG (cm iK)
    have w1:(gg m d k t)[t]?=some row:=by rw[Da ay,ar (by omega),ak];rfl
    have w2:(gg m d k t)[d]?=some lG:=by rw[Zr hd];exact iK
    obtain⟨us,u,g1,g2,g3,g4⟩:=s1.at w1
    obtain⟨us',v,Bz,_,Fj,HO⟩:=s1.at w2
    rw[g1]at Bz
    simp only[al,O.cells.injEq,and_true]at Bz
    subst Bz
    obtain⟨q,hq⟩:=bp (l:=row) (k:=k) (by omega)
    have xA:∀q∈row,Qb K q:=by have:=hK t e;rw[ak]at this;exact this
    have tF:∀q∈lG,Qb (2*K) q:=by have:=hP;rw[iK]at this;exact this
    have iJ:=xA q (cm hq)
    have Zs:Qb K (-q):=⟨by rw[Rat.neg_num,yS];exact iJ.1,by rw[Rat.neg_den];exact iJ.2⟩
    obtain⟨i1,o1,c1,e1,x1,q1,q2,q3,q4⟩:=g4.1.at (wu hq)
    have ue:=g4.1.len
    have bR:(k:Int)<(row.length:Int):=by omega
    have hk2:k<row.length:=by omega
    have hR:=s1.lt
    have bB:=fun st=>Ymz (q:=q) (st:=st) (Zo iJ (by omega))
    simp[A.jn,hr,a3,a4,a5,h7,bn,e',By,g1,g3,Fj,hR,q1,q2,q3,q4,bR,ue,bB]
    refine aA (Zh HO.1 tF Zs (by omega) (by omega) (by omega)) ?_
    rintro v2 H2 n2 k2 o2
    have t2:=Fk o2
    have kI:=k2.le
    have s2:=s1.ae k2
    have rN:=(k2.get R hR).trans g1
    simp
    refine aA (Yjq (g4.1.ae k2) t2.1 (by simp;omega) xA (k:=2*K+K) (fun q' uk=>by
     obtain⟨y,hy,rfl⟩:=eM.1 uk
     exact(tF y hy).mul Zs) (by omega) (by omega) (by omega)) ?_
    rintro v3 H3 n3 k3 o3
    have t3:=(Fk o3).old (N0:=N0)
    have yV:=k3.le
    have s3:=s2.ae k3
    have JP:=(k3.get R (by omega)).trans rN
    have AB:t<us.length:=by rw[g2,Ax];exact ay
    have uo:t+1<=us.length:=AB
    have lR1:R<n2:=by omega
    have BA:R<n3:=by omega
    have iT:(t:Int)<(us.length:Int):=by omega
    have iU:∀u,ad us t [u]=us.set t u:=fun u=>Bw AB
    have oz:v3.cells=[v3]:=Sl.fG t3.1
    have Tj:v3.one=true:=Sl.qc t3.1
    simp(disch:=first|(simp;done)|omega|rfl) [-V.cells, -V.one,bO,oz,Tj,iU,uo,JP,BA,hf,h7]
    have hz:me (fun x y=>x+y) row (lG.map fun y=>y* -q) row.length=oS row lG k:=by
     have:=Ylr (r:=row) (p:=lG) (k:=k)
     rw[hq]at this
     exact this
    have sp:=s3.put JP t3 (i:=t) (by rw[Ax];exact ay)
    rw[hz]at sp
    refine⟨m.length-(t+1),by omega,by rw[ar (sH.2 s1.ge)];exact hW,((k1.trans k2).trans k3).set s1.ge,t+1,by omega,rfl,by simp,?_⟩
    rw[Tk ay e,ak,iK]
    exact sp
  ·obtain rfl:t=m.length:=by omega
   simp[A.jn,hr,hf,a3,h7,k1,hW]
   exact s1
 ·rintro _ r st hr ⟨rfl,hw,k1,s1⟩
  simp[]
  exact⟨hw,k1,s1,hr,rfl,rfl⟩
end Go.Mx
