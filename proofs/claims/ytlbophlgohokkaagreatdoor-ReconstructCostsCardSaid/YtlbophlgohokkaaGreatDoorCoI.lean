/-
  lensletref05: Dropped.
-/
import Derived.Test.YtlbophlgohokkaaGreatDoorCoE
import Derived.Test.YtlbophlgohokkaaGreatDoorVbE
set_option linter.all false
namespace Go.Mx
open Go Go.Proofs
variable {N:Nat} {h:T O} {l:List Int} {m:List (List Rat)} {v:V}
set_option maxHeartbeats 1000000
set_option maxRecDepth 1000000
structure DrI (l:List Int) (k a:Nat):Prop where
 lo:∀z∈l.take a,z<(k:Int)
 hi:∀z∈l.drop a,(k:Int)≤z
theorem DrI.hit{k a:Nat}(h:DrI l k a)(p:l.Pairwise (·<·))(e:l[a]?=some (k:Int)):l.contains (k:Int)=true∧DrI l (k+1) (a+1):=by
 have hm:=Yrv e
 refine⟨by simpa using hm,fun z hz=>?_,fun z hz=>?_⟩
 ·rw[Yt1,e]at hz
  rcases Ys1.1 hz with hz|hz
  ·have:=h.lo z hz;omega
  ·simp at hz;omega
 ·have hp:(l.drop a).Pairwise (·<·):=p.sublist (List.drop_sublist a l)
  rw[Zao e]at hp
  have:=(List.pairwise_cons.1 hp).1 z hz
  omega
theorem DrI.miss{k a:Nat}(h:DrI l k a)(p:l.Pairwise (·<·))(e:l[a]?≠some (k:Int)):l.contains (k:Int)=false∧DrI l (k+1) a:=by
 have hn:(k:Int)∉l:=fun hm=>by
  rw[←Yth a l]at hm
  rcases Ys1.1 hm with hm|hm
  ·have:=h.lo _ hm;omega
  ·have hp:(l.drop a).Pairwise (·<·):=p.sublist (List.drop_sublist a l)
   by_cases ha:a<l.length
   ·obtain⟨z,hz⟩:=Zag ha
    rw[Zao hz]at hm hp
    have h1:=h.hi z (by rw[Zao hz];exact Ysj)
    rcases Yss.1 hm with hm|hm
    ·exact e (by rw[hz,hm])
    ·have:=(List.pairwise_cons.1 hp).1 _ hm
     omega
   ·rw[Ysn (by omega)]at hm;simp at hm
 refine⟨by simpa using hn,fun z hz=>?_,fun z hz=>?_⟩
 ·have:=h.lo z hz;omega
 ·have h1:=h.hi z hz
  have h2:z≠(k:Int):=fun hc=>hn (hc▸Yuv hz)
  omega
theorem Yk4{d:Nat}(h:Zr4 l d=0):l.Pairwise (·<·):=by
 have adj:∀k,k+1<l.length→l[k]?.getD 0<l[k+1]?.getD 0:=fun k hk=>by
  have:=Za5 h (Zhd l d (k+1)) (Ysv.2 ⟨k+1,by simpa using hk,rfl⟩)
  unfold Zhd at this
  split at this
  ·exact absurd this (by decide)
  split at this
  ·exact absurd this (by decide)
  ·rename_i h1 h2
   rw[show k+1-1=k by omega]at h2
   omega
 have far:∀n i,i+n+1<l.length→l[i]?.getD 0<l[i+n+1]?.getD 0:=fun n=>by
  induction n with
  |zero=>exact fun i hi=>adj i hi
  |succ n ih=>
   intro i hi
   have h1:=ih i (by omega)
   have h2:=adj (i+n+1) (by omega)
   rw[show i+(n+1)+1=i+n+1+1 by omega]
   omega
 rw[List.pairwise_iff_getElem]
 intro i j hi hj hij
 have:=far (j-i-1) i (by omega)
 rw[show i+(j-i-1)+1=j by omega]at this
 simpa[Yrt hi,Yrt hj]using this
def MtR(N0:Nat)(h:T O)(N:Nat)(v:V)(m:List (List Rat)):Prop:=∃us:List V,Own 1 23 N0 h N v (us.map fun y=>[y])∧us.length=m.length∧∀(j:Nat) (l:List Rat),m[j]?=some l→∃u,us[j]?=some u∧Tx h N0 u l
theorem MtR.nil{N0:Nat}:MtR N0 h N .nilslice []:=⟨[],Own.nil,rfl,fun j l hl=>by simp at hl⟩
theorem MtR.keep{N0:Nat}{h':T O}{N':Nat}(s:MtR N0 h N v m)(k:Keeps h N h' N')(hN:N0≤N):MtR N0 h' N' v m:=by
 obtain⟨us,h1,h3,h4⟩:=s
 refine⟨us,h1.keep k,h3,fun j l hl=>?_⟩
 obtain⟨u,g1,g2⟩:=h4 j l hl
 exact⟨u,g1,g2.keep ⟨Yrr _,fun i hi=>k.get i (by omega)⟩⟩
theorem MtR.txm{N0:Nat}(s:MtR N0 h N v m)(hN:N0≤N):TxM h N v m:=by
 obtain⟨us,h1,h3,h4⟩:=s
 refine⟨us,Sn.one.1 h1.sn,h3,fun j l hl=>?_⟩
 obtain⟨u,g1,g2⟩:=h4 j l hl
 exact⟨u,g1,g2.keep ⟨hN,fun _ _=>rfl⟩⟩
theorem MtR.push{N0:Nat}{u x:V}{l:List Rat}{w:List Nat}(s:MtR N0 h N v m)(hu:Tx h N0 u l)(hN:N0≤N)(hx:Za2 ⟨h,N,w⟩ 1 x=some (1,[u]))(hm:m.length<100000):
  ∃v' h' w',Zb2 ⟨h,N,w⟩ 1 24 23 v x=some (v',⟨h',N+1,w'⟩)∧Zac N0 w'=Zac N0 w∧Keeps h N0 h' (N+1)∧MtR N0 h' (N+1) v' (m++[l]):=by
 obtain⟨us,h1,h3,h4⟩:=s
 obtain⟨v',h',w',f1,f2,f3,_,f5⟩:=Zbj (x:=[u]) (u:=x) (bytes:=24) (w:=w) h1 hN (by decide) rfl hx (by rw[Yt9];omega)
 have kk:Keeps h N0 h' N0:=⟨Yrr _,f3.get⟩
 refine⟨v',h',w',f1,f2,f3,us++[u],by simpa using f5,by simp[h3],fun j r hr=>?_⟩
 by_cases hj:j<m.length
 ·rw[Ysc hj]at hr
  obtain⟨u',g1,g2⟩:=h4 j r hr
  exact⟨u',by rw[Ysc (by omega)];exact g1,g2.keep kk⟩
 ·rw[Ysm (by omega)]at hr
  cases hd:j-m.length with
  |zero=>
   rw[hd]at hr
   simp at hr
   subst hr
   exact⟨u,by rw[Ysm (by omega),h3,hd];rfl,hu.keep kk⟩
  |succ d=>rw[hd]at hr;simp at hr
theorem Zte{u:V}(hu:TxM h N u m)(hv:Sl h N v (dI l))(p:l.Pairwise (·<·))(hnn:∀z∈l,0≤z)(hl:l.length<100000)(hml:m.length<10000):Fn A.C 34 [u,v] h N (fun x h' n'=>TxM h' n' x (Zow m l m.length)):=by
 intro w
 have l1:=hu.len
 have lg:=hv.len
 rw[Zas]at lg
 rw[Zaa,A.k34 (by simp)]
 simp[A.b34]
 refine Zaj [(5,34)] (fun e r st=>e=.exit 0∧Zac N st.w=[]∧Keeps h N st.h st.n∧∃x,r.get 5=some x∧MtR N st.h st.n x (Zow m l m.length)) (fun i r st=>Zac N st.w=[]∧Keeps h N st.h st.n∧∃(k a:Nat) (x:V),k+i=m.length∧r.get 7=some (.int .i64 k)∧r.get 6=some (.int .i64 a)∧a≤l.length∧DrI l k a∧r.get 5=some x∧MtR N st.h st.n x (Zow m l k)) m.length ?_ ?_ ?_
 ·exact⟨by simp,Keeps.refl,0,0,.nilslice,by omega,by simp,by simp,by omega,⟨by simp,fun z hz=>hnn z (Yuv hz)⟩,by simp,by simpa[Zow]using MtR.nil⟩
 ·rintro i r ⟨H,n1,W⟩ hr hf ⟨hW,hK,k,a,x,hk,h7,h6,ha,hD,h5,ho⟩
  simp only at hW hK ho
  rw[Zah]
  cases i with
  |zero=>
   obtain rfl:k=m.length:=by omega
   simp[A.lb34_0,hr,hf,h7,h5,l1,hW,hK]
   exact ho
  |succ i=>
   have hlt:k<m.length:=by omega
   have hlt':(k:Int)<(m.length:Int):=by omega
   obtain⟨row,hrow⟩:=Zag hlt
   obtain⟨i',o,cc,e,rw,ru,q1,q2,q3,q4,q5⟩:=hu.at hrow
   have q3':=(hK.get i' q2).trans q3
   have hsc:=Zr3 (l:=l) hrow
   have nle:=hK.le
   have q2':i'<n1:=by omega
   have push:l.contains (k:Int)=false→DrI l (k+1) a→∀W',Zac N W'=[]→True:=fun _ _ _ _=>trivial
   have f1:=Sl.form q5
   have o1:=f1.one
   have o2:=f1.cells
   unfold V.one at o1
   unfold V.cells at o2
   have e4:splice [V.nilslice] 0 [ru]=[ru]:=rfl
   have kN:Keeps H n1 (H.set n1 (.cells [ru] 23 true)) (n1+1):=Keeps.refl.new _
   have dl:=Zlw (m:=m) (l:=l) (k:=k)
   obtain⟨v',h',w',f1,f2,f3,f4⟩:=(ho.keep kN nle).push (w:=W) (x:=.slice n1 0 1 (some 1) 1) (u:=ru) (l:=row) (q5.keep ⟨Yrr _,fun j hj=>((hK.trans kN).get j hj)⟩) (by omega) (by simp[Za2,St.row,slc]) (by omega)
   by_cases ca:a<l.length
   ·have ca':(a:Int)<(l.length:Int):=by omega
    obtain⟨z,hz⟩:=Zag ca
    obtain⟨p1,po,pc,pe,prw,t1,t2,t3,t4⟩:=(hv.keep hK).at (Zba hz)
    by_cases cz:z=(k:Int)
    ·subst cz
     obtain⟨c1,c2⟩:=hD.hit p hz
     rw[c1]at hsc
     simp only[if_true,Ytm]at hsc
     simp(disch:=first|(simp;done)|omega|rfl) [A.lb34_0,hr,hf,h7,h6,h5,l1,lg,hlt',ca',t1,t3,t4]
     exact⟨i,by omega,hW,hK,k+1,by omega,by simp,a+1,by simp,by omega,c2,by rw[hsc];exact ho⟩
    ·obtain⟨c1,c2⟩:=hD.miss p (by rw[hz];simpa using cz)
     rw[c1]at hsc
     simp only[Yry,if_false]at hsc
     rw[←hsc]at f4
     simp(disch:=first|(simp;done)|omega|rfl) [A.lb34_0,hr,hf,h7,h6,h5,l1,lg,hlt',ca',t1,t3,t4,cz,q1,q3',q4,o1,o2,e4,f1]
     exact⟨i,by omega,by rw[f2];exact hW,(hK.trans kN).then f3,k+1,by omega,by simp,ha,c2,f4⟩
   ·have ca':¬(a:Int)<(l.length:Int):=by omega
    obtain⟨c1,c2⟩:=hD.miss p (by rw[Yr2 (by omega)];simp)
    rw[c1]at hsc
    simp only[Yry,if_false]at hsc
    rw[←hsc]at f4
    simp(disch:=first|(simp;done)|omega|rfl) [A.lb34_0,hr,hf,h7,h6,h5,l1,lg,hlt',ca',q1,q3',q4,o1,o2,e4,f1]
    exact⟨i,by omega,by rw[f2];exact hW,(hK.trans kN).then f3,k+1,by omega,by simp,ha,c2,f4⟩
 ·rintro _ r ⟨H,n1,W⟩ hr ⟨rfl,hW,hK,x,h5,ho⟩
  simp only at hW hK ho
  simp[h5,Ret,hW,hK]
  exact ho.txm hK.le
variable {N:Nat} {h:T O} {m:List (List Rat)} {u v:V} {w:List Nat}
def A.lb55_0:Zae:=.seq (sr [mv 11 5,mv 12 0,ln 13 12,bi 14 .lss 11 13]
 (cd 14
 (.skip)
 (.exit 0)))
 (.seq (.block 1 (.seq (.regD [mv 17 0,mv 18 5,ia 19 1 17 18,ld 20 19,mv 21 1,mv 22 5,ia 23 1 21 22,ld 24 23,c2 25 60 20 24,⟨(some 26),.un .not (.tmp 25),none⟩] [0,0,3,7,0,0,48,112,255,511])
 (cd 26
 (sr [⟨(some 4),.mov (.const (.bool false)),none⟩]
 (.ret))
 (.skip))))
 (.reg [mv 15 5,bc 16 .add 15 1,mv 5 16]))
def A.b55:Zae:=sr [⟨(some 4),.mov (.const (.bool false)),none⟩]
 (.seq (sr [mv 6 0,ln 7 6,mv 8 1,ln 9 8,⟨(some 10),.bin .neq (.prim .int) false (.tmp 7) (.tmp 9),none⟩]
 (cd 10
 (sr [⟨(some 4),.mov (.const (.bool false)),none⟩]
 (.ret))
 (.skip)))
 (.seq (sr [mc 5 0]
 (.block 0 (.loop A.lb55_0)))
 (sr [⟨(some 4),.mov (.const (.bool true)),none⟩]
 (.ret))))
theorem A.c55:A.F 55=some ⟨27,[.tmp 4],A.b55⟩:=by kernel_rfl
def A.k55:=@A.kk 55 _ _ _ A.c55 rfl
def A.lb111_0:Zae:=.seq (sr [mv 5 3,mv 6 0,ln 7 6,bi 8 .lss 5 7]
 (cd 8
 (.skip)
 (.exit 0)))
 (.seq (.block 1 (sr [mv 11 0,mv 12 3,ia 13 1 11 12,ld 14 13,c1 15 97 14,mv 4 15]
 (sr [mv 16 4,ni 17 16 0]
 (cd 17
 (sr [mv 18 4,mv 2 18]
 (.ret))
 (.skip)))))
 (.reg [mv 9 3,bc 10 .add 9 1,mv 3 10]))
def A.b111:Zae:=sr [mc 2 0]
 (.seq (sr [mc 3 0]
 (.block 0 (.loop A.lb111_0)))
 (sr [mc 2 0]
 (.ret)))
theorem A.c111:A.F 111=some ⟨19,[.tmp 2],A.b111⟩:=by kernel_rfl
def A.k111:=@A.kk 111 _ _ _ A.c111 rfl
def A.b29:Zae:=sr [⟨(some 8),.mov (.const (.bool false)),none⟩]
 (.seq (sr [mv 9 3,ei 10 9 0]
 (cd 10
 (.reg [mv 11 2,c1 12 111 11,mv 3 12])
 (.skip)))
 (sr [mv 13 1,mv 14 3,⟨(some 15),.bin .eql (.prim .int) false (.tmp 13) (.tmp 14),none⟩,mv 16 15,mg 17 3 16,⟨(some 18),.bin .eql (.prim .int) true (.tmp 17) (.const (.int .i64 0)),(some (16,true))⟩,mg 19 18 16,mg 20 0 19,mg 21 2 19,⟨(some 22),.call (.const (.func 55 [] [])) [(.tmp 20),(.tmp 21)],(some (19,true))⟩,⟨(some 23),.pick (.tmp 19) (.tmp 22) (.const (.bool false)),(some (16,true))⟩,mg 24 23 16,mh 25 3 24,⟨(some 26),.bin .neq (.prim .int) true (.tmp 25) (.const (.int .i64 0)),(some (24,false))⟩,mh 27 26 24,mg 28 0 27,⟨(some 29),.len 1 (.tmp 28),(some (27,true))⟩,⟨(some 30),.bin .eql (.prim .int) true (.tmp 29) (.const (.int .i64 0)),(some (27,true))⟩,⟨(some 31),.pick (.tmp 27) (.tmp 30) (.const (.bool false)),(some (24,false))⟩,⟨(some 32),.pick (.tmp 24) (.const (.bool true)) (.tmp 31),(some (16,true))⟩,pf 33 16 32,mv 8 33]
 (.ret)))
theorem A.c29:A.F 29=some ⟨34,[.tmp 8],A.b29⟩:=by kernel_rfl
def A.k29:=@A.kk 29 _ _ _ A.c29 rfl
def A.b28:Zae:=sr [⟨(some 8),.mov (.const (.bool false)),none⟩]
 (.seq (sr [mv 9 3,ei 10 9 0]
 (cd 10
 (.reg [mv 11 2,c1 12 110 11,mv 3 12])
 (.skip)))
 (sr [mv 13 1,mv 14 3,⟨(some 15),.bin .eql (.prim .int) false (.tmp 13) (.tmp 14),none⟩,mv 16 15,mg 17 3 16,⟨(some 18),.bin .eql (.prim .int) true (.tmp 17) (.const (.int .i64 0)),(some (16,true))⟩,mg 19 18 16,mg 20 0 19,mg 21 2 19,⟨(some 22),.bin .eql (.prim .str) false (.tmp 20) (.tmp 21),(some (19,true))⟩,⟨(some 23),.pick (.tmp 19) (.tmp 22) (.const (.bool false)),(some (16,true))⟩,mg 24 23 16,mh 25 3 24,⟨(some 26),.bin .neq (.prim .int) true (.tmp 25) (.const (.int .i64 0)),(some (24,false))⟩,mh 27 26 24,mg 28 0 27,⟨(some 29),.bin .eql (.prim .str) true (.tmp 28) (.const (.str [])),(some (27,true))⟩,⟨(some 30),.pick (.tmp 27) (.tmp 29) (.const (.bool false)),(some (24,false))⟩,⟨(some 31),.pick (.tmp 24) (.const (.bool true)) (.tmp 30),(some (16,true))⟩,pf 32 16 31,mv 8 32]
 (.ret)))
theorem A.c28:A.F 28=some ⟨33,[.tmp 8],A.b28⟩:=by kernel_rfl
def A.k28:=@A.kk 28 _ _ _ A.c28 rfl
theorem Yi5(hu:TxM h N u m)(hv:TxM h N v m)(hl:m.length<100000)(hr:∀r∈m,r.length<100000):A.C.call (.func 55 [] []) [u,v] ⟨h,N,w⟩=some (.bool true,⟨h,N,w⟩):=by
 apply Call.eq
 have l1:=hu.len
 have l2:=hv.len
 rw[Zaa,A.k55 (by simp)]
 simp[A.b55,l1,l2]
 refine Zaj [(4,5),(11,26)] (fun e r st=>st=⟨h,N,[]⟩∧e=.exit 0) (fun i r st=>st=⟨h,N,[]⟩∧∃k,k+i=m.length∧r.get 5=some (.int .i64 k)) m.length ?_ ?_ ?_
 ·exact⟨rfl,0,by omega,by simp⟩
 ·rintro i r _ hr0 hf ⟨rfl,k,hk,h5⟩
  rw[Zah]
  cases i with
  |zero=>
   obtain rfl:k=m.length:=by omega
   simp[A.lb55_0,hr0,hf,h5,l1]
  |succ i=>
   have hlt:k<m.length:=by omega
   have hlt':(k:Int)<(m.length:Int):=by omega
   obtain⟨row,hrow⟩:=Zag hlt
   obtain⟨i1,o,cc,e,rw,ru,q1,q2,q3,q4,q5⟩:=hu.at hrow
   obtain⟨i2,o2,c2,e2,rw2,rv,p1,p2,p3,p4,p5⟩:=hv.at hrow
   have hs:=fun w=>Zzp (w:=w) (l:=row.map Za1) q5 p5 (by simpa using hr row (Yrv hrow))
   simp(disch:=first|(simp;done)|omega|rfl) [A.lb55_0,hr0,hf,h5,l1,l2,hlt',q1,q2,q3,q4,p1,p2,p3,p4,hs]
   exact⟨i,by omega,k+1,by omega,by simp⟩
 ·rintro _ r _ hr0 ⟨rfl,rfl⟩
  simp
def Zsp(m:List (List Rat)):Bool:=m.any Zcd
theorem Ybm(hu:TxM h N u m)(hl:m.length<100000)(hr:∀r∈m,r.length<100000∧∀q∈r,(Za1 q).length<1000000):A.C.call (.func 111 [] []) [u] ⟨h,N,w⟩=some (.int .i64 (if Zsp m=true then 4 else 0),⟨h,N,w⟩):=by
 apply Call.eq
 have l1:=hu.len
 rw[Zaa,A.k111 (by simp)]
 simp[A.b111]
 refine Zaj [(2,18)] (fun e r st=>st=⟨h,N,[]⟩∧((e=.exit 0∧Zsp m=false)∨(e=.ret∧Zsp m=true∧r.get 2=some (.int .i64 4)))) (fun i r st=>st=⟨h,N,[]⟩∧∃k,k+i=m.length∧r.get 3=some (.int .i64 k)∧Zsp m=Zsp (m.drop k)) m.length ?_ ?_ ?_
 ·exact⟨rfl,0,by omega,by simp,by simp⟩
 ·rintro i r _ hr0 hf ⟨rfl,k,hk,h3,hz⟩
  rw[Zah]
  cases i with
  |zero=>
   obtain rfl:k=m.length:=by omega
   rw[Ysq]at hz
   have hz':Zsp m=false:=by rw[hz];rfl
   simp[A.lb111_0,hr0,hf,h3,l1,hz']
  |succ i=>
   have hlt:k<m.length:=by omega
   have hlt':(k:Int)<(m.length:Int):=by omega
   obtain⟨row,hrow⟩:=Zag hlt
   obtain⟨i1,o,cc,e,rw,ru,q1,q2,q3,q4,q5⟩:=hu.at hrow
   obtain⟨a1,a2⟩:=hr row (Yrv hrow)
   have hs:=fun w=>Zt3 (w:=w) q5 a1 a2
   rw[Zao hrow]at hz
   cases hb:Zcd row with
   |true=>
    have hz':Zsp m=true:=by rw[hz];simp[Zsp,hb]
    rw[hb]at hs
    simp only[if_true]at hs
    simp[A.lb111_0,hr0,hf,h3,l1,hlt',q1,q3,q4,hs,hz']
   |false=>
    have hz':Zsp m=Zsp (m.drop (k+1)):=by rw[hz];simp[Zsp,hb]
    rw[hb]at hs
    simp only[Yry,if_false]at hs
    simp(disch:=first|(simp;done)|omega|rfl) [A.lb111_0,hr0,hf,h3,l1,hlt',q1,q3,q4,hs]
    exact⟨i,by omega,k+1,by omega,by simp,hz'⟩
 ·rintro e r _ hr0 ⟨rfl,⟨rfl,hz⟩|⟨rfl,hz,h2⟩⟩
  ·simp[hz]
  ·simp[hz,h2]
def TPM(e:Int)(m:List (List Rat))(v:V)(c:Int)(h:T O)(n:Nat):Prop:=(e≠0∧v=.nilslice∧c=e)∨(e=0∧((Zsp m=true∧v=.nilslice∧c=4)∨(Zsp m=false∧c=0∧TxM h n v m)))
theorem TPM.keep{h':T O}{n n':Nat}{e c:Int}(s:TPM e m v c h n)(k:Keeps h n h' n'):TPM e m v c h' n':=by
 rcases s with s|⟨a,s|⟨b,c,s⟩⟩
 ·exact .inl s
 ·exact .inr ⟨a,.inl s⟩
 ·exact .inr ⟨a,.inr ⟨b,c,s.keep k⟩⟩
def TPN(e:Int)(q:Rat)(s:List UInt8)(c:Int):Prop:=(e≠0∧s=[]∧c=e)∨(e=0∧((Zwg q=true∧s=[]∧c=4)∨(Zwg q=false∧c=0∧s=Za1 q)))
theorem Ylx.parts{e:Int}{q:Rat}{x:V}(s:Ylx e q x):∃t c,x=.tup [.str t,.int .i64 c]∧TPN e q t c:=by
 rcases s with⟨a,rfl⟩|⟨a,⟨b,rfl⟩|⟨b,rfl⟩⟩
 ·exact⟨_,_,rfl,.inl ⟨a,rfl,rfl⟩⟩
 ·exact⟨_,_,rfl,.inr ⟨a,.inl ⟨b,rfl,rfl⟩⟩⟩
 ·exact⟨_,_,rfl,.inr ⟨a,.inr ⟨b,rfl,rfl⟩⟩⟩
theorem Zri{e c:Int}(hv:TPM e m v c h N)(hu:e=0→TxM h N u m)(hl:m.length<100000)(hr:e=0→∀r∈m,r.length<100000∧∀q∈r,(Za1 q).length<1000000):A.C.call (.func 29 [] []) [v,.int .i64 c,u,.int .i64 e] ⟨h,N,w⟩=some (.bool true,⟨h,N,w⟩):=by
 apply Call.eq
 rw[Zaa,A.k29 (by simp)]
 rcases hv with⟨a,rfl,rfl⟩|⟨rfl,⟨b,rfl,rfl⟩|⟨b,rfl,t⟩⟩
 ·simp[A.b29,a]
 ·have hr:=fun w=>Ybm (w:=w) (hu rfl) hl (hr rfl)
  rw[b]at hr
  simp only[if_true]at hr
  simp[A.b29,hr]
 ·have hs:=fun w=>Yi5 (w:=w) t (hu rfl) hl (fun r hx=>(hr rfl r hx).1)
  have hr:=fun w=>Ybm (w:=w) (hu rfl) hl (hr rfl)
  rw[b]at hr
  simp only[Yry,if_false]at hr
  simp[A.b29,hr,hs]
theorem Zq7{e c:Int}{q:Rat}{s t:List UInt8}{st:St}(hv:TPN e q s c)(hu:e=0→t=Za1 q)(hl:e=0→(Za1 q).length<1000000):A.C.call (.func 28 [] []) [.str s,.int .i64 c,.str t,.int .i64 e] st=some (.bool true,st):=by
 apply Call.eq
 rw[Zaa,A.k28 (by simp)]
 rcases hv with⟨a,rfl,rfl⟩|⟨rfl,⟨b,rfl,rfl⟩|⟨b,rfl,rfl⟩⟩
 ·simp[A.b28,a]
 ·have hr:=fun st=>Zm2 (st:=st) (hl rfl)
  rw[b]at hr
  simp only[if_true]at hr
  rw[hu rfl]
  simp[A.b28,hr]
 ·have hr:=fun st=>Zm2 (st:=st) (hl rfl)
  rw[b]at hr
  simp only[Yry,if_false]at hr
  rw[hu rfl]
  simp[A.b28,hr]
variable {N:Nat} {h:T O}
def A.lb30_0:Zae:=sr [bi 8 .lss 7 6]
 (.seq (cd 8
 (.skip)
 (.exit 0))
 (.seq (.block 1 (sr [ia 9 1 5 7,ld 10 9,mv 4 10]
 (sr [mv 11 4,ni 12 11 0]
 (cd 12
 (sr [mv 13 4,mv 2 13]
 (.ret))
 (.skip)))))
 (.reg [bc 14 .add 7 1,mv 7 14])))
def A.b30:Zae:=sr [mc 2 0]
 (.seq (sr [mv 5 0,ln 6 5,mc 7 0]
 (.block 0 (.loop A.lb30_0)))
 (sr [mc 2 0]
 (.ret)))
theorem A.c30:A.F 30=some ⟨15,[.tmp 2],A.b30⟩:=by kernel_rfl
def A.k30:=@A.kk 30 _ _ _ A.c30 rfl
def A.b23:Zae:=sr [bx 1 42 0,⟨(some 2),.mov (.const (.bool false)),none⟩]
 (sr [fa 3 0 1,ld 4 3,⟨(some 5),.call (.const (.func 9 [] [])) [(.tmp 4),(.const (.int .i64 6))],none⟩,mv 6 5,⟨(some 7),.faddr 1 (.tmp 1),(some (6,true))⟩,⟨(some 8),.load none (.tmp 7),(some (6,true))⟩,⟨(some 9),.call (.const (.func 9 [] [])) [(.tmp 8),(.const (.int .i64 6))],(some (6,true))⟩,pf 10 6 9,mv 11 10,⟨(some 12),.faddr 2 (.tmp 1),(some (11,true))⟩,⟨(some 13),.load none (.tmp 12),(some (11,true))⟩,⟨(some 14),.call (.const (.func 9 [] [])) [(.tmp 13),(.const (.int .i64 6))],(some (11,true))⟩,pf 15 11 14,mv 2 15]
 (.ret))
theorem A.c23:A.F 23=some ⟨16,[.tmp 2],A.b23⟩:=by kernel_rfl
def A.k23:=@A.kk 23 _ _ _ A.c23 rfl
theorem Ybq{v:V}{l:List Int}{w:List Nat}(hs:Sl h N v (dI l))(hl:l.length<1000):A.C.call (.func 30 [] []) [v] ⟨h,N,w⟩=some (.int .i64 (Zak l),⟨h,N,w⟩):=by
 apply Call.eq
 have hlen:=hs.len
 rw[Zas]at hlen
 rw[Zaa,A.k30 (by simp)]
 simp[A.b30,hlen]
 refine Zaj [(2,2),(4,4),(7,14)] (fun e r st=>st=⟨h,N,[]⟩∧((e=.exit 0∧Zak l=0)∨(e=.ret∧r.get 2=some (.int .i64 (Zak l))))) (fun m r st=>st=⟨h,N,[]⟩∧∃k,m=l.length-k∧k≤l.length∧r.get 7=some (.int .i64 k)∧Zak l=Zak (l.drop k)) l.length ?_ ?_ ?_
 ·exact⟨rfl,0,by omega,by omega,by simp,by simp⟩
 ·rintro m r _ hr hf ⟨rfl,k,rfl,hk,h7,hz⟩
  rw[Zah]
  by_cases hlt:k<l.length
  ·obtain⟨c,hc⟩:=Zag hlt
   obtain⟨i,o,cc,e,rw,q1,q2,q3,q4⟩:=hs.at (Zba hc)
   rw[Zao hc,Zak]at hz
   have hk1:(k:Int)<(l.length:Int):=by omega
   by_cases h0:c=0
   ·rw[Yru h0]at hz
    simp(disch:=first|(simp;done)|omega|rfl) [A.lb30_0,hr,hf,h7,hk1,hlen,q1,q3,q4,h0]
    exact⟨_,by omega,k+1,rfl,by omega,by simp,hz⟩
   ·rw[Yrq h0]at hz
    simp[A.lb30_0,hr,hf,h7,hk1,hlen,q1,q3,q4,h0,hz]
  ·have:l.drop k=[]:=Ysn (by omega)
   rw[this,Zak]at hz
   have:k=l.length:=by omega
   subst this
   simp[A.lb30_0,hr,hf,h7,hz]
 ·rintro _ r _ hr ⟨rfl,⟨rfl,hz⟩|⟨rfl,h2⟩⟩
  ·simp[hz]
  ·simp[h2]
theorem Ybr{i:Nat}{w:List Nat}{a0 a1:Int}(hi:i<N):A.C.call (.func 30 [] []) [.slice i 0 2 (some 2) 1] ⟨h.set i (.cells [.int .i64 a0,.int .i64 a1] 3 true),N,w⟩=some (.int .i64 (Zak [a0,a1]),⟨h.set i (.cells [.int .i64 a0,.int .i64 a1] 3 true),N,w⟩):=
 Ybq (l:=[a0,a1]) (Sl.row (e:=3) (rw:=true) (cp:=some 2) hi (by simp[dI]) rfl (by simp)) (by simp)
theorem Yiy{h:T O}{N:Nat}{a b c:V}{ws s x:List Str}(ha:Sl h N a (strs ws))(hb:Sl h N b (strs s))(hc:Sl h N c (strs x))(la:ws.length<9223372036854775808)(lb:s.length<9223372036854775808)(lc:x.length<9223372036854775808):Fn A.C 23 [.agg [a,b,c]] h N (fun u _ _=>u=.bool (Zay 6 ws&&Zay 6 s&&Zay 6 x)):=by
 intro w
 have o1:=ha.form.one
 have o2:=hb.form.one
 have o3:=hc.form.one
 unfold V.one at o1 o2 o3
 have kB:Keeps h N (h.set N (.cells [a,b,c] 42 true)) (N+1):=Keeps.refl.new _
 have e1:∀w,A.C.call (.func 9 [] []) [a,.int .i64 6] ⟨h.set N (.cells [a,b,c] 42 true),N+1,w⟩=some (.bool (Zay 6 ws),⟨h.set N (.cells [a,b,c] 42 true),N+1,w⟩):=fun w=>Zgy (w:=w) (n:=6) (ha.keep kB) la (by decide)
 have e2:∀w,A.C.call (.func 9 [] []) [b,.int .i64 6] ⟨h.set N (.cells [a,b,c] 42 true),N+1,w⟩=some (.bool (Zay 6 s),⟨h.set N (.cells [a,b,c] 42 true),N+1,w⟩):=fun w=>Zgy (w:=w) (n:=6) (hb.keep kB) lb (by decide)
 have e3:∀w,A.C.call (.func 9 [] []) [c,.int .i64 6] ⟨h.set N (.cells [a,b,c] 42 true),N+1,w⟩=some (.bool (Zay 6 x),⟨h.set N (.cells [a,b,c] 42 true),N+1,w⟩):=fun w=>Zgy (w:=w) (n:=6) (hc.keep kB) lc (by decide)
 rw[Zaa,A.k23 (by simp)]
 cases q1:Zay 6 ws with
 |false=>
  rw[q1]at e1
  simp[A.b23,o1,o2,o3,e1,Ret]
  exact kB
 |true=>
  rw[q1]at e1
  cases q2:Zay 6 s with
  |false=>
   rw[q2]at e2
   simp[A.b23,o1,o2,o3,e1,e2,Ret]
   exact kB
  |true=>
   rw[q2]at e2
   simp[A.b23,o1,o2,o3,e1,e2,e3,Ret]
   exact kB
variable {h:T O}
def A.lb3_0:Zae:=sr [bi 87 .lss 86 85]
 (.seq (cd 87
 (.skip)
 (.exit 0))
 (.seq (.block 1 (sr [ia 88 1 84 86,ld 89 88,mv 18 89]
 (.reg [mv 90 16,mv 91 18,⟨(some 92),.bslice 23 1 1 [.nilslice] [(0,1,(.tmp 91))],none⟩,mv 93 1,c2 94 21 92 93,⟨(some 95),.iaddrSl 1 (.tmp 94) (.const (.int .i64 0)),none⟩,ld 96 95,mv 97 18,c2 98 20 96 97,⟨(some 99),.bslice 36 1 1 [(.str [])] [(0,1,(.tmp 98))],none⟩,⟨(some 100),.append 1 16 36 [(.str [])] (.tmp 90) (.tmp 99),none⟩,mv 16 100])))
 (.reg [bc 101 .add 86 1,mv 86 101])))
def A.ta3_0:Zae:=sr [mv 102 5,mv 103 6,mv 104 14,mv 105 11,⟨(some 106),.call (.const (.func 22 [] [])) [(.tmp 102),(.tmp 103),(.tmp 104),(.tmp 105)],none⟩,mv 107 106,mg 108 7 107,mg 109 8 107,mg 110 15 107,mg 111 12 107,⟨(some 112),.call (.const (.func 22 [] [])) [(.tmp 108),(.tmp 109),(.tmp 110),(.tmp 111)],(some (107,true))⟩,pf 113 107 112,mv 114 113,mg 115 9 114,mg 116 10 114,mg 117 16 114,mg 118 13 114,⟨(some 119),.call (.const (.func 22 [] [])) [(.tmp 115),(.tmp 116),(.tmp 117),(.tmp 118)],(some (114,true))⟩,pf 120 114 119,mv 121 120,⟨(some 122),.call (.const (.func 10 [] [])) [],(some (121,true))⟩,pf 123 121 122,mv 4 123]
 (.ret)
def A.ta3_1:Zae:=.seq (sr [mv 82 13,ei 83 82 0]
 (cd 83
 (sr [mv 84 0,ln 85 84,mc 86 0]
 (.block 0 (.loop A.lb3_0)))
 (.skip)))
 A.ta3_0
def A.ta3_2:Zae:=.seq (sr [mv 76 12,ei 77 76 0]
 (cd 77
 (.reg [mv 78 0,c1 79 19 78,mv 80 1,c2 81 18 79 80,mv 15 81])
 (.skip)))
 A.ta3_1
def A.ta3_3:Zae:=.seq (sr [mv 71 11,ei 72 71 0]
 (cd 72
 (.reg [mv 73 0,mv 74 1,c2 75 18 73 74,mv 14 75])
 (.skip)))
 A.ta3_2
def A.ta3_4:Zae:=.seq (sr [mv 65 12,ei 66 65 0]
 (cd 66
 (.reg [mv 67 1,mv 68 0,ln 69 68,c2 70 16 67 69,mv 12 70])
 (.skip)))
 A.ta3_3
def A.ta3_5:Zae:=.seq (sr [mv 51 11,ei 52 51 0]
 (cd 52
 (.regD [mv 53 1,mv 54 0,⟨(some 55),.iaddrSl 1 (.tmp 54) (.const (.int .i64 0)),none⟩,ld 56 55,ln 57 56,c2 58 16 53 57,mv 59 1,mv 60 0,⟨(some 61),.iaddrSl 1 (.tmp 60) (.const (.int .i64 0)),none⟩,ld 62 61,ln 63 62,⟨(some 64),.call (.const (.func 17 [] [])) [(.tmp 59),(.tmp 63),(.const (.int .i64 0))],none⟩,mv 11 58,mv 13 64] [0,0,2,6,14,31,0,0,128,384,896,2047,4095,8191])
 (.skip)))
 A.ta3_4
def A.b3:Zae:=sr [⟨(some 4),.mov (.const (.bool false)),none⟩]
 (.seq (sr [mv 19 0,⟨(some 20),.call (.const (.func 8 [] [])) [(.tmp 19),(.const (.int .i64 6)),(.const (.int .i64 6))],none⟩,⟨(some 21),.un .not (.tmp 20),none⟩,mv 22 21,mh 23 1 22,⟨(some 24),.call (.const (.func 9 [] [])) [(.tmp 23),(.const (.int .i64 6))],(some (22,false))⟩,⟨(some 25),.un .not (.tmp 24),(some (22,false))⟩,pt 26 22 25]
 (cd 26
 (sr [⟨(some 27),.call (.const (.func 10 [] [])) [],none⟩,mv 4 27]
 (.ret))
 (.skip)))
 (sr [mv 29 0,mv 30 1,c2 31 11 29 30,mv 28 31,xt 32 28 0,xt 33 28 1,mv 5 32,mv 6 33]
 (sr [mv 35 0,mv 36 1,c2 37 12 35 36,mv 34 37,xt 38 34 0,xt 39 34 1,mv 7 38,mv 8 39]
 (sr [mv 41 0,mv 42 1,c2 43 13 41 42,mv 40 43,xt 44 40 0,xt 45 40 1,mv 9 44,mv 10 45]
 (sr [mv 46 0,⟨(some 47),.call (.const (.func 14 [] [])) [(.tmp 46),(.const (.int .i64 64)),(.const (.int .i64 64))],none⟩,mv 11 47]
 (sr [mv 48 0,c1 49 15 48,mv 12 49]
 (sr [mv 50 11,mv 13 50]
 (sr [mN 14,mN 15,mN 16]
 A.ta3_5))))))))
theorem A.c3:A.F 3=some ⟨124,[.tmp 4],A.b3⟩:=by kernel_rfl
def A.k3:=@A.kk 3 _ _ _ A.c3 rfl
theorem Zlz{N:Nat}{w:List Nat}(hP:P10 h N):A.C.call (.func 10 [] []) [] ⟨h,N,w⟩=some (.bool true,⟨h,N,w⟩):=by
 exact A.known hP.2
structure Wt (e:Int) (l:List Rat) (v:V) (c:Int) (u:V) (h:T O) (n:Nat):Prop where
 p:P10 h n
 tp:TP e l v c h n
 tx:e=0→Tx h n u l
 len:l.length<100000
 txt:e=0→∀q∈l,(Za1 q).length<1000000
theorem Wt.eq{n:Nat}{v u:V}{e c:Int}{l:List Rat}(s:Wt e l v c u h n)(w:List Nat):A.C.call (.func 22 [] []) [v,.int .i64 c,u,.int .i64 e] ⟨h,n,w⟩=some (.bool true,⟨h,n,w⟩):=Ybo s.tp s.tx s.len s.txt
theorem Wt.keep{h':T O}{n n':Nat}{v u:V}{e c:Int}{l:List Rat}(s:Wt e l v c u h n)(k:Keeps h n h' n'):Wt e l v c u h' n':=⟨s.p.keep k,s.tp.keep k,fun a=>(s.tx a).keep k,s.len,s.txt⟩
variable {l:List Int} {n:Nat} {u:V}
def A.ta4_0:Zae:=sr [mv 131 7,mv 132 8,mv 133 17,mv 134 14,⟨(some 135),.call (.const (.func 22 [] [])) [(.tmp 131),(.tmp 132),(.tmp 133),(.tmp 134)],none⟩,mv 136 135,mg 137 9 136,mg 138 10 136,mg 139 18 136,mg 140 15 136,⟨(some 141),.call (.const (.func 28 [] [])) [(.tmp 137),(.tmp 138),(.tmp 139),(.tmp 140)],(some (136,true))⟩,pf 142 136 141,mv 143 142,mg 144 11 143,mg 145 12 143,mg 146 19 143,mg 147 16 143,⟨(some 148),.call (.const (.func 29 [] [])) [(.tmp 144),(.tmp 145),(.tmp 146),(.tmp 147)],(some (143,true))⟩,pf 149 143 148,mv 150 149,⟨(some 151),.call (.const (.func 10 [] [])) [],(some (150,true))⟩,pf 152 150 151,mv 6 152]
 (.ret)
def A.ta4_1:Zae:=.seq (sr [mv 126 16,ei 127 126 0]
 (cd 127
 (.reg [mv 128 0,mv 129 2,c2 130 34 128 129,mv 19 130])
 (.skip)))
 A.ta4_0
def A.ta4_2:Zae:=.seq (sr [mv 116 15,ei 117 116 0]
 (cd 117
 (.reg [mv 118 0,fa 119 0 4,ld 120 119,fa 121 1 4,ld 122 121,fa 123 2 4,ld 124 123,⟨(some 125),.call (.const (.func 33 [] [])) [(.tmp 118),(.tmp 120),(.tmp 122),(.tmp 124)],none⟩,mv 18 125])
 (.skip)))
 A.ta4_1
def A.ta4_3:Zae:=.seq (sr [mv 108 14,ei 109 108 0]
 (cd 109
 (.reg [mv 110 0,fa 111 1 4,ld 112 111,fa 113 2 4,ld 114 113,⟨(some 115),.call (.const (.func 32 [] [])) [(.tmp 110),(.tmp 112),(.tmp 114)],none⟩,mv 17 115])
 (.skip)))
 A.ta4_2
def A.ta4_4:Zae:=.seq (.regD [fa 83 1 4,ld 84 83,mv 85 0,ln 86 85,c2 87 16 84 86,fa 88 2 4,ld 89 88,mv 90 0,⟨(some 91),.iaddrSl 1 (.tmp 90) (.const (.int .i64 0)),none⟩,ld 92 91,ln 93 92,c2 94 16 89 93,⟨(some 95),.bslice 3 1 2 [(.int .i64 0),(.int .i64 0)] [(0,1,(.tmp 87)),(1,1,(.tmp 94))],none⟩,c1 96 30 95,mv 14 96] [0,1,0,4,15,0,32,0,128,384,896,2047,4095,8191,16383])
 (sr [fa 97 0 4,ld 98 97,mv 99 0,ln 100 99,⟨(some 101),.call (.const (.func 17 [] [])) [(.tmp 98),(.tmp 100),(.const (.int .i64 1))],none⟩,mv 102 14,⟨(some 103),.bslice 3 1 2 [(.int .i64 0),(.int .i64 0)] [(0,1,(.tmp 101)),(1,1,(.tmp 102))],none⟩,c1 104 30 103,mv 15 104]
 (sr [mv 105 0,mv 106 2,c2 107 31 105 106,mv 16 107]
 (sr [mN 17]
 (sr [⟨(some 18),.mov (.const (.str [])),none⟩]
 (sr [mN 19]
 A.ta4_3)))))
def A.b4:Zae:=sr [bx 4 42 1,⟨(some 6),.mov (.const (.bool false)),none⟩]
 (.seq (sr [mv 20 0,⟨(some 21),.call (.const (.func 8 [] [])) [(.tmp 20),(.const (.int .i64 6)),(.const (.int .i64 6))],none⟩,⟨(some 22),.un .not (.tmp 21),none⟩,mv 23 22,⟨(some 24),.load (some 3) (.tmp 4),(some (23,false))⟩,⟨(some 25),.call (.const (.func 23 [] [])) [(.tmp 24)],(some (23,false))⟩,⟨(some 26),.un .not (.tmp 25),(some (23,false))⟩,pt 27 23 26,mv 28 27,mh 29 2 28,⟨(some 30),.len 1 (.tmp 29),(some (28,false))⟩,⟨(some 31),.bin .gtr (.node []) false (.tmp 30) (.const (.int .i64 8)),(some (28,false))⟩,pt 32 28 31]
 (cd 32
 (sr [⟨(some 33),.call (.const (.func 10 [] [])) [],none⟩,mv 6 33]
 (.ret))
 (.skip)))
 (sr [mv 35 0,fa 36 1 4,ld 37 36,fa 38 2 4,ld 39 38,⟨(some 40),.call (.const (.func 24 [] [])) [(.tmp 35),(.tmp 37),(.tmp 39)],none⟩,mv 34 40,xt 41 34 0,xt 42 34 1,mv 7 41,mv 8 42]
 (sr [mv 44 0,fa 45 0 4,ld 46 45,fa 47 1 4,ld 48 47,fa 49 2 4,ld 50 49,⟨(some 51),.call (.const (.func 25 [] [])) [(.tmp 44),(.tmp 46),(.tmp 48),(.tmp 50)],none⟩,mv 43 51,xt 52 43 0,xt 53 43 1,mv 9 52,mv 10 53]
 (sr [mv 55 0,mv 56 2,c2 57 26 55 56,mv 54 57,xt 58 54 0,xt 59 54 1,mv 11 58,mv 12 59]
 (sr [mv 60 0,c1 61 27 60,mv 13 61]
 (.seq (sr [mv 62 13,ni 63 62 0]
 (cd 63
 (sr [mv 64 7,mv 65 8,mv 66 13,⟨(some 67),.call (.const (.func 22 [] [])) [(.tmp 64),(.tmp 65),(.const .nilslice),(.tmp 66)],none⟩,mv 68 67,mg 69 9 68,mg 70 10 68,mg 71 13 68,⟨(some 72),.call (.const (.func 28 [] [])) [(.tmp 69),(.tmp 70),(.const (.str [])),(.tmp 71)],(some (68,true))⟩,pf 73 68 72,mv 74 73,mg 75 11 74,mg 76 12 74,mg 77 13 74,⟨(some 78),.call (.const (.func 29 [] [])) [(.tmp 75),(.tmp 76),(.const .nilslice),(.tmp 77)],(some (74,true))⟩,pf 79 74 78,mv 80 79,⟨(some 81),.call (.const (.func 10 [] [])) [],(some (80,true))⟩,pf 82 80 81,mv 6 82]
 (.ret))
 (.skip)))
 A.ta4_4))))))
theorem A.c4:A.F 4=some ⟨153,[.tmp 6],A.b4⟩:=by kernel_rfl
def A.k4:=@A.kk 4 _ _ _ A.c4 rfl
structure Rg5 (r0:T V) (u dv:V) (B:Nat) (v1:V) (c1:Int) (s2:Str) (c2:Int) (v3:V) (c3:Int):Prop where
 a0:r0.get 0=some u
 a2:r0.get 2=some dv
 a4:r0.get 4=some (.ptr B 0)
 a7:r0.get 7=some v1
 a8:r0.get 8=some (.int .i64 c1)
 a9:r0.get 9=some (.str s2)
 a10:r0.get 10=some (.int .i64 c2)
 a11:r0.get 11=some v3
 a12:r0.get 12=some (.int .i64 c3)
structure WtN (e:Int) (q:Rat) (s:Str) (c:Int) (t:Str):Prop where
 tp:TPN e q s c
 tx:e=0→t=Za1 q
 txt:e=0→(Za1 q).length<1000000
structure WtM (e:Int) (m:List (List Rat)) (v:V) (c:Int) (u:V) (h:T O) (n:Nat):Prop where
 tp:TPM e m v c h n
 tx:e=0→TxM h n u m
 len:m.length<100000
 txt:e=0→∀r∈m,r.length<100000∧∀q∈r,(Za1 q).length<1000000
theorem WtM.keep{h h':T O}{n':Nat}{v:V}{e c:Int}{m:List (List Rat)}(s:WtM e m v c u h n)(k:Keeps h n h' n'):WtM e m v c u h' n':=⟨s.tp.keep k,fun a=>(s.tx a).keep k,s.len,s.txt⟩
theorem Yp2{H:T O}{B:Nat}{r0:T V}{dv v1 v3:V}{c1 c2 c3:Int}{s2:Str}{u1 u3:V}{t2:Str}{e1 e2 e3:Int}{l1:List Rat}{q2:Rat}{l3:List (List Rat)}(R:Rg5 r0 u dv B v1 c1 s2 c2 v3 c3)(s1:Wt e1 l1 v1 c1 u1 H n)(sN:WtN e2 q2 s2 c2 t2)(s3:WtM e3 l3 v3 c3 u3 H n)(a14:r0.get 14=some (.int .i64 e1))(a15:r0.get 15=some (.int .i64 e2))(a16:r0.get 16=some (.int .i64 e3))(a17:r0.get 17=some u1)(a18:r0.get 18=some (.str t2))(a19:r0.get 19=some u3):
  Code A.C none A.ta4_0 ⟨r0,153,[]⟩ ⟨H,n,[]⟩ (fun e fr st=>e=.ret∧∃r,fr=⟨r,153,[]⟩∧r.get 6=some (.bool true)∧Zac n st.w=[]∧Keeps H n st.h st.n):=by
 rw[Zah]
 have q0:=fun w=>Zlz (w:=w) s1.p
 have p1:=s1.eq
 have p2:=fun st=>Zq7 (st:=st) sN.tp sN.tx sN.txt
 have p3:=fun w=>Zri (w:=w) s3.tp s3.tx s3.len s3.txt
 simp[A.ta4_0,R.a7,R.a8,R.a9,R.a10,R.a11,R.a12,a14,a15,a16,a17,a18,a19,q0,p1,p2,p3]
 exact Keeps.refl
theorem Zjq{N:Nat}{w:List Nat}(h:Zac n w=[])(hN:N≤n):Zac N w=[]:=Zpq fun i hi=>by
 have:=Yao h i hi
 omega
theorem Zzf{r:List Str}(h:OkL r):∀q∈Ze0 r,(Za1 q).length<1000000:=fun q hq=>by
 obtain⟨s,hs,rfl⟩:=Ysv.1 hq
 rw[(Zkx (h s hs).1).1]
 have:=(h s hs).2
 omega
theorem Ynp{d:Nat}(h:Zr4 l d=0):∀z∈l,0≤z:=fun z hz=>by
 obtain⟨i,hi,e⟩:=List.getElem_of_mem hz
 have:=Za5 h (Zhd l d i) (Ysv.2 ⟨i,by simpa using hi,rfl⟩)
 unfold Zhd at this
 rw[Yrt hi]at this
 simp only[Yub,e]at this
 split at this
 ·exact absurd this (by decide)
 ·rename_i h1;omega
theorem Ygu{d:Nat}(h:Znz l d=0):Zr4 l d=0:=by
 unfold Znz at h
 split at h
 ·assumption
 ·exact h
theorem Zv1{m:List (List Rat)}{r:List Rat}(h:r∈Zow m l m.length):r∈m:=by
 unfold Zow at h
 obtain⟨i,hi,rfl⟩:=Ysv.1 h
 have:=Yu6.1 (List.mem_filter.1 hi).1
 rw[Yrt this]
 exact List.getElem_mem this
theorem Zr5{H:T O}{B:Nat}{r0:T V}{dv v1 v3:V}{c1 c2 c3:Int}{s2:Str}{m:List (List Str)}{u1:V}{t2:Str}{e1 e2:Int}{l1:List Rat}{q2:Rat}(hm:MtS H n u m)(hd:Sl H n dv (dI l))(hM:OkM m (hdL m))(hl:l.length<100000)(R:Rg5 r0 u dv B v1 c1 s2 c2 v3 c3)(s1:Wt e1 l1 v1 c1 u1 H n)(sN:WtN e2 q2 s2 c2 t2)(s3:TPM (Znz l m.length) (Zow (Zgs m) l m.length) v3 c3 H n)(a14:r0.get 14=some (.int .i64 e1))(a15:r0.get 15=some (.int .i64 e2))(a16:r0.get 16=some (.int .i64 (Znz l m.length)))(a17:r0.get 17=some u1)(a18:r0.get 18=some (.str t2))(a19:r0.get 19=some .nilslice):
  Code A.C none A.ta4_1 ⟨r0,153,[]⟩ ⟨H,n,[]⟩ (fun e fr st=>e=.ret∧∃r,fr=⟨r,153,[]⟩∧r.get 6=some (.bool true)∧Zac n st.w=[]∧Keeps H n st.h st.n):=by
 rw[Zah]
 have m6:=hM.le
 have n6:=hM.n6
 have em:(Zgs m).length=m.length:=by simp[Zgs]
 have dl:=Zlw (m:=Zgs m) (l:=l) (k:=m.length)
 by_cases hE:Znz l m.length=0
 ·have hz:=Ygu hE
  simp[A.ta4_1,a16,hE,R.a0,R.a2]
  refine Zab (Zte (hm.rat fun r hr=>(hM.row r hr).2) hd (Yk4 hz) (Ynp hz) hl (by omega)) ?_
  rintro y H2 n2 k2 hy
  have le2:=k2.le
  rw[em]at hy
  simp[]
  refine Za7 (Yp2 (r0:=_) (u:=u) (dv:=dv) (B:=B) (u3:=y) ⟨by simp[R.a0],by simp[R.a2],by simp[R.a4],by simp[R.a7],by simp[R.a8],by simp[R.a9],by simp[R.a10],by simp[R.a11],by simp[R.a12]⟩ (s1.keep k2) sN ⟨s3.keep k2,fun _=>hy,by omega,fun _ r hr=>?_⟩ (by simp[a14]) (by simp[a15]) (by simp[a16,hE]) (by simp[a17]) (by simp[a18]) (by simp)) ?_
  ·have hr2:=Zv1 (m:=Zgs m) (l:=l) (r:=r) (by rw[em];exact hr)
   obtain⟨t,ht,rfl⟩:=Ysv.1 hr2
   obtain⟨b1,b2⟩:=hM.row t ht
   exact⟨by simp[Ze0];omega,Zzf b2⟩
  ·rintro e fr st ⟨rfl,r',rfl,g4,g5,g6⟩
   simp[g4]
   exact⟨Zjq g5 (by omega),k2.trans g6⟩
 ·simp[A.ta4_1,a16,hE]
  refine Za7 (Yp2 (u:=u) (dv:=dv) (B:=B) (u3:=.nilslice) ⟨by simp[R.a0],by simp[R.a2],by simp[R.a4],by simp[R.a7],by simp[R.a8],by simp[R.a9],by simp[R.a10],by simp[R.a11],by simp[R.a12]⟩ s1 sN ⟨s3,fun h=>absurd h hE,by omega,fun h=>absurd h hE⟩ (by simp[a14]) (by simp[a15]) (by simp[a16]) (by simp[a17]) (by simp[a18]) (by simp[a19])) ?_
  rintro e fr st ⟨rfl,r',rfl,g4,g5,g6⟩
  simp[g4,g5]
  exact g6
end Go.Mx
