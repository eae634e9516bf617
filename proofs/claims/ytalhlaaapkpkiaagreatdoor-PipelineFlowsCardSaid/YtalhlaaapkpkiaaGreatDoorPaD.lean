/-strings-/
import Derived.Test.YtalhlaaapkpkiaaGreatDoorNbC
set_option linter.all false
namespace Go.Mx
open Go Go.Proofs
variable {N i:Nat} {h:T O} {rw:Bool} {s:Str}
set_option maxRecDepth 1000000
def A.b184:Zav:=sr [ge 4 (.mov (.const (.str [])))]
 (.seq (sr [mv 7 0,ge 8 (.bin .eql (.prim .str) true (tq 7) (.const (.str []))),mv 9 8,mh 10 1 9,gz 11 9 (.bin .eql (.prim .str) true (tq 10) (.const (.str []))),pt 12 9 11]
 (cd 12
 (sr [mv 13 0,mv 4 13]
 (.ret))
 (.skip)))
 (.seq (sr [mv 14 1,ge 15 (.len 0 (tq 14)),ei 16 15 1,mv 17 16,mg 18 1 17,gy 19 17 (.idxStr (tq 18) (kq 0)),gy 20 17 (.bin .lss (.node []) false (tq 19) (.const (.int .u8 128))),pf 21 17 20]
 (cd 21
 (.seq (.regD [mv 22 0,mv 23 1,ge 24 (.idxStr (tq 23) (kq 0)),c2 25 215 22 24,mv 26 1,ge 27 (.idxStr (tq 26) (kq 0)),c2 28 214 25 27,mv 4 28] [0,0,2,7,0,16,63,127])
 (.ret))
 (.skip)))
 (.seq (sr [mv 30 1,c1 31 216 30,mv 29 31,xt 32 29 0,xt 33 29 1,ge 5 (.alloc (Zoa 0) 285),gn (.store 256 (tq 5) (tq 32)),mv 6 33]
 (sr [mv 34 6]
 (cd 34
 (sr [mv 35 0,c2 36 218 35 5,c2 37 217 36 5,mv 4 37]
 (.ret))
 (.skip))))
 (sr [mv 38 0,mv 39 1,c2 40 220 38 39,mv 41 1,c2 42 219 40 41,mv 4 42]
 (.ret)))))
def A.k184:=@A.kk 184 43 [.tmp 4] A.b184 (by kernel_rfl) rfl
def A.lb216_0:Zav:=.seq (sr [mv 6 4,mv 7 0,ge 8 (.len 0 (tq 7)),bi 9 .lss 6 8]
 (cd 9
 (.skip)
 (.exit 0)))
 (.seq (.block 1 (sr [mv 12 0,mv 13 4,ge 14 (.idxStr (tq 12) (tq 13)),mv 5 14]
 (.seq (sr [mv 15 5,ge 16 (.bin .geq (.node []) false (tq 15) (.const (.int .u8 128)))]
 (cd 16
 (sr [lN 17 256 2,gn (.store 256 (tq 2) (tq 17)),ge 3 (.mov (.const (.bool false)))]
 (.ret))
 (.skip)))
 (.reg [mv 18 5,ge 19 (.iaddrArr 256 1 (tq 2) (tq 18)),gn (.store 1 (tq 19) (.const (.bool true)))]))))
 (.reg [mv 10 4,bc 11 .add 10 1,mv 4 11]))
def A.b216:Zav:=sr [ge 2 (.alloc (Zoa 0) 285),ge 3 (.mov (.const (.bool false)))]
 (.seq (sr [mc 4 0]
 (.block 0 (.loop A.lb216_0)))
 (sr [lN 20 256 2,gn (.store 256 (tq 2) (tq 20)),ge 3 (.mov (.const (.bool true)))]
 (.ret)))
def A.k216:=@A.kk 216 21 [.cell 2 (some 256),.tmp 3] A.b216 (by kernel_rfl) rfl
noncomputable def A.w217:=A.q Tryz.f217
noncomputable def A.lb217_0:=A.ql A.w217 0 []
noncomputable def A.b217:=(fun x0=>A.qb A.w217 [x0]) A.lb217_0
def A.k217:=@A.kk 217 16 [.tmp 4] A.b217 (by kernel_rfl) rfl
noncomputable def A.w218:=A.q Tryz.f218
noncomputable def A.lb218_0:=A.ql A.w218 0 []
noncomputable def A.b218:=(fun x0=>A.qb A.w218 [x0]) A.lb218_0
def A.k218:=@A.kk 218 22 [.tmp 4] A.b218 (by kernel_rfl) rfl
noncomputable def A.b254:=A.q Tryz.f254
def A.k254:=@A.kk 254 10 [.tmp 4] A.b254 (by kernel_rfl) rfl
noncomputable def A.b136:=A.q Tryz.f136
def A.k136:=@A.kk 136 19 [.tmp 2] A.b136 (by kernel_rfl) rfl
def Zyw:Fn A.C 216 [(.str [48,49,50,51,52,53,54,55,56,57])] h N (fun v _ _=>v=.tup [.agg (Zoa 10),.bool true]):=by
 intro w
 rw[Zae,A.k216 (by simp)]
 simp[A.b216]
 refine Zah [(3,19)] (fun e r st=>e=.exit 0∧st.n=N+1∧Zac N st.w=[]∧Keeps h N st.h (N+1)∧st.h.get N=some (.cells (Zoa 10) 285 true)) (fun m r st=>st.n=N+1∧Zac N st.w=[]∧Keeps h N st.h (N+1)∧∃k,m=10-k∧k≤10∧r.get 4=some (.int .i64 k)∧st.h.get N=some (.cells (Zoa k) 285 true)) 10 ?_ ?_ ?_
 ·exact⟨rfl,rfl,(Keeps.refl.set (Ys6 _)).up (by omega),0,by omega,by omega,by simp,by simp⟩
 ·rintro m r ⟨H,n1,W⟩ hr hf ⟨hn,hW,hK,k,rfl,hk,h4,hrow⟩
  simp only at hn hW hK hrow
  subst hn
  rw[Zai]
  by_cases hlt:k<10
  ·obtain⟨c,hc,hcu⟩:=Yhp hlt
   unfold Yq1 at hc
   have a1:¬128≤u8I c:=by omega
   have a2:u8I c<256:=by omega
   have a3:0≤u8I c:=by omega
   have a4:(u8I c).toNat=48+k:=by omega
   have hlt':(k:Int)<10:=by omega
   have hs:=Yh9 hlt
   have q1:=Zdu k
   simp(disch:=first|(simp;done)|omega|(simp only[Zaa,Zab,Ys4];omega)|rfl) [-getElem?_pos,A.lb216_0,hr,hf,h4,hlt',hc,a1,a2,a3,a4,hs,hrow,hW]
   exact⟨_,by omega,hK.set (Ys6 N),k+1,rfl,by omega,by simp,rfl⟩
  ·have:k=10:=by omega
   subst this
   simp[A.lb216_0,hr,hf,h4,hrow,hW]
   exact hK
 ·rintro e r ⟨H,n1,W⟩ hr ⟨rfl,hn,hW,hK,hrow⟩
  simp only at hn hW hK hrow
  subst hn
  have q1:=Zdu 10
  simp[hr,Ret,hW,hrow,Zal,slc,Zdu,Zxf]
  exact hK.set (Ys6 N)
def Zn0{c:UInt8}{w:List Nat}{e:TypeId}(hr:h.get i=some (.cells (Zoa 10) e rw)):A.C.call (.func 254 [] []) [.ptr i 0,.int .u8 (u8I c)] ⟨h,N,w⟩=some (.bool (Zj6 c),⟨h,N,w⟩):=by
 apply Call.eq
 rw[Zae,A.k254 (by simp)]
 have hu:=Yah c
 have e2:(Zoa 10)[(u8I c).toNat]?=some (.bool (Zj6 c)):=by
  rw[Zh2 (by omega),Zsn]
  congr 2
  rw[decide_eq_decide];omega
 simp(disch:=omega) [A.b254,hr,hu,e2]
def Yhr{k:Nat}{c:UInt8}(hl:s.length=k+1)(hc:s[k]?=some c):Zb7 s=(Zb7 (s.take k)&&Zj6 c):=by
 unfold Zb7
 have:s=s.take k++[c]:=by
  conv=>lhs;rw[←Yva k s]
  rw[Zap hc,Yui (by omega)]
 conv=>lhs;rw[this]
 simp
def Ydv{s:Str}{c:UInt8}(hc:s[0]?=some c):Zb7 s=(Zj6 c&&Zb7 (s.drop 1)):=by
 cases s with
 |nil=>simp at hc
 |cons d s=>simp at hc;subst hc;rfl
def Yhq{k:Nat}{c:UInt8}(hc:s[k]?=some c)(hd:Zj6 c=false):Zb7 s=false:=by
 unfold Zb7
 rw[List.all_eq_false]
 exact⟨c,Ys9 hc,by simp[hd]⟩
def Yes(s:Str)(v:V):Prop:=∃t:Str,v=.str t∧t.length≤s.length∧Zb7 t=Zb7 s∧(Zb7 s=true→t=[])
def Zq4{e:TypeId}(hr0:h.get i=some (.cells (Zoa 10) e rw))(hl:s.length<4611686018427387904):Fn A.C 218 [.str s,.ptr i 0] h N (fun v _ _=>Yes s v):=by
 intro w
 rw[Zae,A.k218 (by simp)]
 simp[A.b218]
 refine Zah [(0,0),(5,20)] (fun e r st=>e=.exit 0∧st=⟨h,N,[]⟩∧∃t:Str,r.get 0=some (.str t)∧t.length≤s.length∧Zb7 t=Zb7 s∧(Zb7 s=true→t=[])) (fun m r st=>st=⟨h,N,[]⟩∧∃t:Str,m=t.length∧t.length≤s.length∧r.get 0=some (.str t)∧Zb7 t=Zb7 s) s.length ?_ ?_ ?_
 ·exact⟨rfl,s,rfl,by omega,by simp,rfl⟩
 ·rintro m r _ hr hf ⟨rfl,t,rfl,hle,h0,ht⟩
  rw[Zai]
  by_cases hz:t.length=0
  ·have:t=[]:=Ytl hz
   subst this
   simp[A.lb218_0,hr,hf,h0,ht]
  ·obtain⟨k,hk⟩:∃k,t.length=k+1:=⟨t.length-1,by omega⟩
   obtain⟨c,hc⟩:=Zag (l:=t) (k:=k) (by omega)
   have hk':(t.length:Int)=k+1:=by omega
   have hk0:(0:Int)<(k:Int)+1:=by omega
   have hk1:(k:Int)+1-1=k:=by omega
   have hcon:=fun w=>Zn0 (c:=c) (N:=N) (w:=w) hr0
   by_cases hd:Zj6 c=true
   ·simp(disch:=first|(simp;done)|omega|(simp only[Zaa,Zab,Ys4];omega)|rfl) [-getElem?_pos,A.lb218_0,hr,hf,h0,hk',hk0,hk1,hc,hcon,hd,evOpt]
    exact⟨k,by omega,t.take k,by simp;omega,by simp;omega,rfl,by rw[←ht,Yhr hk hc,hd];simp⟩
   ·have hd:Zj6 c=false:=by simpa using hd
    simp(disch:=first|(simp;done)|omega|(simp only[Zaa,Zab,Ys4];omega)|rfl) [-getElem?_pos,A.lb218_0,hr,hf,h0,hk',hk0,hk1,hc,hcon,hd,evOpt]
    have hq:=Yhq hc hd
    rw[ht]at hq
    simp[hq,hle]
    rw[ht];exact hq
 ·rintro _ r _ hr ⟨rfl,rfl,t,h0,hle,ht,he⟩
  simp[hr,h0,Ret,Yes]
  exact⟨Keeps.refl,hle,ht,he⟩
def Ztb{e:TypeId}(hr0:h.get i=some (.cells (Zoa 10) e rw))(hl:s.length<4611686018427387904):Fn A.C 217 [.str s,.ptr i 0] h N (fun v _ _=>Yes s v):=by
 intro w
 rw[Zae,A.k217 (by simp)]
 simp[A.b217]
 refine Zah [(0,0),(5,14)] (fun e r st=>e=.exit 0∧st=⟨h,N,[]⟩∧∃t:Str,r.get 0=some (.str t)∧t.length≤s.length∧Zb7 t=Zb7 s∧(Zb7 s=true→t=[])) (fun m r st=>st=⟨h,N,[]⟩∧∃t:Str,m=t.length∧t.length≤s.length∧r.get 0=some (.str t)∧Zb7 t=Zb7 s) s.length ?_ ?_ ?_
 ·exact⟨rfl,s,rfl,by omega,by simp,rfl⟩
 ·rintro m r _ hr hf ⟨rfl,t,rfl,hle,h0,ht⟩
  rw[Zai]
  by_cases hz:t.length=0
  ·have:t=[]:=Ytl hz
   subst this
   simp[A.lb217_0,hr,hf,h0,ht]
  ·cases t with
   |nil=>simp at hz
   |cons c t=>
    have hk0:(0:Int)<(t.length:Int)+1:=by omega
    have hcon:=fun w=>Zn0 (c:=c) (N:=N) (w:=w) hr0
    have hdf:=Ydv (s:=c::t) (c:=c) rfl
    by_cases hd:Zj6 c=true
    ·simp(disch:=first|(simp;done)|omega|(simp only[Zaa,Zab,Ys4];omega)|rfl) [A.lb217_0,hr,hf,h0,hk0,hcon,hd,evOpt]
     simp only[Ys4]at hle
     rw[hd]at hdf
     exact⟨t.length,by omega,t,rfl,by omega,rfl,by rw[←ht,hdf];rfl⟩
    ·have hd:Zj6 c=false:=by simpa using hd
     simp[A.lb217_0,hr,hf,h0,hk0,hcon,hd,evOpt]
     rw[hd]at hdf
     rw[ht]at hdf
     simp only[Ys4]at hle
     simp[hdf,hle]
     rw[ht,hdf];rfl
 ·rintro _ r _ hr ⟨rfl,rfl,t,h0,hle,ht,he⟩
  simp[hr,h0,Ret,Yes]
  exact⟨Keeps.refl,hle,ht,he⟩
def Zxo(hl:s.length<4611686018427387904):Fn A.C 184 [.str s,(.str [48,49,50,51,52,53,54,55,56,57])] h N (fun v _ _=>Yes s v):=by
 intro w
 rw[Zae,A.k184 (by simp)]
 by_cases he:s=[]
 ·subst he
  simp[A.b184,Zad,Ret]
  exact⟨Keeps.refl,[],rfl,Ys6 _,rfl,fun _=>rfl⟩
 ·have e1:(s==[])=false:=by simp[he]
  have e2:s.isEmpty=false:=by simp[he]
  simp[A.b184,Zad,e1,e2]
  refine Zaf Zyw ?_
  rintro v h1 n1 k1 rfl
  have q1:=Zdu 10
  simp[]
  refine Zaf (Zq4 (e:=285) (rw:=true) ?_ hl) ?_
  ·simp
  rintro v h2 n2 k2 ⟨t,rfl,hle,ht,hte⟩
  have hN1:h2.get n1=some (.cells (Zoa 10) 285 true):=by
   rw[k2.get _ (by omega)]
   simp
  simp[]
  refine Zaf (Ztb (e:=285) (rw:=true) hN1 (by omega)) ?_
  rintro v h3 n3 k3 ⟨u,rfl,hle2,hu,hue⟩
  have kk:Keeps h N h3 n3:=(((k1.set k1.le).set k1.le).up (Yvz n1)).trans (k2.trans k3)
  simp[Ret]
  exact⟨k1.le,kk,u,rfl,by omega,by rw[hu,ht],fun h=>hue (by rw[ht];exact h)⟩
def Zhb{s:Str}{h:T O}{N:Nat}(hl:s.length<4611686018427387904):Fn A.C 136 [.str s] h N (fun v _ _=>v=.bool (Zcu s)):=by
 intro w
 rw[Zae,A.k136 (by simp)]
 cases s with
 |nil=>simp[A.b136,Ret,Zcu];exact Keeps.refl
 |cons c s=>
  simp[A.b136]
  refine Zaf (Zxo hl) ?_
  rintro v h1 n1 k1 ⟨t,rfl,hle,ht,hte⟩
  have hd:Zcu (c::s)=(Zb7 (c::s)&&(decide (u8I c≠48)||decide (s=[]))):=by
   have:decide (c.toNat≠48)=decide (u8I c≠48):=by unfold u8I;rw[decide_eq_decide];omega
   simp only[Zcu,this];rfl
  by_cases ha:Zb7 (c::s)=true
  ·have:=hte ha
   subst this
   by_cases h0:u8I c=48
   ·have hc:c=48:=by unfold u8I at h0;exact UInt8.toNat_inj.1 (by show c.toNat=48;omega)
    subst hc
    simp[Zad,hd,ha,h0,Ret,k1]
    cases s<;>rfl
   ·simp[Zad,hd,ha,h0,Ret,k1]
  ·have ha:Zb7 (c::s)=false:=by simpa using ha
   rw[ha]at ht
   have e1:(t==[])=false:=by
    cases t with
    |nil=>cases ht
    |cons=>rfl
   have e2:t.isEmpty=false:=by
    cases t with
    |nil=>cases ht
    |cons=>rfl
   simp[Zad,hd,ha,e1,e2,Ret,k1]
noncomputable def A.w223:=A.q Tryz.f223
noncomputable def A.lb223_0:=A.ql A.w223 0 []
noncomputable def A.b223:=(fun x0=>A.qb A.w223 [x0]) A.lb223_0
def A.k223:=@A.kk 223 77 [.tmp 2,.tmp 3] A.b223 (by kernel_rfl) rfl
noncomputable def A.b190:=A.q Tryz.f190
def A.k190:=@A.kk 190 18 [.tmp 2,.tmp 3] A.b190 (by kernel_rfl) rfl
def Yg9{s:Str}{h:T O}{N:Nat}(hd:Zb7 s=true)(h1:1≤s.length)(h2:s.length≤18):Fn A.C 223 [.str s] h N (fun v _ _=>v=.tup [.int .i64 (numV s:Nat),.niliface]):=by
 intro w
 obtain⟨c,hc⟩:=Zag (l:=s) (k:=0) (by omega)
 have hcd:=Zkh hd hc
 have a1:¬u8I c=45:=by omega
 have a2:¬u8I c=43:=by omega
 have a3:(0:Int)<(s.length:Int):=by omega
 have a5:(s.length:Int)<19:=by omega
 have h10:0<s.length:=by omega
 have hne:s≠[]:=fun h=>by rw[h]at h1;simp at h1
 have hc0:s.head?=some c:=by cases s with
  |nil=>simp at hc
  |cons=>simpa using hc
 rw[Zae,A.k223 (by simp)]
 by_cases a4:(s.length:Int)<10
 all_goals
  simp(disch:=first|(simp;done)|omega|(simp only[Zaa,Zab,Ys4];omega)|rfl) [-getElem?_pos,A.b223,a3,a4,a5,hne,h10,hc0,hc,Zad,a1,a2]
  refine Zah [(2,3),(6,6),(8,8),(49,63)] (fun e r st=>st.n=N+1∧Zac N st.w=[]∧Keeps h N st.h (N+1)∧e=.exit 0∧r.get 6=some (.int .i64 (numV s:Nat))) (fun m r st=>st.n=N+1∧Zac N st.w=[]∧Keeps h N st.h (N+1)∧st.h.get N=some (.cells (Zn3 s) 5 true)∧∃k,m=s.length-k∧k≤s.length∧r.get 49=some (.int .i64 k)∧r.get 6=some (.int .i64 (numV (s.take k):Nat))) s.length ?_ ?_ ?_
  ·exact⟨rfl,rfl,(Keeps.refl.set (Ys6 _)).up (by omega),by simp,0,by omega,by omega,by simp,by simp[numV]⟩
  ·rintro m r ⟨H,n1,W⟩ hr hf ⟨hn,hW,hK,hrow,k,rfl,hk,h49,h6⟩
   simp only at hn hW hK hrow
   subst hn
   rw[Zai]
   by_cases hlt:k<s.length
   ·obtain⟨c,hc⟩:=Zag hlt
    have hd1:=Zkh hd hc
    have hb:=Zzz hc
    have hv:=Znh hc
    have hb1:=Zqa hd k hk
    have hb2:=Zv9 (a:=k) (b:=17) (by omega)
    have b1:¬9<u8I c-48:=by omega
    have b2:Zaq .u8 (u8I c-48)=u8I c-48:=Zd7 (by omega) (by omega)
    have b3:((numV (s.take (k+1)):Nat):Int)=(numV (s.take k):Nat)*10+(u8I c-48):=by
     rw[hv];unfold u8I at*;omega
    have b4:((numV (s.take k):Nat):Int)<100000000000000000:=by
     have:(10:Nat)^17=100000000000000000:=by decide
     omega
    generalize hy:numV (s.take (k+1))=y at*
    generalize numV (s.take k)=x at*
    simp(disch:=first|(simp;done)|omega|(simp only[Zaa,Zab,Ys4];omega)|rfl) [A.lb223_0,hr,hf,h49,h6,hlt,hrow,hb,b1,b2,hW]
    exact⟨_,by omega,hK,k+1,rfl,by omega,by simp,by rw[hy,b3]⟩
   ·have:k=s.length:=by omega
    subst this
    simp[A.lb223_0,hr,hf,h49,hW]
    rw[Yuu]at h6
    exact⟨hK,h6⟩
  ·rintro _ r ⟨H,n1,W⟩ hr ⟨hn,hW,hK,rfl,h6⟩
   simp only at hn hW hK
   subst hn
   simp[hr,Ret,hW,hK,h6,hc0,hc,Zad,a1]
def Ymu{s:Str}{h:T O}{N:Nat}(hd:Zb7 s=true)(h1:1≤s.length)(h2:s.length≤18):Fn A.C 190 [.str s] h N (fun v _ _=>v=.tup [.int .i64 (numV s:Nat),.niliface]):=by
 intro w
 rw[Zae,A.k190 (by simp)]
 simp[A.b190]
 refine Zaf (Yg9 hd h1 h2) ?_
 rintro v h1 n1 k1 rfl
 simp[Zad,Ret,k1]
variable {M N a k o:Nat} {h:T O} {s:Str}
set_option maxHeartbeats 2000000
noncomputable def A.w192:=A.q Tryz.f192
noncomputable def A.lb192_0:=A.ql A.w192 0 []
noncomputable def A.b192:=(fun x0=>A.qb A.w192 [x0]) A.lb192_0
def A.k192:=@A.kk 192 23 [.cell 4 (some 2)] A.b192 (by kernel_rfl) rfl
noncomputable def A.w140:=A.q Tryz.f140
noncomputable def A.lb140_0:=A.ql A.w140 0 []
noncomputable def A.b140:=(fun x0=>A.qb A.w140 [x0]) A.lb140_0
def A.k140:=@A.kk 140 41 [.cell 2 (some 2)] A.b140 (by kernel_rfl) rfl
def Yf1(h:o*a^k=M)(ha:1≤a)(ho:1≤o)(hk:1≤k):o*a≤M∧a≤M∧o≤M:=by
 have h1:a^1≤a^k:=Yt6 ha hk
 rw[Nat.pow_one]at h1
 have h2:o*a≤o*a^k:=Ytp o h1
 have h3:1*a≤o*a:=Yts a ho
 have h4:o*1≤o*a:=Ytp o ha
 omega
def Ynn(h:o*a^k=M)(ha:1≤a)(ho:1≤o)(hk:1<k):a*a≤M:=by
 have h1:a^2≤a^k:=Yt6 ha hk
 have h2:1*a^k≤o*a^k:=Yts _ ho
 have h3:a^2=a*a:=by rw[Nat.pow_two]
 omega
def Yno(h:o*a^k=M)(hk:k%2=1):(o*a)*(a*a)^(k/2)=M:=by
 rw[←h,←Nat.pow_two,←Nat.pow_mul,Ywm]
 congr 1
 conv=>rhs;rw[show k=2*(k/2)+1 by omega,Ytw]
 rw[Yt3]
def Ykt(h:o*a^k=M)(hk:k%2=0):o*(a*a)^(k/2)=M:=by
 rw[←h,←Nat.pow_two,←Nat.pow_mul,show 2*(k/2)=k by omega]
structure PwJ (h:T O) (N q M m:Nat) (r:T V) (st:St):Prop where
 w:Zac N st.w=[]
 keep:Keeps h N st.h st.n
 q1:N+2≤q
 q2:q<st.n
 row:st.h.get (N+1)=some (.cells [.int .i64 0,.nilslice] 173 true)
 r1:r.get 1=some (.int .i64 m)
 lm:m<4611686018427387904
 ex:∃(n1 n2:Int) (u1 u2:V) (a o:Nat),st.h.get N=some (.cells [.int .i64 n1,u1] 173 true)∧st.h.get q=some (.cells [.int .i64 n2,u2] 173 true)∧In st.h st.n (.agg [.int .i64 n1,u1]) a∧In st.h st.n (.agg [.int .i64 n2,u2]) o∧o*a^m=M∧1≤a∧1≤o∧wl a<10000000000
def Yf3{q:Nat}{r0:T V}(hM:wl M<10000000000)(a2:r0.get 2=some (.ptr N 0))(a5:r0.get 5=some (.ptr q 0)):
  ∀x r st,(∀t,inD [(1,1),(7,21)] t=false→r.get t=r0.get t)→Fx [(1,1),(7,21)] r0 23 ⟨r,23,[]⟩→PwJ h N q M x r st→Code A.C none A.lb192_0 ⟨r,23,[]⟩ st (Rd [(1,1),(7,21)] r0 23 (PwJ h N q M) x (fun e r st=>e=.exit 0∧PwJ h N q M 0 r st)):=by
 rintro m r ⟨H,n0,W⟩ hr hf ⟨hW,hK,hq1,hq2,hrow,r1,lm,n1,n2,u1,u2,a,o,g0,g1,ha,ho,hM2,a1,o1,la⟩
 simp only at hW hK hq2 hrow g0 g1 ha ho
 rw[Zai]
 have b1:=Yib (k:=m) (by omega)
 have b2:=Yfj (k:=m)
 by_cases h0:m=0
 ·subst h0
  simp[A.lb192_0,hr,hf,r1]
  exact⟨hW,hK,hq1,hq2,hrow,by simp[r1],by omega,n1,n2,u1,u2,a,o,g0,g1,ha,ho,hM2,a1,o1,la⟩
 ·have c1:(0:Int)<(m:Int):=by omega
  have c2:0<m:=by omega
  obtain⟨t1,t2,t3⟩:=Yf1 hM2 a1 o1 c2
  have lo:wl o<10000000000:=Yt7 (Zs8 (a:=(o:Int)) (b:=(M:Int)) (by omega)) hM
  have loa:wl ((o*a:Nat):Int)<10000000000:=Yt7 (Zs8 (a:=((o*a:Nat):Int)) (b:=(M:Int)) (by omega)) hM
  obtain⟨_,_,e5,o5⟩:=ha.cells
  simp only[V.agg.injEq,Ytq,V.int.injEq,true_and,and_true]at e5
  obtain⟨rfl,rfl⟩:=e5
  unfold V.one at o5
  have wok:¬q<N:=by omega
  by_cases hp:m%2=1
  ·have p1:(m:Int)%2=1:=by omega
   simp[A.lb192_0,hr,hf,r1,a2,a5,c1,c2,b1,b2,hp,p1,Zad,g0,g1,Zal,slc]
   refine Zaf (Zg7 ho ha (by omega) (by omega)) ?_
   rintro v h3 n3 k3 hv
   rw[←Ywv]at hv
   obtain⟨n6,u6,rfl,o6⟩:=hv.cells
   unfold V.one at o6
   have kle3:=k3.le
   have f0:=(k3.get N (by omega)).trans g0
   have f1:=(k3.get q (by omega)).trans g1
   have f2:=(k3.get (N+1) (by omega)).trans hrow
   have d1:¬N=q:=by omega
   have d2:¬N+1=q:=by omega
   have d3:¬q=N:=by omega
   have ha3:=(ha.keep k3).setNU (c1:=[.int .i64 n6,u6]) (e1:=173) (w1:=true) f1 ho.nu rfl
   have hv3:=hv.setNU (c1:=[.int .i64 n6,u6]) (e1:=173) (w1:=true) f1 ho.nu rfl
   have f0':(h3.set q (.cells [.int .i64 n6,u6] 173 true)).get N=some (.cells [.int .i64 n1,u1] 173 true):=by rw[T.get_set,Ys5 d1];exact f0
   have f1':(h3.set q (.cells [.int .i64 n6,u6] 173 true)).get q=some (.cells [.int .i64 n6,u6] 173 true):=by simp
   have f2':(h3.set q (.cells [.int .i64 n6,u6] 173 true)).get (N+1)=some (.cells [.int .i64 0,.nilslice] 173 true):=by rw[T.get_set,Ys5 d2];exact f2
   have kH:=(hK.trans k3).set (i:=q) (o:=.cells [.int .i64 n6,u6] 173 true) (by omega)
   by_cases hp1:1<m
   ·have p2:(1:Int)<(m:Int):=by omega
    have t4:=Ynn hM2 a1 o1 hp1
    have laa:wl ((a*a:Nat):Int)<10000000000:=Yt7 (Zs8 (a:=((a*a:Nat):Int)) (b:=(M:Int)) (by omega)) hM
    generalize hH:h3.set q (.cells [.int .i64 n6,u6] 173 true)=H3 at*
    simp[r1,hr,a2,a5,f0,f1,d1,d3,o6,splice,Zak,hp1,p2,hH,f0',f1',Zal,slc]
    refine Zaf (Zg7 ha3 ha3 (by omega) (by omega)) ?_
    rintro v h4 n4 k4 hv4
    rw[←Ywv]at hv4
    obtain⟨n7,u7,rfl,o7⟩:=hv4.cells
    unfold V.one at o7
    have kle4:=k4.le
    have e0:=(k4.get N (by omega)).trans f0'
    have e1:=(k4.get q (by omega)).trans f1'
    have e2:=(k4.get (N+1) (by omega)).trans f2'
    simp[r1,hr,hf,a2,e0,o7,splice,Zak,b2]
    refine⟨m/2,by omega,by simp[Zac,hW,wok],(kH.trans k4).set (Ys6 _),hq1,by show q<n4;omega,by simp[e2],by simp,by omega,n7,n6,u7,u6,a*a,o*a,by simp,by simp[d3,e1],hv4.setNU e0 ha.nu rfl,(hv3.keep k4).setNU e0 ha.nu rfl,Yno hM2 hp,Ywh a1 a1,Ywh o1 a1,laa⟩
   ·have p2:¬(1:Int)<(m:Int):=by omega
    have m0:m/2=0:=by omega
    have m1':m=1:=by omega
    simp[r1,hr,hf,a2,a5,f0,f1,d1,d3,o6,splice,Zak,hp1,p2,b2]
    refine⟨m/2,by omega,by simp[Zac,hW,wok],kH,hq1,by show q<n3;omega,f2',by simp,by omega,n1,n6,u1,u6,a,o*a,f0',f1',ha3,hv3,by rw[m0,←hM2,m1'];simp,a1,Ywh o1 a1,la⟩
  ·have p1:¬(m:Int)%2=1:=by omega
   have p0:m%2=0:=by omega
   have p2:(1:Int)<(m:Int):=by omega
   have hp1:1<m:=by omega
   have t4:=Ynn hM2 a1 o1 hp1
   have laa:wl ((a*a:Nat):Int)<10000000000:=Yt7 (Zs8 (a:=((a*a:Nat):Int)) (b:=(M:Int)) (by omega)) hM
   simp[A.lb192_0,hr,hf,r1,a2,a5,c1,c2,b1,b2,hp,p1,p2,hp1,Zad,g0,g1,Zal,slc]
   refine Zaf (Zg7 ha ha (by omega) (by omega)) ?_
   rintro v h3 n3 k3 hv
   rw[←Ywv]at hv
   obtain⟨n6,u6,rfl,o6⟩:=hv.cells
   unfold V.one at o6
   have kle3:=k3.le
   have f0:=(k3.get N (by omega)).trans g0
   have f1:=(k3.get q (by omega)).trans g1
   have f2:=(k3.get (N+1) (by omega)).trans hrow
   have d3:¬q=N:=by omega
   simp[r1,hr,hf,a2,f0,o6,splice,Zak,b2]
   refine⟨m/2,by omega,by simp[Zac,hW],(hK.trans k3).set (Ys6 _),hq1,by show q<n3;omega,by simp[f2],by simp,by omega,n6,n2,u6,u2,a*a,o,by simp,by simp[d3,f1],hv.setNU f0 ha.nu rfl,(ho.keep k3).setNU f0 ha.nu rfl,Ykt hM2 p0,Ywh a1 a1,o1,laa⟩
def Ynp{x:V}(hx:In h N x a)(ha:1≤a)(hk:k<4611686018427387904)(la:wl a<10000000000)(hM:wl ((a^k:Nat):Int)<10000000000):Fn A.C 192 [x,.int .i64 k] h N (fun v h' n'=>In h' n' v ((a^k:Nat):Int)):=by
 intro w
 rw[Zae,A.k192 (by simp)]
 obtain⟨n1,u1,rfl,o1⟩:=hx.cells
 have kk:=kset (kset (Keeps.refl (h:=h) (n:=N)) (.cells [.int .i64 n1,u1] 173 true)) (.cells [.int .i64 0,.nilslice] 173 true)
 have hx':=hx.keep kk
 unfold V.one at o1
 simp[A.b192,Zal,slc,splice,o1]
 refine Zaf Zt9 ?_
 rintro _ h1 m1 k1 rfl
 have kle1:=k1.le
 have g0:=k1.get N (by omega)
 have g1:=k1.get (N+1) (by omega)
 simp at g0 g1
 have hx1:=hx'.keep k1
 have d1:¬N=m1:=by omega
 have d2:¬N+1=m1:=by omega
 have wok:¬m1<N:=by omega
 have kE:=(kset (Keeps.refl (h:=h1) (n:=m1)) (.cells [.int .i64 0,.nilslice] 173 true)).set (i:=m1) (o:=.cells [.int .i64 1,.nilslice] 173 true) (Ys6 _)
 simp[Zal,slc,splice,Zak]
 refine Zah [(1,1),(7,21)] _ (PwJ h N m1 (a^k)) k ?_ (Yf3 hM (by simp) (by simp)) ?_
 ·refine⟨by simp[Zac,wok],((kk.trans k1).trans kE),by omega,by show m1<m1+1;omega,by simp[d2,g1],by simp,hk,n1,1,u1,.nilslice,a,1,by simp[d1,g0],by simp,hx1.keep kE,In.small (by omega) (by omega),by simp,ha,by omega,la⟩
 rintro e r ⟨h5,m5,W5⟩ hr ⟨rfl,hW,hK,hq1,hq2,hrow,r1,lm,n5,n6,u5,u6,a',o,g5,g6,ha5,ho5,hM2,a1,o1',la'⟩
 simp only at hW hK hq2 hrow g5 g6 ha5 ho5
 obtain⟨_,_,e5,o5⟩:=ho5.cells
 simp only[V.agg.injEq,Ytq,V.int.injEq,true_and,and_true]at e5
 obtain⟨rfl,rfl⟩:=e5
 unfold V.one at o5
 have he:(o:Int)=((a^k:Nat):Int):=by rw[←hM2];simp
 rw[he]at ho5
 have wok:¬N+1<N:=by omega
 simp[hr,g6,hrow,Zal,slc,splice,Zak,o5,Ret,hW,wok]
 exact⟨hK.set (by omega),ho5.setNU hrow (by simp) rfl⟩
def Ybx(x:Str):∀(y:Str),numV (x++y)=numV x*10^y.length+numV y:=by
 intro y
 generalize hn:y.length=n
 induction n generalizing y with
 |zero=>
  have:y=[]:=Ytl hn
  subst this;simp[numV]
 |succ n ih=>
  obtain⟨u,d,rfl⟩:∃u d,y=u++[d]:=⟨y.dropLast,y.getLast (by rintro rfl;simp at hn),(Ywf _).symm⟩
  simp at hn
  rw[←Yum,Zg5,Zg5,ih u hn,Ytw]
  grind
def Ze4{n:Nat}(h:n<10^k):wl n≤k:=by
 unfold wl
 apply Zfw
 have:(10:Nat)^k≤B^k:=Yv4 (by decide) k
 simp;omega
def Zpm(h:Zb7 s=true)(k:Nat):Zb7 (s.take k)=true:=by
 unfold Zb7 at*
 rw[Yt8]at*
 exact fun x hx=>h x (Yuk hx)
def Zz2(h:Zb7 s=true)(k:Nat):Zb7 (s.drop k)=true:=by
 unfold Zb7 at*
 rw[Yt8]at*
 exact fun x hx=>h x (Ywp hx)
structure RdI (h:T O) (N:Nat) (s:Str) (m:Nat) (r:T V) (st:St):Prop where
 w:Zac N st.w=[]
 keep:Keeps h N st.h st.n
 le:N+2≤st.n
 row:st.h.get N=some (.cells [.int .i64 0,.nilslice] 173 true)
 ex:∃(cur:Str) (p:Nat) (n1:Int) (u1:V),r.get 0=some (.str cur)∧cur.length=m∧m≤s.length∧Zb7 cur=true∧st.h.get (N+1)=some (.cells [.int .i64 n1,u1] 173 true)∧In st.h st.n (.agg [.int .i64 n1,u1]) p∧numV s=p*10^m+numV cur
def Ybg{r0:T V}(hd:Zb7 s=true)(hl:s.length≤100000)(a4:r0.get 4=some (.ptr (N+1) 0)):
  ∀x r st,(∀t,inD [(0,0),(5,7),(13,36)] t=false→r.get t=r0.get t)→Fx [(0,0),(5,7),(13,36)] r0 41 ⟨r,41,[]⟩→RdI h N s x r st→Code A.C none A.lb140_0 ⟨r,41,[]⟩ st (Rd [(0,0),(5,7),(13,36)] r0 41 (RdI h N s) x (fun e r st=>e=.exit 0∧RdI h N s 0 r st)):=by
 rintro m r ⟨H,n0,W⟩ hr hf ⟨hW,hK,hle,hrow,cur,p,n1,u1,hr0,hcl,hms,hcd,g1,hp,hv⟩
 simp only at hW hK hle hrow g1 hp
 rw[Zai]
 by_cases h0:m=0
 ·subst h0
  have:cur=[]:=Ytl hcl
  subst this
  simp[A.lb140_0,hr,hf,hr0]
  exact⟨hW,hK,hle,hrow,[],p,n1,u1,by simp[hr0],rfl,by omega,rfl,g1,hp,hv⟩
 ·obtain⟨n,hn⟩:∃n,n=min 18 m:=⟨_,rfl⟩
  have c1:0<cur.length:=by omega
  have c2:(0:Int)<(cur.length:Int):=by omega
  have c3:(if (cur.length:Int)<18 then (cur.length:Int) else 18)=(n:Int):=by split<;>omega
  have c4:(n:Int)≤(cur.length:Int):=by omega
  have hpv:p≤numV s:=by
   rw[hv]
   have:p*1≤p*10^m:=Ytp p (Ywa (by decide))
   omega
  have hsl:=Zea hd
  have lp:wl (p:Int)≤100000:=Yu5 (Ze4 (Yt7 hpv hsl)) hl
  have hat:=fun (h:T O) (N:Nat)=>Ymu (s:=cur.take n) (h:=h) (N:=N) (Zpm hcd n) (by rw[Yth];omega) (by rw[Yth];omega)
  have l10:wl ((10:Nat):Int)<10000000000:=by decide+kernel
  have lpw:wl ((10^n:Nat):Int)≤19:=Ze4 (Nat.pow_lt_pow_right (by decide) (by omega))
  have hnv:=Zea (Zpm hcd n)
  have htl:(cur.take n).length=n:=by rw[Yth];omega
  rw[htl]at hnv
  have h18:(10:Nat)^n≤10^18:=Yt6 (by decide) (by omega)
  have e18:(10:Nat)^18=1000000000000000000:=by decide
  have lnv:wl ((numV (cur.take n):Nat):Int)≤18:=Yu5 (Ze4 hnv) (by omega)
  simp[A.lb140_0,hr,hf,hr0,c1,c2,Zlr,Ygr,Zyu,c3,c4,evOpt]
  refine Zaf (hat _ _) ?_
  rintro _ h1 m1 k1 rfl
  have kle1:=k1.le
  have f1:=(k1.get (N+1) (by omega)).trans g1
  simp[a4,hr,f1,Zal,slc]
  refine Zaf Zt9 ?_
  rintro _ h2 m2 k2 rfl
  have kle2:=k2.le
  simp[]
  refine Zaf (Ynp (In.small (z:=(10:Nat)) (by omega) (by omega)) (by omega) (by omega) l10 (by omega)) ?_
  rintro vp h3 m3 k3 hvp
  have kle3:=k3.le
  simp[]
  refine Zaf (Zg7 (((hp.keep k1).keep k2).keep k3) hvp (by omega) (by omega)) ?_
  rintro vm h4 m4 k4 hvm
  have kle4:=k4.le
  have lm:=Zjb (p:Int) ((10^n:Nat):Int)
  simp[]
  refine Zaf Zt9 ?_
  rintro _ h5 m5 k5 rfl
  have kle5:=k5.le
  simp[]
  refine Zaf (Zs3 (hvm.keep k5) (In.small (z:=((numV (cur.take n):Nat):Int)) (by omega) (by omega)) (by omega) (by omega)) ?_
  rintro va h6 m6 k6 hva
  have kle6:=k6.le
  have k26:=(((k2.trans k3).trans k4).trans k5).trans k6
  have e1:=(k26.get (N+1) (by omega)).trans f1
  have e2:=(k26.get N (by omega)).trans ((k1.get N (by omega)).trans hrow)
  obtain⟨n6,u6,rfl,o6⟩:=hva.cells
  unfold V.one at o6
  have z1:N+1<m1:=by omega
  have z2:N+1<m6:=by omega
  have z3:¬N+1<N:=by omega
  have z4:N+1<m5:=by omega
  simp[hr,hf,a4,hr0,e1,o6,z1,z2,z4,splice,Zak,evOpt,c4,Zan.chk]
  have hpe:(p:Int)*((10^n:Nat):Int)+((numV (cur.take n):Nat):Int)=((p*10^n+numV (cur.take n):Nat):Int):=by simp
  rw[hpe]at hva
  refine⟨m-n,by omega,by simp[Zac,hW,z3],((hK.trans k1).trans k26).set (by omega),by show N+2≤m6;omega,by simp[e2],cur.drop n,p*10^n+numV (cur.take n),n6,u6,by simp,by rw[Yu6];omega,by omega,Zz2 hcd n,by simp,hva.setNU e1 hp.nu rfl,?_⟩
  have h1:=Ybx (cur.take n) (cur.drop n)
  rw[Yva,Yu6,hcl]at h1
  rw[hv,h1,Yt5,Ywm,←Yuj,show n+(m-n)=m by omega]
  omega
def Ybh{s:Str}{h:T O}{N:Nat}(hd:Zb7 (Zao s)=true)(hl:(Zao s).length≤100000):Fn A.C 140 [.str s] h N (fun v h' n'=>In h' n' v (if negS s=true then -(numV (Zao s):Int) else (numV (Zao s):Int))):=by
 intro w
 rw[Zae,A.k140 (by simp)]
 simp[A.b140,Zsa,Zji,Zal,slc,splice]
 refine Zah [(0,0),(5,7),(13,36)] _ (RdI h N (Zao s)) (Zao s).length ?_ (Ybg hd hl (by simp)) ?_
 ·have kk:=(kset (kset (Keeps.refl (h:=h) (n:=N)) (.cells [.int .i64 0,.nilslice] 173 true)) (.cells [.int .i64 0,.nilslice] 173 true)).set (i:=N+1) (o:=.cells [.int .i64 0,.nilslice] 173 true) (by omega)
  exact⟨by simp[Zac],kk,Ys6 _,by simp,Zao s,0,0,.nilslice,by simp,rfl,Ys6 _,hd,by simp,In.small (by omega) (by omega),by simp⟩
 rintro e r ⟨h5,m5,W5⟩ hr ⟨rfl,hW,hK,hle,hrow,cur,p,n1,u1,hr0,hcl,hms,hcd,g1,hp,hv⟩
 simp only at hW hK hle hrow g1 hp
 have:cur=[]:=Ytl hcl
 subst this
 have hv:numV (Zao s)=p:=by rw[hv];simp[numV]
 have lp:wl (p:Int)≤100000:=by rw[←hv];exact Yu5 (Ze4 (Zea hd)) hl
 obtain⟨_,_,e5,o5⟩:=hp.cells
 simp only[V.agg.injEq,Ytq,V.int.injEq,true_and,and_true]at e5
 obtain⟨rfl,rfl⟩:=e5
 unfold V.one at o5
 have wok:¬N<N:=by omega
 cases hn:negS s with
 |true=>
  simp[hr,hn,g1,Zal,slc]
  refine Zaf (Zrp hp (by omega)) ?_
  rintro v h6 m6 k6 hv6
  obtain⟨n6,u6,rfl,o6⟩:=hv6.cells
  unfold V.one at o6
  have e0:=(k6.get N (by omega)).trans hrow
  have kle:=k6.le
  simp[hr,e0,o6,Zal,slc,splice,Zak,Ret,hW]
  exact⟨(hK.trans k6).set (Ys6 _),by rw[hv];exact hv6.setNU e0 (by simp) rfl⟩
 |false=>
  simp[hr,hn,g1,hrow,o5,Zal,slc,splice,Zak,Ret,hW]
  exact⟨hK.set (Ys6 _),by rw[hv];exact hp.setNU hrow (by simp) rfl⟩
end Go.Mx
