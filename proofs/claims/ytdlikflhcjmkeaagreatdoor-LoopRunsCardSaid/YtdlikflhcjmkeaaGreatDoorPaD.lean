/-strings-/
import Derived.Test.YtdlikflhcjmkeaaGreatDoorNbC
set_option linter.all false
namespace Go.Mx
noncomputable section
open Go Go.Proofs
variable {N i:Nat} {h:T O} {rw:Bool} {s:Str}
set_option maxRecDepth 1000000
def A.b227:Zaz:=sr [ge 4 (.mov (.const (.str [])))]
 (.seq (sr [mv 7 0,ge 8 (.bin .eql (.prim .str) true (tq 7) (.const (.str []))),mv 9 8,mh 10 1 9,gz 11 9 (.bin .eql (.prim .str) true (tq 10) (.const (.str []))),pt 12 9 11]
 (cd 12
 (sr [mv 13 0,mv 4 13]
 (.ret))
 (.skip)))
 (.seq (sr [mv 14 1,ge 15 (.len 0 (tq 14)),ei 16 15 1,mv 17 16,mg 18 1 17,gy 19 17 (.idxStr (tq 18) (kq 0)),gy 20 17 (.bin .lss (.node []) false (tq 19) (.const (.int .u8 128))),pf 21 17 20]
 (cd 21
 (.seq (.regD [mv 22 0,mv 23 1,ge 24 (.idxStr (tq 23) (kq 0)),c2 25 260 22 24,mv 26 1,ge 27 (.idxStr (tq 26) (kq 0)),c2 28 259 25 27,mv 4 28] [0,0,2,7,0,16,63,127])
 (.ret))
 (.skip)))
 (.seq (sr [mv 30 1,c1 31 261 30,mv 29 31,xt 32 29 0,xt 33 29 1,ge 5 (.alloc (Znd 0) 266),gn (.store 256 (tq 5) (tq 32)),mv 6 33]
 (sr [mv 34 6]
 (cd 34
 (sr [mv 35 0,c2 36 263 35 5,c2 37 262 36 5,mv 4 37]
 (.ret))
 (.skip))))
 (sr [mv 38 0,mv 39 1,c2 40 265 38 39,mv 41 1,c2 42 264 40 41,mv 4 42]
 (.ret)))))
def A.k227:=@A.kk 227 43 [.tmp 4] A.b227 (by kernel_rfl) rfl
def A.lb261_0:Zaz:=.seq (sr [mv 6 4,mv 7 0,ge 8 (.len 0 (tq 7)),bi 9 .lss 6 8]
 (cd 9
 (.skip)
 (.exit 0)))
 (.seq (.block 1 (sr [mv 12 0,mv 13 4,ge 14 (.idxStr (tq 12) (tq 13)),mv 5 14]
 (.seq (sr [mv 15 5,ge 16 (.bin .geq (.node []) false (tq 15) (.const (.int .u8 128)))]
 (cd 16
 (sr [lN 17 256 2,gn (.store 256 (tq 2) (tq 17)),ge 3 (.mov (.const (.bool false)))]
 (.ret))
 (.skip)))
 (.reg [mv 18 5,ge 19 (.iaddrArr 256 1 (tq 2) (tq 18)),gn (.store 1 (tq 19) (.const (.bool true)))]))))
 (.reg [mv 10 4,bc 11 .add 10 1,mv 4 11]))
def A.b261:Zaz:=sr [ge 2 (.alloc (Znd 0) 266),ge 3 (.mov (.const (.bool false)))]
 (.seq (sr [mc 4 0]
 (.block 0 (.loop A.lb261_0)))
 (sr [lN 20 256 2,gn (.store 256 (tq 2) (tq 20)),ge 3 (.mov (.const (.bool true)))]
 (.ret)))
def A.k261:=@A.kk 261 21 [.cell 2 (some 256),.tmp 3] A.b261 (by kernel_rfl) rfl
def A.w262:=A.q Tryz.f262
def A.lb262_0:=A.ql A.w262 0 []
def A.b262:=(fun x0=>A.qb A.w262 [x0]) A.lb262_0
def A.k262:=@A.kk 262 16 [.tmp 4] A.b262 (by kernel_rfl) rfl
def A.w263:=A.q Tryz.f263
def A.lb263_0:=A.ql A.w263 0 []
def A.b263:=(fun x0=>A.qb A.w263 [x0]) A.lb263_0
def A.k263:=@A.kk 263 22 [.tmp 4] A.b263 (by kernel_rfl) rfl
def A.b293:=A.q Tryz.f293
def A.k293:=@A.kk 293 10 [.tmp 4] A.b293 (by kernel_rfl) rfl
def A.b174:=A.q Tryz.f174
def A.k174:=@A.kk 174 19 [.tmp 2] A.b174 (by kernel_rfl) rfl
def Zw5:Fn A.C 261 [(.str [48,49,50,51,52,53,54,55,56,57])] h N (fun v _ _=>v=.tup [.agg (Znd 10),.bool true]):=by
 intro w
 rw[Zab,A.k261 (by simp)]
 simp[A.b261]
 refine Zaj [(3,19)] (fun e r st=>e=.exit 0∧st.n=N+1∧Zac N st.w=[]∧Keeps h N st.h (N+1)∧st.h.get N=some (.cells (Znd 10) 266 true)) (fun m r st=>st.n=N+1∧Zac N st.w=[]∧Keeps h N st.h (N+1)∧∃k,m=10-k∧k≤10∧r.get 4=some (.int .i64 k)∧st.h.get N=some (.cells (Znd k) 266 true)) 10 ?_ ?_ ?_
 ·exact⟨rfl,rfl,(Keeps.refl.set (Yqg _)).up (by omega),0,by omega,by omega,by simp,by simp⟩
 ·rintro m r ⟨H,n1,W⟩ hr hf ⟨hn,hW,hK,k,rfl,hk,h4,hrow⟩
  simp only at hn hW hK hrow
  subst hn
  rw[Zai]
  by_cases hlt:k<10
  ·obtain⟨c,hc,hcu⟩:=Yfa hlt
   unfold Yn7 at hc
   have a1:¬128≤u8I c:=by omega
   have a2:u8I c<256:=by omega
   have a3:0≤u8I c:=by omega
   have a4:(u8I c).toNat=48+k:=by omega
   have hlt':(k:Int)<10:=by omega
   have hs:=Yft hlt
   have q1:=Zdq k
   simp(disch:=first|(simp;done)|omega|(simp only[Zad,Zae,Yqd];omega)|rfl) [-getElem?_pos,A.lb261_0,hr,hf,h4,hlt',hc,a1,a2,a3,a4,hs,hrow,hW]
   exact⟨_,by omega,hK.set (Yqg N),k+1,rfl,by omega,by simp,rfl⟩
  ·have:k=10:=by omega
   subst this
   simp[A.lb261_0,hr,hf,h4,hrow,hW]
   exact hK
 ·rintro e r ⟨H,n1,W⟩ hr ⟨rfl,hn,hW,hK,hrow⟩
  simp only at hn hW hK hrow
  subst hn
  have q1:=Zdq 10
  simp[hr,Ret,hW,hrow,Zah,slc,Zdq,Zvo]
  exact hK.set (Yqg N)
def Zm3{c:UInt8}{w:List Nat}{e:TypeId}(hr:h.get i=some (.cells (Znd 10) e rw)):A.C.call (.func 293 [] []) [.ptr i 0,.int .u8 (u8I c)] ⟨h,N,w⟩=some (.bool (Zj8 c),⟨h,N,w⟩):=by
 apply Call.eq
 rw[Zab,A.k293 (by simp)]
 have hu:=Zyp c
 have e2:(Znd 10)[(u8I c).toNat]?=some (.bool (Zj8 c)):=by
  rw[Zhu (by omega),Ybv]
  congr 2
  rw[decide_eq_decide];omega
 simp(disch:=omega) [A.b293,hr,hu,e2]
def Yfc{k:Nat}{c:UInt8}(hl:s.length=k+1)(hc:s[k]?=some c):Zb8 s=(Zb8 (s.take k)&&Zj8 c):=by
 unfold Zb8
 have:s=s.take k++[c]:=by
  conv=>lhs;rw[←Yr0 k s]
  rw[Za2 hc,Yrr (by omega)]
 conv=>lhs;rw[this]
 simp
def Ybu{s:Str}{c:UInt8}(hc:s[0]?=some c):Zb8 s=(Zj8 c&&Zb8 (s.drop 1)):=by
 cases s with
 |nil=>simp at hc
 |cons d s=>simp at hc;subst hc;rfl
def Yfb{k:Nat}{c:UInt8}(hc:s[k]?=some c)(hd:Zj8 c=false):Zb8 s=false:=by
 unfold Zb8
 rw[List.all_eq_false]
 exact⟨c,Yqn hc,by simp[hd]⟩
def Ycu(s:Str)(v:V):Prop:=∃t:Str,v=.str t∧t.length≤s.length∧Zb8 t=Zb8 s∧(Zb8 s=true→t=[])
def Zp0{e:TypeId}(hr0:h.get i=some (.cells (Znd 10) e rw))(hl:s.length<4611686018427387904):Fn A.C 263 [.str s,.ptr i 0] h N (fun v _ _=>Ycu s v):=by
 intro w
 rw[Zab,A.k263 (by simp)]
 simp[A.b263]
 refine Zaj [(0,0),(5,20)] (fun e r st=>e=.exit 0∧st=⟨h,N,[]⟩∧∃t:Str,r.get 0=some (.str t)∧t.length≤s.length∧Zb8 t=Zb8 s∧(Zb8 s=true→t=[])) (fun m r st=>st=⟨h,N,[]⟩∧∃t:Str,m=t.length∧t.length≤s.length∧r.get 0=some (.str t)∧Zb8 t=Zb8 s) s.length ?_ ?_ ?_
 ·exact⟨rfl,s,rfl,by omega,by simp,rfl⟩
 ·rintro m r _ hr hf ⟨rfl,t,rfl,hle,h0,ht⟩
  rw[Zai]
  by_cases hz:t.length=0
  ·have:t=[]:=Yqw hz
   subst this
   simp[A.lb263_0,hf,h0,ht]
  ·obtain⟨k,hk⟩:∃k,t.length=k+1:=⟨t.length-1,by omega⟩
   obtain⟨c,hc⟩:=Zan (l:=t) (k:=k) (by omega)
   have hk':(t.length:Int)=k+1:=by omega
   have hk0:(0:Int)<(k:Int)+1:=by omega
   have hk1:(k:Int)+1-1=k:=by omega
   have hcon:=fun w=>Zm3 (c:=c) (N:=N) (w:=w) hr0
   by_cases hd:Zj8 c=true
   ·simp(disch:=first|(simp;done)|omega|(simp only[Zad,Zae,Yqd];omega)|rfl) [-getElem?_pos,A.lb263_0,hr,hf,h0,hk',hk0,hk1,hc,hcon,hd,evOpt]
    exact⟨k,by omega,t.take k,by simp;omega,by simp;omega,rfl,by rw[←ht,Yfc hk hc,hd];simp⟩
   ·have hd:Zj8 c=false:=by simpa using hd
    simp(disch:=first|(simp;done)|omega|(simp only[Zad,Zae,Yqd];omega)|rfl) [-getElem?_pos,A.lb263_0,hr,hf,h0,hk',hk0,hk1,hc,hcon,hd,evOpt]
    have hq:=Yfb hc hd
    rw[ht]at hq
    simp[hq,hle]
    rw[ht];exact hq
 ·rintro _ r _ hr ⟨rfl,rfl,t,h0,hle,ht,he⟩
  simp[h0,Ret,Ycu]
  exact⟨Keeps.refl,hle,ht,he⟩
def Zrz{e:TypeId}(hr0:h.get i=some (.cells (Znd 10) e rw))(hl:s.length<4611686018427387904):Fn A.C 262 [.str s,.ptr i 0] h N (fun v _ _=>Ycu s v):=by
 intro w
 rw[Zab,A.k262 (by simp)]
 simp[A.b262]
 refine Zaj [(0,0),(5,14)] (fun e r st=>e=.exit 0∧st=⟨h,N,[]⟩∧∃t:Str,r.get 0=some (.str t)∧t.length≤s.length∧Zb8 t=Zb8 s∧(Zb8 s=true→t=[])) (fun m r st=>st=⟨h,N,[]⟩∧∃t:Str,m=t.length∧t.length≤s.length∧r.get 0=some (.str t)∧Zb8 t=Zb8 s) s.length ?_ ?_ ?_
 ·exact⟨rfl,s,rfl,by omega,by simp,rfl⟩
 ·rintro m r _ hr hf ⟨rfl,t,rfl,hle,h0,ht⟩
  rw[Zai]
  by_cases hz:t.length=0
  ·have:t=[]:=Yqw hz
   subst this
   simp[A.lb262_0,hf,h0,ht]
  ·cases t with
   |nil=>simp at hz
   |cons c t=>
    have hk0:(0:Int)<(t.length:Int)+1:=by omega
    have hcon:=fun w=>Zm3 (c:=c) (N:=N) (w:=w) hr0
    have hdf:=Ybu (s:=c::t) (c:=c) rfl
    by_cases hd:Zj8 c=true
    ·simp(disch:=first|(simp;done)|omega|(simp only[Zad,Zae,Yqd];omega)|rfl) [A.lb262_0,hr,hf,h0,hk0,hcon,hd,evOpt]
     simp only[Yqd]at hle
     rw[hd]at hdf
     exact⟨t.length,by omega,t,rfl,by omega,rfl,by rw[←ht,hdf];rfl⟩
    ·have hd:Zj8 c=false:=by simpa using hd
     simp[A.lb262_0,hr,hf,h0,hk0,hcon,hd]
     rw[hd]at hdf
     rw[ht]at hdf
     simp only[Yqd]at hle
     simp[hdf,hle]
     rw[ht,hdf];rfl
 ·rintro _ r _ hr ⟨rfl,rfl,t,h0,hle,ht,he⟩
  simp[h0,Ret,Ycu]
  exact⟨Keeps.refl,hle,ht,he⟩
def Zvy(hl:s.length<4611686018427387904):Fn A.C 227 [.str s,(.str [48,49,50,51,52,53,54,55,56,57])] h N (fun v _ _=>Ycu s v):=by
 intro w
 rw[Zab,A.k227 (by simp)]
 by_cases he:s=[]
 ·subst he
  simp[A.b227,Ret]
  exact⟨Keeps.refl,[],rfl,Yqg _,rfl,fun _=>rfl⟩
 ·have e1:(s==[])=false:=by simp[he]
  have e2:s.isEmpty=false:=by simp[he]
  simp[A.b227,e1]
  refine Zaa Zw5 ?_
  rintro v h1 n1 k1 rfl
  have q1:=Zdq 10
  simp[]
  refine Zaa (Zp0 (e:=266) (rw:=true) ?_ hl) ?_
  ·simp
  rintro v h2 n2 k2 ⟨t,rfl,hle,ht,hte⟩
  have hN1:h2.get n1=some (.cells (Znd 10) 266 true):=by
   rw[k2.get _ (by omega)]
   simp
  simp[]
  refine Zaa (Zrz (e:=266) (rw:=true) hN1 (by omega)) ?_
  rintro v h3 n3 k3 ⟨u,rfl,hle2,hu,hue⟩
  have kk:Keeps h N h3 n3:=(((k1.set k1.le).set k1.le).up (Ytb n1)).trans (k2.trans k3)
  simp[Ret]
  exact⟨k1.le,kk,u,rfl,by omega,by rw[hu,ht],fun h=>hue (by rw[ht];exact h)⟩
def Zg3{s:Str}{h:T O}{N:Nat}(hl:s.length<4611686018427387904):Fn A.C 174 [.str s] h N (fun v _ _=>v=.bool (Zcu s)):=by
 intro w
 rw[Zab,A.k174 (by simp)]
 cases s with
 |nil=>simp[A.b174,Ret,Zcu];exact Keeps.refl
 |cons c s=>
  simp[A.b174]
  refine Zaa (Zvy hl) ?_
  rintro v h1 n1 k1 ⟨t,rfl,hle,ht,hte⟩
  have hd:Zcu (c::s)=(Zb8 (c::s)&&(decide (u8I c≠48)||decide (s=[]))):=by
   have:decide (c.toNat≠48)=decide (u8I c≠48):=by unfold u8I;rw[decide_eq_decide];omega
   simp only[Zcu,this];rfl
  by_cases ha:Zb8 (c::s)=true
  ·have:=hte ha
   subst this
   by_cases h0:u8I c=48
   ·have hc:c=48:=by unfold u8I at h0;exact UInt8.toNat_inj.1 (by show c.toNat=48;omega)
    subst hc
    simp[hd,ha,h0,Ret,k1]
    cases s<;>rfl
   ·simp[hd,ha,h0,Ret,k1]
  ·have ha:Zb8 (c::s)=false:=by simpa using ha
   rw[ha]at ht
   have e1:(t==[])=false:=by
    cases t with
    |nil=>cases ht
    |cons=>rfl
   have e2:t.isEmpty=false:=by
    cases t with
    |nil=>cases ht
    |cons=>rfl
   simp[hd,ha,e1,Ret,k1]
def A.w257:=A.q Tryz.f257
def A.lb257_0:=A.ql A.w257 0 []
def A.b257:=(fun x0=>A.qb A.w257 [x0]) A.lb257_0
def A.k257:=@A.kk 257 77 [.tmp 2,.tmp 3] A.b257 (by kernel_rfl) rfl
def A.b224:=A.q Tryz.f224
def A.k224:=@A.kk 224 18 [.tmp 2,.tmp 3] A.b224 (by kernel_rfl) rfl
def Yex{s:Str}{h:T O}{N:Nat}(hd:Zb8 s=true)(h1:1≤s.length)(h2:s.length≤18):Fn A.C 257 [.str s] h N (fun v _ _=>v=.tup [.int .i64 (numV s:Nat),.niliface]):=by
 intro w
 obtain⟨c,hc⟩:=Zan (l:=s) (k:=0) (by omega)
 have hcd:=Zj4 hd hc
 have a1:¬u8I c=45:=by omega
 have a2:¬u8I c=43:=by omega
 have a3:(0:Int)<(s.length:Int):=by omega
 have a5:(s.length:Int)<19:=by omega
 have h10:0<s.length:=by omega
 have hne:s≠[]:=fun h=>by rw[h]at h1;simp at h1
 have hc0:s.head?=some c:=by cases s with
  |nil=>simp at hc
  |cons=>simpa using hc
 rw[Zab,A.k257 (by simp)]
 by_cases a4:(s.length:Int)<10
 all_goals
  simp(disch:=first|(simp;done)|omega|(simp only[Zad,Zae,Yqd];omega)|rfl) [-getElem?_pos,A.b257,a3,a4,a5,hne,h10,hc0,hc,Zak,a1,a2]
  refine Zaj [(2,3),(6,6),(8,8),(49,63)] (fun e r st=>st.n=N+1∧Zac N st.w=[]∧Keeps h N st.h (N+1)∧e=.exit 0∧r.get 6=some (.int .i64 (numV s:Nat))) (fun m r st=>st.n=N+1∧Zac N st.w=[]∧Keeps h N st.h (N+1)∧st.h.get N=some (.cells (Zm7 s) 5 true)∧∃k,m=s.length-k∧k≤s.length∧r.get 49=some (.int .i64 k)∧r.get 6=some (.int .i64 (numV (s.take k):Nat))) s.length ?_ ?_ ?_
  ·exact⟨rfl,rfl,(Keeps.refl.set (Yqg _)).up (by omega),by simp,0,by omega,by omega,by simp,by simp[numV]⟩
  ·rintro m r ⟨H,n1,W⟩ hr hf ⟨hn,hW,hK,hrow,k,rfl,hk,h49,h6⟩
   simp only at hn hW hK hrow
   subst hn
   rw[Zai]
   by_cases hlt:k<s.length
   ·obtain⟨c,hc⟩:=Zan hlt
    have hd1:=Zj4 hd hc
    have hb:=Zya hc
    have hv:=Zml hc
    have hb1:=Zo6 hd k hk
    have hb2:=Zuk (a:=k) (b:=17) (by omega)
    have b1:¬9<u8I c-48:=by omega
    have b2:Zao .u8 (u8I c-48)=u8I c-48:=Zd2 (by omega) (by omega)
    have b3:((numV (s.take (k+1)):Nat):Int)=(numV (s.take k):Nat)*10+(u8I c-48):=by
     rw[hv];unfold u8I at*;omega
    have b4:((numV (s.take k):Nat):Int)<100000000000000000:=by
     have:(10:Nat)^17=100000000000000000:=by decide
     omega
    generalize hy:numV (s.take (k+1))=y at*
    generalize numV (s.take k)=x at*
    simp(disch:=first|(simp;done)|omega|(simp only[Zad,Zae,Yqd];omega)|rfl) [A.lb257_0,hr,hf,h49,h6,hlt,hrow,hb,b1,b2,hW]
    exact⟨_,by omega,hK,k+1,rfl,by omega,by simp,by rw[hy,b3]⟩
   ·have:k=s.length:=by omega
    subst this
    simp[A.lb257_0,hr,hf,h49,hW]
    rw[Ysp]at h6
    exact⟨hK,h6⟩
  ·rintro _ r ⟨H,n1,W⟩ hr ⟨hn,hW,hK,rfl,h6⟩
   simp only at hn hW hK
   subst hn
   simp[hr,Ret,hW,hK,h6,hc,a1]
def Ykb{s:Str}{h:T O}{N:Nat}(hd:Zb8 s=true)(h1:1≤s.length)(h2:s.length≤18):Fn A.C 224 [.str s] h N (fun v _ _=>v=.tup [.int .i64 (numV s:Nat),.niliface]):=by
 intro w
 rw[Zab,A.k224 (by simp)]
 simp[A.b224]
 refine Zaa (Yex hd h1 h2) ?_
 rintro v h1 n1 k1 rfl
 simp[Zak,Ret,k1]
variable {M N a k o:Nat} {h:T O} {s:Str}
set_option maxHeartbeats 2000000
def A.w143:=A.q Tryz.f143
def A.lb143_0:=A.ql A.w143 0 []
def A.b143:=(fun x0=>A.qb A.w143 [x0]) A.lb143_0
def A.k143:=@A.kk 143 23 [.cell 4 (some 2)] A.b143 (by kernel_rfl) rfl
def A.w169:=A.q Tryz.f169
def A.lb169_0:=A.ql A.w169 0 []
def A.b169:=(fun x0=>A.qb A.w169 [x0]) A.lb169_0
def A.k169:=@A.kk 169 41 [.cell 2 (some 2)] A.b169 (by kernel_rfl) rfl
def Ydx(h:o*a^k=M)(ha:1≤a)(ho:1≤o)(hk:1≤k):o*a≤M∧a≤M∧o≤M:=by
 have h1:a^1≤a^k:=Yq3 ha hk
 rw[Nat.pow_one]at h1
 have h2:o*a≤o*a^k:=Yqs o h1
 have h3:1*a≤o*a:=Yqz a ho
 have h4:o*1≤o*a:=Yqs o ha
 omega
def Ylb(h:o*a^k=M)(ha:1≤a)(ho:1≤o)(hk:1<k):a*a≤M:=by
 have h1:a^2≤a^k:=Yq3 ha hk
 have h2:1*a^k≤o*a^k:=Yqz _ ho
 have h3:a^2=a*a:=by rw[Nat.pow_two]
 omega
def Ylc(h:o*a^k=M)(hk:k%2=1):(o*a)*(a*a)^(k/2)=M:=by
 rw[←h,←Nat.pow_two,←Nat.pow_mul,Ytf]
 congr 1
 conv=>rhs;rw[show k=2*(k/2)+1 by omega,Yqx]
 rw[Yq5]
def Yh9(h:o*a^k=M)(hk:k%2=0):o*(a*a)^(k/2)=M:=by
 rw[←h,←Nat.pow_two,←Nat.pow_mul,show 2*(k/2)=k by omega]
structure PwJ (h:T O) (N q M m:Nat) (r:T V) (st:St):Prop where
 w:Zac N st.w=[]
 keep:Keeps h N st.h st.n
 q1:N+2≤q
 q2:q<st.n
 row:st.h.get (N+1)=some (.cells [.int .i64 0,.nilslice] 100 true)
 r1:r.get 1=some (.int .i64 m)
 lm:m<4611686018427387904
 ex:∃(n1 n2:Int) (u1 u2:V) (a o:Nat),st.h.get N=some (.cells [.int .i64 n1,u1] 100 true)∧st.h.get q=some (.cells [.int .i64 n2,u2] 100 true)∧In st.h st.n (.agg [.int .i64 n1,u1]) a∧In st.h st.n (.agg [.int .i64 n2,u2]) o∧o*a^m=M∧1≤a∧1≤o∧wl a<10000000000
def Ydz{q:Nat}{r0:T V}(hM:wl M<10000000000)(a2:r0.get 2=some (.ptr N 0))(a5:r0.get 5=some (.ptr q 0)):
  ∀x r st,(∀t,inD [(1,1),(7,21)] t=false→r.get t=r0.get t)→Fx [(1,1),(7,21)] r0 23 ⟨r,23,[]⟩→PwJ h N q M x r st→Code A.C none A.lb143_0 ⟨r,23,[]⟩ st (Rd [(1,1),(7,21)] r0 23 (PwJ h N q M) x (fun e r st=>e=.exit 0∧PwJ h N q M 0 r st)):=by
 rintro m r ⟨H,n0,W⟩ hr hf ⟨hW,hK,hq1,hq2,hrow,r1,lm,n1,n2,u1,u2,a,o,g0,g1,ha,ho,hM2,a1,o1,la⟩
 simp only at hW hK hq2 hrow g0 g1 ha ho
 rw[Zai]
 have b1:=Yfu (k:=m) (by omega)
 have b2:=Ydj (k:=m)
 by_cases h0:m=0
 ·subst h0
  simp[A.lb143_0,hf,r1]
  exact⟨hW,hK,hq1,hq2,hrow,by simp[r1],by omega,n1,n2,u1,u2,a,o,g0,g1,ha,ho,hM2,a1,o1,la⟩
 ·have c1:(0:Int)<(m:Int):=by omega
  have c2:0<m:=by omega
  obtain⟨t1,t2,t3⟩:=Ydx hM2 a1 o1 c2
  have lo:wl o<10000000000:=Yra (Zvv (a:=(o:Int)) (b:=(M:Int)) (by omega)) hM
  obtain⟨_,_,e5,o5⟩:=ha.cells
  simp only[V.agg.injEq,Yqu,V.int.injEq,true_and,and_true]at e5
  obtain⟨rfl,rfl⟩:=e5
  unfold V.one at o5
  have wok:¬q<N:=by omega
  by_cases hp:m%2=1
  ·have p1:(m:Int)%2=1:=by omega
   simp[A.lb143_0,hr,r1,a2,a5,c2,b1,hp,g0,g1,Zah,slc]
   refine Zaa (Zgz ho ha (by omega) (by omega)) ?_
   rintro v h3 n3 k3 hv
   rw[←Yty]at hv
   obtain⟨n6,u6,rfl,o6⟩:=hv.cells
   unfold V.one at o6
   have kle3:=k3.le
   have f0:=(k3.get N (by omega)).trans g0
   have f1:=(k3.get q (by omega)).trans g1
   have f2:=(k3.get (N+1) (by omega)).trans hrow
   have d1:¬N=q:=by omega
   have d2:¬N+1=q:=by omega
   have d3:¬q=N:=by omega
   have ha3:=(ha.keep k3).setNU (c1:=[.int .i64 n6,u6]) (e1:=100) (w1:=true) f1 ho.nu rfl
   have hv3:=hv.setNU (c1:=[.int .i64 n6,u6]) (e1:=100) (w1:=true) f1 ho.nu rfl
   have f0':(h3.set q (.cells [.int .i64 n6,u6] 100 true)).get N=some (.cells [.int .i64 n1,u1] 100 true):=by rw[T.get_set,Yqe d1];exact f0
   have f1':(h3.set q (.cells [.int .i64 n6,u6] 100 true)).get q=some (.cells [.int .i64 n6,u6] 100 true):=by simp
   have f2':(h3.set q (.cells [.int .i64 n6,u6] 100 true)).get (N+1)=some (.cells [.int .i64 0,.nilslice] 100 true):=by rw[T.get_set,Yqe d2];exact f2
   have kH:=(hK.trans k3).set (i:=q) (o:=.cells [.int .i64 n6,u6] 100 true) (by omega)
   by_cases hp1:1<m
   ·have p2:(1:Int)<(m:Int):=by omega
    have t4:=Ylb hM2 a1 o1 hp1
    have laa:wl ((a*a:Nat):Int)<10000000000:=Yra (Zvv (a:=((a*a:Nat):Int)) (b:=(M:Int)) (by omega)) hM
    generalize hH:h3.set q (.cells [.int .i64 n6,u6] 100 true)=H3 at*
    simp[r1,hr,a2,a5,f1,o6,splice,Zal,p2,hH,f0',Zah,slc]
    refine Zaa (Zgz ha3 ha3 (by omega) (by omega)) ?_
    rintro v h4 n4 k4 hv4
    rw[←Yty]at hv4
    obtain⟨n7,u7,rfl,o7⟩:=hv4.cells
    unfold V.one at o7
    have kle4:=k4.le
    have e0:=(k4.get N (by omega)).trans f0'
    have e1:=(k4.get q (by omega)).trans f1'
    have e2:=(k4.get (N+1) (by omega)).trans f2'
    simp[r1,hr,hf,a2,e0,o7,splice,Zal,b2]
    refine⟨m/2,by omega,by simp[Zac,hW,wok],(kH.trans k4).set (Yqg _),hq1,by show q<n4;omega,by simp[e2],by simp,by omega,n7,n6,u7,u6,a*a,o*a,by simp,by simp[d3,e1],hv4.setNU e0 ha.nu rfl,(hv3.keep k4).setNU e0 ha.nu rfl,Ylc hM2 hp,Ytc a1 a1,Ytc o1 a1,laa⟩
   ·have p2:¬(1:Int)<(m:Int):=by omega
    have m0:m/2=0:=by omega
    have m1':m=1:=by omega
    simp[r1,hr,hf,a5,f1,o6,splice,Zal,p2,b2]
    refine⟨m/2,by omega,by simp[Zac,hW,wok],kH,hq1,by show q<n3;omega,f2',by simp,by omega,n1,n6,u1,u6,a,o*a,f0',f1',ha3,hv3,by rw[m0,←hM2,m1'];simp,a1,Ytc o1 a1,la⟩
  ·have p1:¬(m:Int)%2=1:=by omega
   have p0:m%2=0:=by omega
   have p2:(1:Int)<(m:Int):=by omega
   have hp1:1<m:=by omega
   have t4:=Ylb hM2 a1 o1 hp1
   have laa:wl ((a*a:Nat):Int)<10000000000:=Yra (Zvv (a:=((a*a:Nat):Int)) (b:=(M:Int)) (by omega)) hM
   simp[A.lb143_0,hr,r1,a2,c2,b1,p1,p2,g0,Zah,slc]
   refine Zaa (Zgz ha ha (by omega) (by omega)) ?_
   rintro v h3 n3 k3 hv
   rw[←Yty]at hv
   obtain⟨n6,u6,rfl,o6⟩:=hv.cells
   unfold V.one at o6
   have kle3:=k3.le
   have f0:=(k3.get N (by omega)).trans g0
   have f1:=(k3.get q (by omega)).trans g1
   have f2:=(k3.get (N+1) (by omega)).trans hrow
   have d3:¬q=N:=by omega
   simp[r1,hr,hf,a2,f0,o6,splice,Zal,b2]
   refine⟨m/2,by omega,by simp[Zac,hW],(hK.trans k3).set (Yqg _),hq1,by show q<n3;omega,by simp[f2],by simp,by omega,n6,n2,u6,u2,a*a,o,by simp,by simp[d3,f1],hv.setNU f0 ha.nu rfl,(ho.keep k3).setNU f0 ha.nu rfl,Yh9 hM2 p0,Ytc a1 a1,o1,laa⟩
def Yld{x:V}(hx:In h N x a)(ha:1≤a)(hk:k<4611686018427387904)(la:wl a<10000000000)(hM:wl ((a^k:Nat):Int)<10000000000):Fn A.C 143 [x,.int .i64 k] h N (fun v h' n'=>In h' n' v ((a^k:Nat):Int)):=by
 intro w
 rw[Zab,A.k143 (by simp)]
 obtain⟨n1,u1,rfl,o1⟩:=hx.cells
 have kk:=kset (kset (Keeps.refl (h:=h) (n:=N)) (.cells [.int .i64 n1,u1] 100 true)) (.cells [.int .i64 0,.nilslice] 100 true)
 have hx':=hx.keep kk
 unfold V.one at o1
 simp[A.b143,o1]
 refine Zaa Zst ?_
 rintro _ h1 m1 k1 rfl
 have kle1:=k1.le
 have g0:=k1.get N (by omega)
 have g1:=k1.get (N+1) (by omega)
 simp at g0 g1
 have hx1:=hx'.keep k1
 have d1:¬N=m1:=by omega
 have d2:¬N+1=m1:=by omega
 have wok:¬m1<N:=by omega
 have kE:=(kset (Keeps.refl (h:=h1) (n:=m1)) (.cells [.int .i64 0,.nilslice] 100 true)).set (i:=m1) (o:=.cells [.int .i64 1,.nilslice] 100 true) (Yqg _)
 simp[splice,Zal]
 refine Zaj [(1,1),(7,21)] _ (PwJ h N m1 (a^k)) k ?_ (Ydz hM (by simp) (by simp)) ?_
 ·refine⟨by simp[Zac,wok],((kk.trans k1).trans kE),by omega,by show m1<m1+1;omega,by simp[d2,g1],by simp,hk,n1,1,u1,.nilslice,a,1,by simp[d1,g0],by simp,hx1.keep kE,In.small (by omega) (by omega),by simp,ha,by omega,la⟩
 rintro e r ⟨h5,m5,W5⟩ hr ⟨rfl,hW,hK,hq1,hq2,hrow,r1,lm,n5,n6,u5,u6,a',o,g5,g6,ha5,ho5,hM2,a1,o1',la'⟩
 simp only at hW hK hq2 hrow g5 g6 ha5 ho5
 obtain⟨_,_,e5,o5⟩:=ho5.cells
 simp only[V.agg.injEq,Yqu,V.int.injEq,true_and,and_true]at e5
 obtain⟨rfl,rfl⟩:=e5
 unfold V.one at o5
 have he:(o:Int)=((a^k:Nat):Int):=by rw[←hM2];simp
 rw[he]at ho5
 have wok:¬N+1<N:=by omega
 simp[hr,g6,hrow,Zah,slc,splice,Zal,o5,Ret,hW,wok]
 exact⟨hK.set (by omega),ho5.setNU hrow (by simp) rfl⟩
def Zz0(x:Str):∀(y:Str),numV (x++y)=numV x*10^y.length+numV y:=by
 intro y
 generalize hn:y.length=n
 induction n generalizing y with
 |zero=>
  have:y=[]:=Yqw hn
  subst this;simp[numV]
 |succ n ih=>
  obtain⟨u,d,rfl⟩:∃u d,y=u++[d]:=⟨y.dropLast,y.getLast (by rintro rfl;simp at hn),(Yt4 _).symm⟩
  simp at hn
  rw[←Yrh,Zgx,Zgx,ih u hn,Yqx]
  grind
def Ze2{n:Nat}(h:n<10^k):wl n≤k:=by
 unfold wl
 apply Zfq
 have:(10:Nat)^k≤B^k:=Ys9 (by decide) k
 simp;omega
def Zoj(h:Zb8 s=true)(k:Nat):Zb8 (s.take k)=true:=by
 unfold Zb8 at*
 rw[Yrs]at*
 exact fun x hx=>h x (Ysg hx)
def Zyd(h:Zb8 s=true)(k:Nat):Zb8 (s.drop k)=true:=by
 unfold Zb8 at*
 rw[Yrs]at*
 exact fun x hx=>h x (List.mem_of_mem_drop hx)
structure RdI (h:T O) (N:Nat) (s:Str) (m:Nat) (r:T V) (st:St):Prop where
 w:Zac N st.w=[]
 keep:Keeps h N st.h st.n
 le:N+2≤st.n
 row:st.h.get N=some (.cells [.int .i64 0,.nilslice] 100 true)
 ex:∃(cur:Str) (p:Nat) (n1:Int) (u1:V),r.get 0=some (.str cur)∧cur.length=m∧m≤s.length∧Zb8 cur=true∧st.h.get (N+1)=some (.cells [.int .i64 n1,u1] 100 true)∧In st.h st.n (.agg [.int .i64 n1,u1]) p∧numV s=p*10^m+numV cur
def Zzj{r0:T V}(hd:Zb8 s=true)(hl:s.length≤100000)(a4:r0.get 4=some (.ptr (N+1) 0)):
  ∀x r st,(∀t,inD [(0,0),(5,7),(13,36)] t=false→r.get t=r0.get t)→Fx [(0,0),(5,7),(13,36)] r0 41 ⟨r,41,[]⟩→RdI h N s x r st→Code A.C none A.lb169_0 ⟨r,41,[]⟩ st (Rd [(0,0),(5,7),(13,36)] r0 41 (RdI h N s) x (fun e r st=>e=.exit 0∧RdI h N s 0 r st)):=by
 rintro m r ⟨H,n0,W⟩ hr hf ⟨hW,hK,hle,hrow,cur,p,n1,u1,hr0,hcl,hms,hcd,g1,hp,hv⟩
 simp only at hW hK hle hrow g1 hp
 rw[Zai]
 by_cases h0:m=0
 ·subst h0
  have:cur=[]:=Yqw hcl
  subst this
  simp[A.lb169_0,hf,hr0]
  exact⟨hW,hK,hle,hrow,[],p,n1,u1,by simp[hr0],rfl,by omega,rfl,g1,hp,hv⟩
 ·obtain⟨n,hn⟩:∃n,n=min 18 m:=⟨_,rfl⟩
  have c1:0<cur.length:=by omega
  have c3:(if (cur.length:Int)<18 then (cur.length:Int) else 18)=(n:Int):=by split<;>omega
  have c4:(n:Int)≤(cur.length:Int):=by omega
  have hpv:p≤numV s:=by
   rw[hv]
   have:p*1≤p*10^m:=Yqs p (Ys1 (by decide))
   omega
  have hsl:=Zd4 hd
  have lp:wl (p:Int)≤100000:=Yr4 (Ze2 (Yra hpv hsl)) hl
  have hat:=fun (h:T O) (N:Nat)=>Ykb (s:=cur.take n) (h:=h) (N:=N) (Zoj hcd n) (by rw[Yq0];omega) (by rw[Yq0];omega)
  have l10:wl ((10:Nat):Int)<10000000000:=by decide+kernel
  have lpw:wl ((10^n:Nat):Int)≤19:=Ze2 (Nat.pow_lt_pow_right (by decide) (by omega))
  have hnv:=Zd4 (Zoj hcd n)
  have htl:(cur.take n).length=n:=by rw[Yq0];omega
  rw[htl]at hnv
  have h18:(10:Nat)^n≤10^18:=Yq3 (by decide) (by omega)
  have e18:(10:Nat)^18=1000000000000000000:=by decide
  have lnv:wl ((numV (cur.take n):Nat):Int)≤18:=Yr4 (Ze2 hnv) (by omega)
  simp[A.lb169_0,hr0,c1,Zk6,Yen,Zw2,c3,c4,evOpt]
  refine Zaa (hat _ _) ?_
  rintro _ h1 m1 k1 rfl
  have kle1:=k1.le
  have f1:=(k1.get (N+1) (by omega)).trans g1
  simp[a4,hr,f1,Zah,slc]
  refine Zaa Zst ?_
  rintro _ h2 m2 k2 rfl
  have kle2:=k2.le
  simp[]
  refine Zaa (Yld (In.small (z:=(10:Nat)) (by omega) (by omega)) (by omega) (by omega) l10 (by omega)) ?_
  rintro vp h3 m3 k3 hvp
  have kle3:=k3.le
  simp[]
  refine Zaa (Zgz (((hp.keep k1).keep k2).keep k3) hvp (by omega) (by omega)) ?_
  rintro vm h4 m4 k4 hvm
  have kle4:=k4.le
  have lm:=Zi1 (p:Int) ((10^n:Nat):Int)
  simp[]
  refine Zaa Zst ?_
  rintro _ h5 m5 k5 rfl
  have kle5:=k5.le
  simp[]
  refine Zaa (Zrt (hvm.keep k5) (In.small (z:=((numV (cur.take n):Nat):Int)) (by omega) (by omega)) (by omega) (by omega)) ?_
  rintro va h6 m6 k6 hva
  have kle6:=k6.le
  have k26:=(((k2.trans k3).trans k4).trans k5).trans k6
  have e1:=(k26.get (N+1) (by omega)).trans f1
  have e2:=(k26.get N (by omega)).trans ((k1.get N (by omega)).trans hrow)
  obtain⟨n6,u6,rfl,o6⟩:=hva.cells
  unfold V.one at o6
  have z1:N+1<m1:=by omega
  have z2:N+1<m6:=by omega
  have z3:¬N+1<N:=by omega
  have z4:N+1<m5:=by omega
  simp[hr,hf,a4,hr0,e1,o6,z1,z2,z4,splice,Zal,evOpt,c4,Zam.chk]
  have hpe:(p:Int)*((10^n:Nat):Int)+((numV (cur.take n):Nat):Int)=((p*10^n+numV (cur.take n):Nat):Int):=by simp
  rw[hpe]at hva
  refine⟨m-n,by omega,by simp[Zac,hW,z3],((hK.trans k1).trans k26).set (by omega),by show N+2≤m6;omega,by simp[e2],cur.drop n,p*10^n+numV (cur.take n),n6,u6,by simp,by rw[Yso];omega,by omega,Zyd hcd n,by simp,hva.setNU e1 hp.nu rfl,?_⟩
  have h1:=Zz0 (cur.take n) (cur.drop n)
  rw[Yr0,Yso,hcl]at h1
  rw[hv,h1,Yrf,Ytf,←Yre,show n+(m-n)=m by omega]
  omega
def Zzk{s:Str}{h:T O}{N:Nat}(hd:Zb8 (Zar s)=true)(hl:(Zar s).length≤100000):Fn A.C 169 [.str s] h N (fun v h' n'=>In h' n' v (if negS s=true then -(numV (Zar s):Int) else (numV (Zar s):Int))):=by
 intro w
 rw[Zab,A.k169 (by simp)]
 simp[A.b169,Zq4,Zi9,splice]
 refine Zaj [(0,0),(5,7),(13,36)] _ (RdI h N (Zar s)) (Zar s).length ?_ (Zzj hd hl (by simp)) ?_
 ·have kk:=(kset (kset (Keeps.refl (h:=h) (n:=N)) (.cells [.int .i64 0,.nilslice] 100 true)) (.cells [.int .i64 0,.nilslice] 100 true)).set (i:=N+1) (o:=.cells [.int .i64 0,.nilslice] 100 true) (by omega)
  exact⟨by simp[Zac],kk,Yqg _,by simp,Zar s,0,0,.nilslice,by simp,rfl,Yqg _,hd,by simp,In.small (by omega) (by omega),by simp⟩
 rintro e r ⟨h5,m5,W5⟩ hr ⟨rfl,hW,hK,hle,hrow,cur,p,n1,u1,hr0,hcl,hms,hcd,g1,hp,hv⟩
 simp only at hW hK hle hrow g1 hp
 have:cur=[]:=Yqw hcl
 subst this
 have hv:numV (Zar s)=p:=by rw[hv];simp[numV]
 have lp:wl (p:Int)≤100000:=by rw[←hv];exact Yr4 (Ze2 (Zd4 hd)) hl
 obtain⟨_,_,e5,o5⟩:=hp.cells
 simp only[V.agg.injEq,Yqu,V.int.injEq,true_and,and_true]at e5
 obtain⟨rfl,rfl⟩:=e5
 unfold V.one at o5
 cases hn:negS s with
 |true=>
  simp[hr,hn,g1,Zah,slc]
  refine Zaa (Zn8 hp (by omega)) ?_
  rintro v h6 m6 k6 hv6
  obtain⟨n6,u6,rfl,o6⟩:=hv6.cells
  unfold V.one at o6
  have e0:=(k6.get N (by omega)).trans hrow
  simp[hr,e0,o6,Zah,slc,splice,Zal,Ret,hW]
  exact⟨(hK.trans k6).set (Yqg _),by rw[hv];exact hv6.setNU e0 (by simp) rfl⟩
 |false=>
  simp[hr,hn,g1,hrow,o5,Zah,slc,splice,Zal,Ret,hW]
  exact⟨hK.set (Yqg _),by rw[hv];exact hp.setNU hrow (by simp) rfl⟩
variable {N:Nat} {h:T O} {w:List Nat}
def A.w99:=A.q Tryz.f99
def A.lb99_0:=A.ql A.w99 0 []
def A.b99:=(fun x0=>A.qb A.w99 [x0]) A.lb99_0
def A.k99:=@A.kk 99 15 [.tmp 2] A.b99 (by kernel_rfl) rfl
def A.w175:=A.q Tryz.f175
def A.lb175_0:=A.ql A.w175 0 []
def A.b175:=(fun x0=>A.qb A.w175 [x0]) A.lb175_0
def A.k175:=@A.kk 175 15 [.tmp 2] A.b175 (by kernel_rfl) rfl
def Zva{v:V}{l:List Int}(hs:Sl h N v (dI l))(hl:l.length<1000):A.C.call (.func 99 [] []) [v] ⟨h,N,w⟩=some (.int .i64 (Zau l),⟨h,N,w⟩):=by
 apply Call.eq
 have hlen:=hs.len
 rw[Zas]at hlen
 rw[Zab,A.k99 (by simp)]
 simp[A.b99,hlen]
 refine Zaj [(2,2),(4,4),(7,14)] (fun e r st=>st=⟨h,N,[]⟩∧((e=.exit 0∧Zau l=0)∨(e=.ret∧r.get 2=some (.int .i64 (Zau l))))) (fun m r st=>st=⟨h,N,[]⟩∧∃k,m=l.length-k∧k≤l.length∧r.get 7=some (.int .i64 k)∧Zau l=Zau (l.drop k)) l.length ?_ ?_ ?_
 ·exact⟨rfl,0,by omega,by omega,by simp,by simp⟩
 ·rintro m r _ hr hf ⟨rfl,k,rfl,hk,h7,hz⟩
  rw[Zai]
  by_cases hlt:k<l.length
  ·obtain⟨c,hc⟩:=Zan hlt
   obtain⟨i,o,cc,e,rw,q1,q2,q3,q4⟩:=hs.at (Zbf hc)
   rw[Za2 hc,Zau]at hz
   have hk1:(k:Int)<(l.length:Int):=by omega
   by_cases h0:c=0
   ·rw[Yqi h0]at hz
    simp(disch:=first|(simp;done)|omega|(simp only[Zad,Zae,Yqd];omega)|rfl) [A.lb99_0,hr,hf,h7,hk1,hlt,hlen,q1,q3,q4,Zak,h0]
    exact⟨_,by omega,k+1,rfl,by omega,by simp,hz⟩
   ·rw[Yqe h0]at hz
    simp[A.lb99_0,hr,hf,h7,hk1,hlen,q1,q3,q4,h0,hz]
  ·have:l.drop k=[]:=Yrr (by omega)
   rw[this,Zau]at hz
   have:k=l.length:=by omega
   subst this
   simp[A.lb99_0,hr,hf,h7,hz]
 ·rintro _ r _ hr ⟨rfl,⟨rfl,hz⟩|⟨rfl,h2⟩⟩
  ·simp[hz]
  ·simp[h2]
def Zz3{v:V}{l:List Int}(hs:Sl h N v (dI l))(hl:l.length<1000):A.C.call (.func 175 [] []) [v] ⟨h,N,w⟩=some (.int .i64 (Zau l),⟨h,N,w⟩):=by
 apply Call.eq
 have hlen:=hs.len
 rw[Zas]at hlen
 rw[Zab,A.k175 (by simp)]
 simp[A.b175,hlen]
 refine Zaj [(2,2),(4,4),(7,14)] (fun e r st=>st=⟨h,N,[]⟩∧((e=.exit 0∧Zau l=0)∨(e=.ret∧r.get 2=some (.int .i64 (Zau l))))) (fun m r st=>st=⟨h,N,[]⟩∧∃k,m=l.length-k∧k≤l.length∧r.get 7=some (.int .i64 k)∧Zau l=Zau (l.drop k)) l.length ?_ ?_ ?_
 ·exact⟨rfl,0,by omega,by omega,by simp,by simp⟩
 ·rintro m r _ hr hf ⟨rfl,k,rfl,hk,h7,hz⟩
  rw[Zai]
  by_cases hlt:k<l.length
  ·obtain⟨c,hc⟩:=Zan hlt
   obtain⟨i,o,cc,e,rw,q1,q2,q3,q4⟩:=hs.at (Zbf hc)
   rw[Za2 hc,Zau]at hz
   have hk1:(k:Int)<(l.length:Int):=by omega
   by_cases h0:c=0
   ·rw[Yqi h0]at hz
    simp(disch:=first|(simp;done)|omega|(simp only[Zad,Zae,Yqd];omega)|rfl) [A.lb175_0,hr,hf,h7,hk1,hlt,hlen,q1,q3,q4,Zak,h0]
    exact⟨_,by omega,k+1,rfl,by omega,by simp,hz⟩
   ·rw[Yqe h0]at hz
    simp[A.lb175_0,hr,hf,h7,hk1,hlen,q1,q3,q4,h0,hz]
  ·have:l.drop k=[]:=Yrr (by omega)
   rw[this,Zau]at hz
   have:k=l.length:=by omega
   subst this
   simp[A.lb175_0,hr,hf,h7,hz]
 ·rintro _ r _ hr ⟨rfl,⟨rfl,hz⟩|⟨rfl,h2⟩⟩
  ·simp[hz]
  ·simp[h2]
def Zii{i:Nat}{a0 a1:Int}(hi:i<N):A.C.call (.func 175 [] []) [.slice i 0 2 (some 2) 1] ⟨h.set i (.cells [.int .i64 a0,.int .i64 a1] 26 true),N,w⟩=some (.int .i64 (Zau [a0,a1]),⟨h.set i (.cells [.int .i64 a0,.int .i64 a1] 26 true),N,w⟩):=
 Zz3 (l:=[a0,a1]) (Sl.row (e:=26) (rw:=true) (cp:=some 2) hi (by simp[dI]) rfl (by simp)) (by simp)
def Zzo{i:Nat}{a0 a1:Int}(hi:i<N):A.C.call (.func 99 [] []) [.slice i 0 2 (some 2) 1] ⟨h.set i (.cells [.int .i64 a0,.int .i64 a1] 26 true),N,w⟩=some (.int .i64 (Zau [a0,a1]),⟨h.set i (.cells [.int .i64 a0,.int .i64 a1] 26 true),N,w⟩):=
 Zva (l:=[a0,a1]) (Sl.row (e:=26) (rw:=true) (cp:=some 2) hi (by simp[dI]) rfl (by simp)) (by simp)
end
end Go.Mx
