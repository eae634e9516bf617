/-strings-/
import Derived.Test.YtgnadghjglamaaaGreatDoorNbC
set_option linter.all false
namespace Go.Mx
noncomputable section
open Go Go.Proofs
variable {N i:Nat} {h:T O} {rw:Bool} {s:Str}
set_option maxRecDepth 1000000
def A.b227:Zaw:=sr [ge 4 (.mov (.const (.str [])))]
 (.seq (sr [mv 7 0,ge 8 (.bin .eql (.prim .str) true (tq 7) (.const (.str []))),mv 9 8,mh 10 1 9,gz 11 9 (.bin .eql (.prim .str) true (tq 10) (.const (.str []))),pt 12 9 11]
 (cd 12
 (sr [mv 13 0,mv 4 13]
 (.ret))
 (.skip)))
 (.seq (sr [mv 14 1,ge 15 (.len 0 (tq 14)),ei 16 15 1,mv 17 16,mg 18 1 17,gy 19 17 (.idxStr (tq 18) (kq 0)),gy 20 17 (.bin .lss (.node []) false (tq 19) (.const (.int .u8 128))),pf 21 17 20]
 (cd 21
 (.seq (.regD [mv 22 0,mv 23 1,ge 24 (.idxStr (tq 23) (kq 0)),c2 25 255 22 24,mv 26 1,ge 27 (.idxStr (tq 26) (kq 0)),c2 28 254 25 27,mv 4 28] [0,0,2,7,0,16,63,127])
 (.ret))
 (.skip)))
 (.seq (sr [mv 30 1,c1 31 256 30,mv 29 31,xt 32 29 0,xt 33 29 1,ge 5 (.alloc (Znu 0) 259),gn (.store 256 (tq 5) (tq 32)),mv 6 33]
 (sr [mv 34 6]
 (cd 34
 (sr [mv 35 0,c2 36 258 35 5,c2 37 257 36 5,mv 4 37]
 (.ret))
 (.skip))))
 (sr [mv 38 0,mv 39 1,c2 40 260 38 39,mv 41 1,c2 42 259 40 41,mv 4 42]
 (.ret)))))
def A.k227:=@A.kk 227 43 [.tmp 4] A.b227 (by kernel_rfl) rfl
def A.lb256_0:Zaw:=.seq (sr [mv 6 4,mv 7 0,ge 8 (.len 0 (tq 7)),bi 9 .lss 6 8]
 (cd 9
 (.skip)
 (.exit 0)))
 (.seq (.block 1 (sr [mv 12 0,mv 13 4,ge 14 (.idxStr (tq 12) (tq 13)),mv 5 14]
 (.seq (sr [mv 15 5,ge 16 (.bin .geq (.node []) false (tq 15) (.const (.int .u8 128)))]
 (cd 16
 (sr [lN 17 256 2,gn (.store 256 (tq 2) (tq 17)),ge 3 (.mov (.const (.bool false)))]
 (.ret))
 (.skip)))
 (.reg [mv 18 5,ge 19 (.iaddrArr 256 1 (tq 2) (tq 18)),gn (.store 1 (tq 19) (.const (.bool true)))]))))
 (.reg [mv 10 4,bc 11 .add 10 1,mv 4 11]))
def A.b256:Zaw:=sr [ge 2 (.alloc (Znu 0) 259),ge 3 (.mov (.const (.bool false)))]
 (.seq (sr [mc 4 0]
 (.block 0 (.loop A.lb256_0)))
 (sr [lN 20 256 2,gn (.store 256 (tq 2) (tq 20)),ge 3 (.mov (.const (.bool true)))]
 (.ret)))
def A.k256:=@A.kk 256 21 [.cell 2 (some 256),.tmp 3] A.b256 (by kernel_rfl) rfl
def A.w257:=A.q Tryz.f257
def A.lb257_0:=A.ql A.w257 0 []
def A.b257:=(fun x0=>A.qb A.w257 [x0]) A.lb257_0
def A.k257:=@A.kk 257 16 [.tmp 4] A.b257 (by kernel_rfl) rfl
def A.w258:=A.q Tryz.f258
def A.lb258_0:=A.ql A.w258 0 []
def A.b258:=(fun x0=>A.qb A.w258 [x0]) A.lb258_0
def A.k258:=@A.kk 258 22 [.tmp 4] A.b258 (by kernel_rfl) rfl
def A.b288:=A.q Tryz.f288
def A.k288:=@A.kk 288 10 [.tmp 4] A.b288 (by kernel_rfl) rfl
def A.b187:=A.q Tryz.f187
def A.k187:=@A.kk 187 19 [.tmp 2] A.b187 (by kernel_rfl) rfl
def Zx0:Fn A.C 256 [(.str [48,49,50,51,52,53,54,55,56,57])] h N (fun v _ _=>v=.tup [.agg (Znu 10),.bool true]):=by
 intro w
 rw[Zaf,A.k256 (by simp)]
 simp[A.b256]
 refine Zak [(3,19)] (fun e r st=>e=.exit 0∧st.n=N+1∧Zae N st.w=[]∧Keeps h N st.h (N+1)∧st.h.get N=some (.cells (Znu 10) 259 true)) (fun m r st=>st.n=N+1∧Zae N st.w=[]∧Keeps h N st.h (N+1)∧∃k,m=10-k∧k≤10∧r.get 4=some (.int .i64 k)∧st.h.get N=some (.cells (Znu k) 259 true)) 10 ?_ ?_ ?_
 ·exact⟨rfl,rfl,(Keeps.refl.set (Yru _)).up (by omega),0,by omega,by omega,by simp,by simp⟩
 ·rintro m r ⟨H,n1,W⟩ hr hf ⟨hn,hW,hK,k,rfl,hk,h4,hrow⟩
  simp only at hn hW hK hrow
  subst hn
  rw[Zai]
  by_cases hlt:k<10
  ·obtain⟨c,hc,hcu⟩:=Ygi hlt
   unfold Yph at hc
   have a1:¬128≤u8I c:=by omega
   have a2:u8I c<256:=by omega
   have a3:0≤u8I c:=by omega
   have a4:(u8I c).toNat=48+k:=by omega
   have hlt':(k:Int)<10:=by omega
   have hs:=Yg2 hlt
   have q1:=Zds k
   simp(disch:=first|(simp;done)|omega|(simp only[Zab,Zaa,Yrr];omega)|rfl) [-getElem?_pos,A.lb256_0,hr,hf,h4,hlt',hc,a1,a2,a3,a4,hs,hrow,hW]
   exact⟨_,by omega,hK.set (Yru N),k+1,rfl,by omega,by simp,rfl⟩
  ·have:k=10:=by omega
   subst this
   simp(disch:=first|(simp;done)|omega|(simp only[Zab,Zaa,Yrr];omega)|rfl) [-getElem?_pos,A.lb256_0,hr,hf,h4,hrow,hW]
   exact hK
 ·rintro e r ⟨H,n1,W⟩ hr ⟨rfl,hn,hW,hK,hrow⟩
  simp only at hn hW hK hrow
  subst hn
  have q1:=Zds 10
  simp(disch:=first|(simp;done)|omega|(simp only[Zab,Zaa,Yrr];omega)|rfl) [-getElem?_pos,hr,Ret,hW,hrow,Zaj,slc,Zds,Zwl]
  exact hK.set (Yru N)
def Znk{c:UInt8}{w:List Nat}{e:TypeId}(hr:h.get i=some (.cells (Znu 10) e rw)):A.C.call (.func 288 [] []) [.ptr i 0,.int .u8 (u8I c)] ⟨h,N,w⟩=some (.bool (Zko c),⟨h,N,w⟩):=by
 apply Call.eq
 rw[Zaf,A.k288 (by simp)]
 have hu:=Zzo c
 have e2:(Znu 10)[(u8I c).toNat]?=some (.bool (Zko c)):=by
  rw[Zh4 (by omega),Ycw]
  congr 2
  rw[decide_eq_decide];omega
 simp(disch:=first|(simp;done)|omega|(simp only[Zab,Zaa,Yrr];omega)|rfl) [-getElem?_pos,A.b288,hr,hu,e2]
def Ygk{k:Nat}{c:UInt8}(hl:s.length=k+1)(hc:s[k]?=some c):Zb7 s=(Zb7 (s.take k)&&Zko c):=by
 unfold Zb7
 have:s=s.take k++[c]:=by
  conv=>lhs;rw[←Ytj k s]
  rw[Zaz hc,Ytb (by omega)]
 conv=>lhs;rw[this]
 simp
def Ycv{s:Str}{c:UInt8}(hc:s[0]?=some c):Zb7 s=(Zko c&&Zb7 (s.drop 1)):=by
 cases s with
 |nil=>simp at hc
 |cons d s=>simp at hc;subst hc;rfl
def Ygj{k:Nat}{c:UInt8}(hc:s[k]?=some c)(hd:Zko c=false):Zb7 s=false:=by
 unfold Zb7
 rw[List.all_eq_false]
 exact⟨c,Yr1 hc,by simp[hd]⟩
def Ydw(s:Str)(v:V):Prop:=∃t:Str,v=.str t∧t.length≤s.length∧Zb7 t=Zb7 s∧(Zb7 s=true→t=[])
def Zqj{e:TypeId}(hr0:h.get i=some (.cells (Znu 10) e rw))(hl:s.length<4611686018427387904):Fn A.C 258 [.str s,.ptr i 0] h N (fun v _ _=>Ydw s v):=by
 intro w
 rw[Zaf,A.k258 (by simp)]
 simp[A.b258]
 refine Zak [(0,0),(5,20)] (fun e r st=>e=.exit 0∧st=⟨h,N,[]⟩∧∃t:Str,r.get 0=some (.str t)∧t.length≤s.length∧Zb7 t=Zb7 s∧(Zb7 s=true→t=[])) (fun m r st=>st=⟨h,N,[]⟩∧∃t:Str,m=t.length∧t.length≤s.length∧r.get 0=some (.str t)∧Zb7 t=Zb7 s) s.length ?_ ?_ ?_
 ·exact⟨rfl,s,rfl,by omega,by simp,rfl⟩
 ·rintro m r _ hr hf ⟨rfl,t,rfl,hle,h0,ht⟩
  rw[Zai]
  by_cases hz:t.length=0
  ·have:t=[]:=Yr7 hz
   subst this
   simp(disch:=first|(simp;done)|omega|(simp only[Zab,Zaa,Yrr];omega)|rfl) [-getElem?_pos,A.lb258_0,hr,hf,h0,ht]
  ·obtain⟨k,hk⟩:∃k,t.length=k+1:=⟨t.length-1,by omega⟩
   obtain⟨c,hc⟩:=Zao (l:=t) (k:=k) (by omega)
   have hk':(t.length:Int)=k+1:=by omega
   have hk0:(0:Int)<(k:Int)+1:=by omega
   have hk1:(k:Int)+1-1=k:=by omega
   have hcon:=fun w=>Znk (c:=c) (N:=N) (w:=w) hr0
   by_cases hd:Zko c=true
   ·simp(disch:=first|(simp;done)|omega|(simp only[Zab,Zaa,Yrr];omega)|rfl) [-getElem?_pos,A.lb258_0,hr,hf,h0,hk',hk0,hk1,hc,hcon,hd,evOpt]
    exact⟨k,by omega,t.take k,by simp;omega,by simp;omega,rfl,by rw[←ht,Ygk hk hc,hd];simp⟩
   ·have hd:Zko c=false:=by simpa using hd
    simp(disch:=first|(simp;done)|omega|(simp only[Zab,Zaa,Yrr];omega)|rfl) [-getElem?_pos,A.lb258_0,hr,hf,h0,hk',hk0,hk1,hc,hcon,hd,evOpt]
    have hq:=Ygj hc hd
    rw[ht]at hq
    simp[hq,hle]
    rw[ht];exact hq
 ·rintro _ r _ hr ⟨rfl,rfl,t,h0,hle,ht,he⟩
  simp(disch:=first|(simp;done)|omega|(simp only[Zab,Zaa,Yrr];omega)|rfl) [-getElem?_pos,hr,h0,Ret,Ydw]
  exact⟨Keeps.refl,hle,ht,he⟩
def Zsn{e:TypeId}(hr0:h.get i=some (.cells (Znu 10) e rw))(hl:s.length<4611686018427387904):Fn A.C 257 [.str s,.ptr i 0] h N (fun v _ _=>Ydw s v):=by
 intro w
 rw[Zaf,A.k257 (by simp)]
 simp[A.b257]
 refine Zak [(0,0),(5,14)] (fun e r st=>e=.exit 0∧st=⟨h,N,[]⟩∧∃t:Str,r.get 0=some (.str t)∧t.length≤s.length∧Zb7 t=Zb7 s∧(Zb7 s=true→t=[])) (fun m r st=>st=⟨h,N,[]⟩∧∃t:Str,m=t.length∧t.length≤s.length∧r.get 0=some (.str t)∧Zb7 t=Zb7 s) s.length ?_ ?_ ?_
 ·exact⟨rfl,s,rfl,by omega,by simp,rfl⟩
 ·rintro m r _ hr hf ⟨rfl,t,rfl,hle,h0,ht⟩
  rw[Zai]
  by_cases hz:t.length=0
  ·have:t=[]:=Yr7 hz
   subst this
   simp(disch:=first|(simp;done)|omega|(simp only[Zab,Zaa,Yrr];omega)|rfl) [-getElem?_pos,A.lb257_0,hr,hf,h0,ht]
  ·cases t with
   |nil=>simp at hz
   |cons c t=>
    have hk0:(0:Int)<(t.length:Int)+1:=by omega
    have hcon:=fun w=>Znk (c:=c) (N:=N) (w:=w) hr0
    have hdf:=Ycv (s:=c::t) (c:=c) rfl
    by_cases hd:Zko c=true
    ·simp(disch:=first|(simp;done)|omega|(simp only[Zab,Zaa,Yrr];omega)|rfl) [-getElem?_pos,A.lb257_0,hr,hf,h0,hk0,hcon,hd,evOpt]
     simp only[Yrr]at hle
     rw[hd]at hdf
     exact⟨t.length,by omega,t,rfl,by omega,rfl,by rw[←ht,hdf];rfl⟩
    ·have hd:Zko c=false:=by simpa using hd
     simp(disch:=first|(simp;done)|omega|(simp only[Zab,Zaa,Yrr];omega)|rfl) [-getElem?_pos,A.lb257_0,hr,hf,h0,hk0,hcon,hd,evOpt]
     rw[hd]at hdf
     rw[ht]at hdf
     simp only[Yrr]at hle
     simp[hdf,hle]
     rw[ht,hdf];rfl
 ·rintro _ r _ hr ⟨rfl,rfl,t,h0,hle,ht,he⟩
  simp(disch:=first|(simp;done)|omega|(simp only[Zab,Zaa,Yrr];omega)|rfl) [-getElem?_pos,hr,h0,Ret,Ydw]
  exact⟨Keeps.refl,hle,ht,he⟩
def Zwx(hl:s.length<4611686018427387904):Fn A.C 227 [.str s,(.str [48,49,50,51,52,53,54,55,56,57])] h N (fun v _ _=>Ydw s v):=by
 intro w
 rw[Zaf,A.k227 (by simp)]
 by_cases he:s=[]
 ·subst he
  simp(disch:=first|(simp;done)|omega|(simp only[Zab,Zaa,Yrr];omega)|rfl) [-getElem?_pos,A.b227,Zag,Ret]
  exact⟨Keeps.refl,[],rfl,Yru _,rfl,fun _=>rfl⟩
 ·have e1:(s==[])=false:=by simp[he]
  have e2:s.isEmpty=false:=by simp[he]
  simp(disch:=first|(simp;done)|omega|(simp only[Zab,Zaa,Yrr];omega)|rfl) [-getElem?_pos,A.b227,Zag,e1,e2]
  refine Zac Zx0 ?_
  rintro v h1 n1 k1 rfl
  have q1:=Zds 10
  simp(disch:=first|(simp;done)|omega|(simp only[Zab,Zaa,Yrr];omega)|rfl) [-getElem?_pos,]
  refine Zac (Zqj (e:=259) (rw:=true) ?_ hl) ?_
  ·simp
  rintro v h2 n2 k2 ⟨t,rfl,hle,ht,hte⟩
  have hN1:h2.get n1=some (.cells (Znu 10) 259 true):=by
   rw[k2.get _ (by omega)]
   simp
  simp(disch:=first|(simp;done)|omega|(simp only[Zab,Zaa,Yrr];omega)|rfl) [-getElem?_pos,]
  refine Zac (Zsn (e:=259) (rw:=true) hN1 (by omega)) ?_
  rintro v h3 n3 k3 ⟨u,rfl,hle2,hu,hue⟩
  have kk:Keeps h N h3 n3:=(((k1.set k1.le).set k1.le).up (Yuu n1)).trans (k2.trans k3)
  simp(disch:=first|(simp;done)|omega|(simp only[Zab,Zaa,Yrr];omega)|rfl) [-getElem?_pos,Ret]
  exact⟨k1.le,kk,u,rfl,by omega,by rw[hu,ht],fun h=>hue (by rw[ht];exact h)⟩
def Zg9{s:Str}{h:T O}{N:Nat}(hl:s.length<4611686018427387904):Fn A.C 187 [.str s] h N (fun v _ _=>v=.bool (Zcs s)):=by
 intro w
 rw[Zaf,A.k187 (by simp)]
 cases s with
 |nil=>simp(disch:=first|(simp;done)|omega|(simp only[Zab,Zaa,Yrr];omega)|rfl) [-getElem?_pos,A.b187,Ret,Zcs];exact Keeps.refl
 |cons c s=>
  simp(disch:=first|(simp;done)|omega|(simp only[Zab,Zaa,Yrr];omega)|rfl) [-getElem?_pos,A.b187]
  refine Zac (Zwx hl) ?_
  rintro v h1 n1 k1 ⟨t,rfl,hle,ht,hte⟩
  have hd:Zcs (c::s)=(Zb7 (c::s)&&(decide (u8I c≠48)||decide (s=[]))):=by
   have:decide (c.toNat≠48)=decide (u8I c≠48):=by unfold u8I;rw[decide_eq_decide];omega
   simp only[Zcs,this];rfl
  by_cases ha:Zb7 (c::s)=true
  ·have:=hte ha
   subst this
   by_cases h0:u8I c=48
   ·have hc:c=48:=by unfold u8I at h0;exact UInt8.toNat_inj.1 (by show c.toNat=48;omega)
    subst hc
    simp(disch:=first|(simp;done)|omega|(simp only[Zab,Zaa,Yrr];omega)|rfl) [-getElem?_pos,Zag,hd,ha,h0,Ret,k1]
    cases s<;>rfl
   ·simp(disch:=first|(simp;done)|omega|(simp only[Zab,Zaa,Yrr];omega)|rfl) [-getElem?_pos,Zag,hd,ha,h0,Ret,k1]
  ·have ha:Zb7 (c::s)=false:=by simpa using ha
   rw[ha]at ht
   have e1:(t==[])=false:=by
    cases t with
    |nil=>cases ht
    |cons=>rfl
   have e2:t.isEmpty=false:=by
    cases t with
    |nil=>cases ht
    |cons=>rfl
   simp(disch:=first|(simp;done)|omega|(simp only[Zab,Zaa,Yrr];omega)|rfl) [-getElem?_pos,Zag,hd,ha,e1,e2,Ret,k1]
def A.w247:=A.q Tryz.f247
def A.lb247_0:=A.ql A.w247 0 []
def A.b247:=(fun x0=>A.qb A.w247 [x0]) A.lb247_0
def A.k247:=@A.kk 247 77 [.tmp 2,.tmp 3] A.b247 (by kernel_rfl) rfl
def A.b219:=A.q Tryz.f219
def A.k219:=@A.kk 219 18 [.tmp 2,.tmp 3] A.b219 (by kernel_rfl) rfl
def Yf4{s:Str}{h:T O}{N:Nat}(hd:Zb7 s=true)(h1:1≤s.length)(h2:s.length≤18):Fn A.C 247 [.str s] h N (fun v _ _=>v=.tup [.int .i64 (numV s:Nat),.niliface]):=by
 intro w
 obtain⟨c,hc⟩:=Zao (l:=s) (k:=0) (by omega)
 have hcd:=Zkk hd hc
 have a1:¬u8I c=45:=by omega
 have a2:¬u8I c=43:=by omega
 have a3:(0:Int)<(s.length:Int):=by omega
 have a5:(s.length:Int)<19:=by omega
 have h10:0<s.length:=by omega
 have hne:s≠[]:=fun h=>by rw[h]at h1;simp at h1
 have hc0:s.head?=some c:=by cases s with
  |nil=>simp at hc
  |cons=>simpa using hc
 rw[Zaf,A.k247 (by simp)]
 by_cases a4:(s.length:Int)<10
 all_goals
  simp(disch:=first|(simp;done)|omega|(simp only[Zab,Zaa,Yrr];omega)|rfl) [-getElem?_pos,A.b247,a3,a4,a5,hne,h10,hc0,hc,Zag,a1,a2]
  refine Zak [(2,3),(6,6),(8,8),(49,63)] (fun e r st=>st.n=N+1∧Zae N st.w=[]∧Keeps h N st.h (N+1)∧e=.exit 0∧r.get 6=some (.int .i64 (numV s:Nat))) (fun m r st=>st.n=N+1∧Zae N st.w=[]∧Keeps h N st.h (N+1)∧st.h.get N=some (.cells (Zno s) 5 true)∧∃k,m=s.length-k∧k≤s.length∧r.get 49=some (.int .i64 k)∧r.get 6=some (.int .i64 (numV (s.take k):Nat))) s.length ?_ ?_ ?_
  ·exact⟨rfl,rfl,(Keeps.refl.set (Yru _)).up (by omega),by simp,0,by omega,by omega,by simp,by simp[numV]⟩
  ·rintro m r ⟨H,n1,W⟩ hr hf ⟨hn,hW,hK,hrow,k,rfl,hk,h49,h6⟩
   simp only at hn hW hK hrow
   subst hn
   rw[Zai]
   by_cases hlt:k<s.length
   ·obtain⟨c,hc⟩:=Zao hlt
    have hd1:=Zkk hd hc
    have hb:=Zy9 hc
    have hv:=Zm1 hc
    have hb1:=Zpr hd k hk
    have hb2:=Zvf (a:=k) (b:=17) (by omega)
    have b1:¬9<u8I c-48:=by omega
    have b2:Zap .u8 (u8I c-48)=u8I c-48:=Zd6 (by omega) (by omega)
    have b3:((numV (s.take (k+1)):Nat):Int)=(numV (s.take k):Nat)*10+(u8I c-48):=by
     rw[hv];unfold u8I at*;omega
    have b4:((numV (s.take k):Nat):Int)<100000000000000000:=by
     have:(10:Nat)^17=100000000000000000:=by decide
     omega
    generalize hy:numV (s.take (k+1))=y at*
    generalize numV (s.take k)=x at*
    simp(disch:=first|(simp;done)|omega|(simp only[Zab,Zaa,Yrr];omega)|rfl) [-getElem?_pos,A.lb247_0,hr,hf,h49,h6,hlt,hrow,hb,b1,b2,hW]
    exact⟨_,by omega,hK,k+1,rfl,by omega,by simp,by rw[hy,b3]⟩
   ·have:k=s.length:=by omega
    subst this
    simp(disch:=first|(simp;done)|omega|(simp only[Zab,Zaa,Yrr];omega)|rfl) [-getElem?_pos,A.lb247_0,hr,hf,h49,hW]
    rw[Yt9]at h6
    exact⟨hK,h6⟩
  ·rintro _ r ⟨H,n1,W⟩ hr ⟨hn,hW,hK,rfl,h6⟩
   simp only at hn hW hK
   subst hn
   simp(disch:=first|(simp;done)|omega|(simp only[Zab,Zaa,Yrr];omega)|rfl) [-getElem?_pos,hr,Ret,hW,hK,h6,hc0,hc,Zag,a1]
def Ylg{s:Str}{h:T O}{N:Nat}(hd:Zb7 s=true)(h1:1≤s.length)(h2:s.length≤18):Fn A.C 219 [.str s] h N (fun v _ _=>v=.tup [.int .i64 (numV s:Nat),.niliface]):=by
 intro w
 rw[Zaf,A.k219 (by simp)]
 simp(disch:=first|(simp;done)|omega|(simp only[Zab,Zaa,Yrr];omega)|rfl) [-getElem?_pos,A.b219]
 refine Zac (Yf4 hd h1 h2) ?_
 rintro v h1 n1 k1 rfl
 simp(disch:=first|(simp;done)|omega|(simp only[Zab,Zaa,Yrr];omega)|rfl) [-getElem?_pos,Zag,Ret,k1]
variable {M N a k o:Nat} {h:T O} {s:Str}
set_option maxHeartbeats 2000000
def A.w184:=A.q Tryz.f184
def A.lb184_0:=A.ql A.w184 0 []
def A.b184:=(fun x0=>A.qb A.w184 [x0]) A.lb184_0
def A.k184:=@A.kk 184 23 [.cell 4 (some 2)] A.b184 (by kernel_rfl) rfl
def A.w169:=A.q Tryz.f169
def A.lb169_0:=A.ql A.w169 0 []
def A.b169:=(fun x0=>A.qb A.w169 [x0]) A.lb169_0
def A.k169:=@A.kk 169 41 [.cell 2 (some 2)] A.b169 (by kernel_rfl) rfl
def Ye5(h:o*a^k=M)(ha:1≤a)(ho:1≤o)(hk:1≤k):o*a≤M∧a≤M∧o≤M:=by
 have h1:a^1≤a^k:=Ysu ha hk
 rw[Nat.pow_one]at h1
 have h2:o*a≤o*a^k:=Yr9 o h1
 have h3:1*a≤o*a:=Ysb a ho
 have h4:o*1≤o*a:=Yr9 o ha
 omega
def Ymb(h:o*a^k=M)(ha:1≤a)(ho:1≤o)(hk:1<k):a*a≤M:=by
 have h1:a^2≤a^k:=Ysu ha hk
 have h2:1*a^k≤o*a^k:=Ysb _ ho
 have h3:a^2=a*a:=by rw[Nat.pow_two]
 omega
def Ymc(h:o*a^k=M)(hk:k%2=1):(o*a)*(a*a)^(k/2)=M:=by
 rw[←h,←Nat.pow_two,←Nat.pow_mul,Yt3]
 congr 1
 conv=>rhs;rw[show k=2*(k/2)+1 by omega,Ysg]
 rw[Ysk]
def Yjd(h:o*a^k=M)(hk:k%2=0):o*(a*a)^(k/2)=M:=by
 rw[←h,←Nat.pow_two,←Nat.pow_mul,show 2*(k/2)=k by omega]
structure PwJ (h:T O) (N q M m:Nat) (r:T V) (st:St):Prop where
 w:Zae N st.w=[]
 keep:Keeps h N st.h st.n
 q1:N+2≤q
 q2:q<st.n
 row:st.h.get (N+1)=some (.cells [.int .i64 0,.nilslice] 108 true)
 r1:r.get 1=some (.int .i64 m)
 lm:m<4611686018427387904
 ex:∃(n1 n2:Int) (u1 u2:V) (a o:Nat),st.h.get N=some (.cells [.int .i64 n1,u1] 108 true)∧st.h.get q=some (.cells [.int .i64 n2,u2] 108 true)∧In st.h st.n (.agg [.int .i64 n1,u1]) a∧In st.h st.n (.agg [.int .i64 n2,u2]) o∧o*a^m=M∧1≤a∧1≤o∧wl a<10000000000
def Ye8{q:Nat}{r0:T V}(hM:wl M<10000000000)(a2:r0.get 2=some (.ptr N 0))(a5:r0.get 5=some (.ptr q 0)):
  ∀x r st,(∀t,inD [(1,1),(7,21)] t=false→r.get t=r0.get t)→Fx [(1,1),(7,21)] r0 23 ⟨r,23,[]⟩→PwJ h N q M x r st→Code A.C none A.lb184_0 ⟨r,23,[]⟩ st (Rd [(1,1),(7,21)] r0 23 (PwJ h N q M) x (fun e r st=>e=.exit 0∧PwJ h N q M 0 r st)):=by
 rintro m r ⟨H,n0,W⟩ hr hf ⟨hW,hK,hq1,hq2,hrow,r1,lm,n1,n2,u1,u2,a,o,g0,g1,ha,ho,hM2,a1,o1,la⟩
 simp only at hW hK hq2 hrow g0 g1 ha ho
 rw[Zai]
 have b1:=Yg3 (k:=m) (by omega)
 have b2:=Yeq (k:=m)
 by_cases h0:m=0
 ·subst h0
  simp(disch:=first|(simp;done)|omega|(simp only[Zab,Zaa,Yrr];omega)|rfl) [-getElem?_pos,A.lb184_0,hr,hf,r1]
  exact⟨hW,hK,hq1,hq2,hrow,by simp[r1],by omega,n1,n2,u1,u2,a,o,g0,g1,ha,ho,hM2,a1,o1,la⟩
 ·have c1:(0:Int)<(m:Int):=by omega
  have c2:0<m:=by omega
  obtain⟨t1,t2,t3⟩:=Ye5 hM2 a1 o1 c2
  have lo:wl o<10000000000:=Ysl (Zsj (a:=(o:Int)) (b:=(M:Int)) (by omega)) hM
  have loa:wl ((o*a:Nat):Int)<10000000000:=Ysl (Zsj (a:=((o*a:Nat):Int)) (b:=(M:Int)) (by omega)) hM
  obtain⟨_,_,e5,o5⟩:=ha.cells
  simp only[V.agg.injEq,Yse,V.int.injEq,true_and,and_true]at e5
  obtain⟨rfl,rfl⟩:=e5
  unfold V.one at o5
  have wok:¬q<N:=by omega
  by_cases hp:m%2=1
  ·have p1:(m:Int)%2=1:=by omega
   simp(disch:=first|(simp;done)|omega|(simp only[Zab,Zaa,Yrr];omega)|rfl) [-getElem?_pos,A.lb184_0,hr,hf,r1,a2,a5,c1,c2,b1,b2,hp,p1,Zag,g0,g1,Zaj,slc]
   refine Zac (Zg4 ho ha (by omega) (by omega)) ?_
   rintro v h3 n3 k3 hv
   rw[←Yvf]at hv
   obtain⟨n6,u6,rfl,o6⟩:=hv.cells
   unfold V.one at o6
   have kle3:=k3.le
   have f0:=(k3.get N (by omega)).trans g0
   have f1:=(k3.get q (by omega)).trans g1
   have f2:=(k3.get (N+1) (by omega)).trans hrow
   have d1:¬N=q:=by omega
   have d2:¬N+1=q:=by omega
   have d3:¬q=N:=by omega
   have ha3:=(ha.keep k3).setNU (c1:=[.int .i64 n6,u6]) (e1:=108) (w1:=true) f1 ho.nu rfl
   have hv3:=hv.setNU (c1:=[.int .i64 n6,u6]) (e1:=108) (w1:=true) f1 ho.nu rfl
   have f0':(h3.set q (.cells [.int .i64 n6,u6] 108 true)).get N=some (.cells [.int .i64 n1,u1] 108 true):=by rw[T.get_set,Yrt d1];exact f0
   have f1':(h3.set q (.cells [.int .i64 n6,u6] 108 true)).get q=some (.cells [.int .i64 n6,u6] 108 true):=by simp
   have f2':(h3.set q (.cells [.int .i64 n6,u6] 108 true)).get (N+1)=some (.cells [.int .i64 0,.nilslice] 108 true):=by rw[T.get_set,Yrt d2];exact f2
   have kH:=(hK.trans k3).set (i:=q) (o:=.cells [.int .i64 n6,u6] 108 true) (by omega)
   by_cases hp1:1<m
   ·have p2:(1:Int)<(m:Int):=by omega
    have t4:=Ymb hM2 a1 o1 hp1
    have laa:wl ((a*a:Nat):Int)<10000000000:=Ysl (Zsj (a:=((a*a:Nat):Int)) (b:=(M:Int)) (by omega)) hM
    generalize hH:h3.set q (.cells [.int .i64 n6,u6] 108 true)=H3 at*
    simp(disch:=first|(simp;done)|omega|(simp only[Zab,Zaa,Yrr];omega)|rfl) [-getElem?_pos,r1,hr,a2,a5,f0,f1,d1,d3,o6,splice,Zam,hp1,p2,hH,f0',f1',Zaj,slc]
    refine Zac (Zg4 ha3 ha3 (by omega) (by omega)) ?_
    rintro v h4 n4 k4 hv4
    rw[←Yvf]at hv4
    obtain⟨n7,u7,rfl,o7⟩:=hv4.cells
    unfold V.one at o7
    have kle4:=k4.le
    have e0:=(k4.get N (by omega)).trans f0'
    have e1:=(k4.get q (by omega)).trans f1'
    have e2:=(k4.get (N+1) (by omega)).trans f2'
    simp(disch:=first|(simp;done)|omega|(simp only[Zab,Zaa,Yrr];omega)|rfl) [-getElem?_pos,r1,hr,hf,a2,e0,o7,splice,Zam,b2]
    refine⟨m/2,by omega,by simp[Zae,hW,wok],(kH.trans k4).set (Yru _),hq1,by show q<n4;omega,by simp[e2],by simp,by omega,n7,n6,u7,u6,a*a,o*a,by simp,by simp[d3,e1],hv4.setNU e0 ha.nu rfl,(hv3.keep k4).setNU e0 ha.nu rfl,Ymc hM2 hp,Yuc a1 a1,Yuc o1 a1,laa⟩
   ·have p2:¬(1:Int)<(m:Int):=by omega
    have m0:m/2=0:=by omega
    have m1':m=1:=by omega
    simp(disch:=first|(simp;done)|omega|(simp only[Zab,Zaa,Yrr];omega)|rfl) [-getElem?_pos,r1,hr,hf,a2,a5,f0,f1,d1,d3,o6,splice,Zam,hp1,p2,b2]
    refine⟨m/2,by omega,by simp[Zae,hW,wok],kH,hq1,by show q<n3;omega,f2',by simp,by omega,n1,n6,u1,u6,a,o*a,f0',f1',ha3,hv3,by rw[m0,←hM2,m1'];simp,a1,Yuc o1 a1,la⟩
  ·have p1:¬(m:Int)%2=1:=by omega
   have p0:m%2=0:=by omega
   have p2:(1:Int)<(m:Int):=by omega
   have hp1:1<m:=by omega
   have t4:=Ymb hM2 a1 o1 hp1
   have laa:wl ((a*a:Nat):Int)<10000000000:=Ysl (Zsj (a:=((a*a:Nat):Int)) (b:=(M:Int)) (by omega)) hM
   simp(disch:=first|(simp;done)|omega|(simp only[Zab,Zaa,Yrr];omega)|rfl) [-getElem?_pos,A.lb184_0,hr,hf,r1,a2,a5,c1,c2,b1,b2,hp,p1,p2,hp1,Zag,g0,g1,Zaj,slc]
   refine Zac (Zg4 ha ha (by omega) (by omega)) ?_
   rintro v h3 n3 k3 hv
   rw[←Yvf]at hv
   obtain⟨n6,u6,rfl,o6⟩:=hv.cells
   unfold V.one at o6
   have kle3:=k3.le
   have f0:=(k3.get N (by omega)).trans g0
   have f1:=(k3.get q (by omega)).trans g1
   have f2:=(k3.get (N+1) (by omega)).trans hrow
   have d3:¬q=N:=by omega
   simp(disch:=first|(simp;done)|omega|(simp only[Zab,Zaa,Yrr];omega)|rfl) [-getElem?_pos,r1,hr,hf,a2,f0,o6,splice,Zam,b2]
   refine⟨m/2,by omega,by simp[Zae,hW],(hK.trans k3).set (Yru _),hq1,by show q<n3;omega,by simp[f2],by simp,by omega,n6,n2,u6,u2,a*a,o,by simp,by simp[d3,f1],hv.setNU f0 ha.nu rfl,(ho.keep k3).setNU f0 ha.nu rfl,Yjd hM2 p0,Yuc a1 a1,o1,laa⟩
def Ymd{x:V}(hx:In h N x a)(ha:1≤a)(hk:k<4611686018427387904)(la:wl a<10000000000)(hM:wl ((a^k:Nat):Int)<10000000000):Fn A.C 184 [x,.int .i64 k] h N (fun v h' n'=>In h' n' v ((a^k:Nat):Int)):=by
 intro w
 rw[Zaf,A.k184 (by simp)]
 obtain⟨n1,u1,rfl,o1⟩:=hx.cells
 have kk:=kset (kset (Keeps.refl (h:=h) (n:=N)) (.cells [.int .i64 n1,u1] 108 true)) (.cells [.int .i64 0,.nilslice] 108 true)
 have hx':=hx.keep kk
 unfold V.one at o1
 simp(disch:=first|(simp;done)|omega|(simp only[Zab,Zaa,Yrr];omega)|rfl) [-getElem?_pos,A.b184,Zaj,slc,splice,o1]
 refine Zac Ztj ?_
 rintro _ h1 m1 k1 rfl
 have kle1:=k1.le
 have g0:=k1.get N (by omega)
 have g1:=k1.get (N+1) (by omega)
 simp at g0 g1
 have hx1:=hx'.keep k1
 have d1:¬N=m1:=by omega
 have d2:¬N+1=m1:=by omega
 have wok:¬m1<N:=by omega
 have kE:=(kset (Keeps.refl (h:=h1) (n:=m1)) (.cells [.int .i64 0,.nilslice] 108 true)).set (i:=m1) (o:=.cells [.int .i64 1,.nilslice] 108 true) (Yru _)
 simp(disch:=first|(simp;done)|omega|(simp only[Zab,Zaa,Yrr];omega)|rfl) [-getElem?_pos,Zaj,slc,splice,Zam]
 refine Zak [(1,1),(7,21)] _ (PwJ h N m1 (a^k)) k ?_ (Ye8 hM (by simp) (by simp)) ?_
 ·refine⟨by simp[Zae,wok],((kk.trans k1).trans kE),by omega,by show m1<m1+1;omega,by simp[d2,g1],by simp,hk,n1,1,u1,.nilslice,a,1,by simp[d1,g0],by simp,hx1.keep kE,In.small (by omega) (by omega),by simp,ha,by omega,la⟩
 rintro e r ⟨h5,m5,W5⟩ hr ⟨rfl,hW,hK,hq1,hq2,hrow,r1,lm,n5,n6,u5,u6,a',o,g5,g6,ha5,ho5,hM2,a1,o1',la'⟩
 simp only at hW hK hq2 hrow g5 g6 ha5 ho5
 obtain⟨_,_,e5,o5⟩:=ho5.cells
 simp only[V.agg.injEq,Yse,V.int.injEq,true_and,and_true]at e5
 obtain⟨rfl,rfl⟩:=e5
 unfold V.one at o5
 have he:(o:Int)=((a^k:Nat):Int):=by rw[←hM2];simp
 rw[he]at ho5
 have wok:¬N+1<N:=by omega
 simp(disch:=first|(simp;done)|omega|(simp only[Zab,Zaa,Yrr];omega)|rfl) [-getElem?_pos,hr,g6,hrow,Zaj,slc,splice,Zam,o5,Ret,hW,wok]
 exact⟨hK.set (by omega),ho5.setNU hrow (by simp) rfl⟩
def Ya1(x:Str):∀(y:Str),numV (x++y)=numV x*10^y.length+numV y:=by
 intro y
 generalize hn:y.length=n
 induction n generalizing y with
 |zero=>
  have:y=[]:=Yr7 hn
  subst this;simp[numV]
 |succ n ih=>
  obtain⟨u,d,rfl⟩:∃u d,y=u++[d]:=⟨y.dropLast,y.getLast (by rintro rfl;simp at hn),(Yvl _).symm⟩
  simp at hn
  rw[←Ysy,Zg3,Zg3,ih u hn,Ysg]
  grind
def Ze7{n:Nat}(h:n<10^k):wl n≤k:=by
 unfold wl
 apply Zfv
 have:(10:Nat)^k≤B^k:=Yuf (by decide) k
 simp;omega
def Zo4(h:Zb7 s=true)(k:Nat):Zb7 (s.take k)=true:=by
 unfold Zb7 at*
 rw[Ys5]at*
 exact fun x hx=>h x (Ytx hx)
def Zzd(h:Zb7 s=true)(k:Nat):Zb7 (s.drop k)=true:=by
 unfold Zb7 at*
 rw[Ys5]at*
 exact fun x hx=>h x (List.mem_of_mem_drop hx)
structure RdI (h:T O) (N:Nat) (s:Str) (m:Nat) (r:T V) (st:St):Prop where
 w:Zae N st.w=[]
 keep:Keeps h N st.h st.n
 le:N+2≤st.n
 row:st.h.get N=some (.cells [.int .i64 0,.nilslice] 108 true)
 ex:∃(cur:Str) (p:Nat) (n1:Int) (u1:V),r.get 0=some (.str cur)∧cur.length=m∧m≤s.length∧Zb7 cur=true∧st.h.get (N+1)=some (.cells [.int .i64 n1,u1] 108 true)∧In st.h st.n (.agg [.int .i64 n1,u1]) p∧numV s=p*10^m+numV cur
def Yah{r0:T V}(hd:Zb7 s=true)(hl:s.length≤100000)(a4:r0.get 4=some (.ptr (N+1) 0)):
  ∀x r st,(∀t,inD [(0,0),(5,7),(13,36)] t=false→r.get t=r0.get t)→Fx [(0,0),(5,7),(13,36)] r0 41 ⟨r,41,[]⟩→RdI h N s x r st→Code A.C none A.lb169_0 ⟨r,41,[]⟩ st (Rd [(0,0),(5,7),(13,36)] r0 41 (RdI h N s) x (fun e r st=>e=.exit 0∧RdI h N s 0 r st)):=by
 rintro m r ⟨H,n0,W⟩ hr hf ⟨hW,hK,hle,hrow,cur,p,n1,u1,hr0,hcl,hms,hcd,g1,hp,hv⟩
 simp only at hW hK hle hrow g1 hp
 rw[Zai]
 by_cases h0:m=0
 ·subst h0
  have:cur=[]:=Yr7 hcl
  subst this
  simp(disch:=first|(simp;done)|omega|(simp only[Zab,Zaa,Yrr];omega)|rfl) [-getElem?_pos,A.lb169_0,hr,hf,hr0]
  exact⟨hW,hK,hle,hrow,[],p,n1,u1,by simp[hr0],rfl,by omega,rfl,g1,hp,hv⟩
 ·obtain⟨n,hn⟩:∃n,n=min 18 m:=⟨_,rfl⟩
  have c1:0<cur.length:=by omega
  have c2:(0:Int)<(cur.length:Int):=by omega
  have c3:(if (cur.length:Int)<18 then (cur.length:Int) else 18)=(n:Int):=by split<;>omega
  have c4:(n:Int)≤(cur.length:Int):=by omega
  have hpv:p≤numV s:=by
   rw[hv]
   have:p*1≤p*10^m:=Yr9 p (Yuv (by decide))
   omega
  have hsl:=Zea hd
  have lp:wl (p:Int)≤100000:=Ytp (Ze7 (Ysl hpv hsl)) hl
  have hat:=fun (h:T O) (N:Nat)=>Ylg (s:=cur.take n) (h:=h) (N:=N) (Zo4 hcd n) (by rw[Ysi];omega) (by rw[Ysi];omega)
  have l10:wl ((10:Nat):Int)<10000000000:=by decide+kernel
  have lpw:wl ((10^n:Nat):Int)≤19:=Ze7 (Nat.pow_lt_pow_right (by decide) (by omega))
  have hnv:=Zea (Zo4 hcd n)
  have htl:(cur.take n).length=n:=by rw[Ysi];omega
  rw[htl]at hnv
  have h18:(10:Nat)^n≤10^18:=Ysu (by decide) (by omega)
  have e18:(10:Nat)^18=1000000000000000000:=by decide
  have lnv:wl ((numV (cur.take n):Nat):Int)≤18:=Ytp (Ze7 hnv) (by omega)
  simp(disch:=first|(simp;done)|omega|(simp only[Zab,Zaa,Yrr];omega)|rfl) [-getElem?_pos,A.lb169_0,hr,hf,hr0,c1,c2,Zjv,Yd0,Zvs,c3,c4,evOpt]
  refine Zac (hat _ _) ?_
  rintro _ h1 m1 k1 rfl
  have kle1:=k1.le
  have f1:=(k1.get (N+1) (by omega)).trans g1
  simp(disch:=first|(simp;done)|omega|(simp only[Zab,Zaa,Yrr];omega)|rfl) [-getElem?_pos,a4,hr,f1,Zaj,slc]
  refine Zac Ztj ?_
  rintro _ h2 m2 k2 rfl
  have kle2:=k2.le
  simp(disch:=first|(simp;done)|omega|(simp only[Zab,Zaa,Yrr];omega)|rfl) [-getElem?_pos,]
  refine Zac (Ymd (In.small (z:=(10:Nat)) (by omega) (by omega)) (by omega) (by omega) l10 (by omega)) ?_
  rintro vp h3 m3 k3 hvp
  have kle3:=k3.le
  simp(disch:=first|(simp;done)|omega|(simp only[Zab,Zaa,Yrr];omega)|rfl) [-getElem?_pos,]
  refine Zac (Zg4 (((hp.keep k1).keep k2).keep k3) hvp (by omega) (by omega)) ?_
  rintro vm h4 m4 k4 hvm
  have kle4:=k4.le
  have lm:=Zi8 (p:Int) ((10^n:Nat):Int)
  simp(disch:=first|(simp;done)|omega|(simp only[Zab,Zaa,Yrr];omega)|rfl) [-getElem?_pos,]
  refine Zac Ztj ?_
  rintro _ h5 m5 k5 rfl
  have kle5:=k5.le
  simp(disch:=first|(simp;done)|omega|(simp only[Zab,Zaa,Yrr];omega)|rfl) [-getElem?_pos,]
  refine Zac (Zse (hvm.keep k5) (In.small (z:=((numV (cur.take n):Nat):Int)) (by omega) (by omega)) (by omega) (by omega)) ?_
  rintro va h6 m6 k6 hva
  have kle6:=k6.le
  have k26:=(((k2.trans k3).trans k4).trans k5).trans k6
  have e1:=(k26.get (N+1) (by omega)).trans f1
  have e2:=(k26.get N (by omega)).trans ((k1.get N (by omega)).trans hrow)
  obtain⟨n6,u6,rfl,o6⟩:=hva.cells
  unfold V.one at o6
  have z1:N+1<m1:=by omega
  have z2:N+1<m6:=by omega
  have z3:¬N+1<N:=by omega
  have z4:N+1<m5:=by omega
  simp(disch:=first|(simp;done)|omega|(simp only[Zab,Zaa,Yrr];omega)|rfl) [-getElem?_pos,hr,hf,a4,hr0,e1,o6,z1,z2,z4,splice,Zam,evOpt,c4,Zal.chk]
  have hpe:(p:Int)*((10^n:Nat):Int)+((numV (cur.take n):Nat):Int)=((p*10^n+numV (cur.take n):Nat):Int):=by simp
  rw[hpe]at hva
  refine⟨m-n,by omega,by simp[Zae,hW,z3],((hK.trans k1).trans k26).set (by omega),by show N+2≤m6;omega,by simp[e2],cur.drop n,p*10^n+numV (cur.take n),n6,u6,by simp,by rw[Yt8];omega,by omega,Zzd hcd n,by simp,hva.setNU e1 hp.nu rfl,?_⟩
  have h1:=Ya1 (cur.take n) (cur.drop n)
  rw[Ytj,Yt8,hcl]at h1
  rw[hv,h1,Ysv,Yt3,←Ysr,show n+(m-n)=m by omega]
  omega
def Yai{s:Str}{h:T O}{N:Nat}(hd:Zb7 (Zaq s)=true)(hl:(Zaq s).length≤100000):Fn A.C 169 [.str s] h N (fun v h' n'=>In h' n' v (if negS s=true then -(numV (Zaq s):Int) else (numV (Zaq s):Int))):=by
 intro w
 rw[Zaf,A.k169 (by simp)]
 simp(disch:=first|(simp;done)|omega|(simp only[Zab,Zaa,Yrr];omega)|rfl) [-getElem?_pos,A.b169,Zrn,Zjg,Zaj,slc,splice]
 refine Zak [(0,0),(5,7),(13,36)] _ (RdI h N (Zaq s)) (Zaq s).length ?_ (Yah hd hl (by simp)) ?_
 ·have kk:=(kset (kset (Keeps.refl (h:=h) (n:=N)) (.cells [.int .i64 0,.nilslice] 108 true)) (.cells [.int .i64 0,.nilslice] 108 true)).set (i:=N+1) (o:=.cells [.int .i64 0,.nilslice] 108 true) (by omega)
  exact⟨by simp[Zae],kk,Yru _,by simp,Zaq s,0,0,.nilslice,by simp,rfl,Yru _,hd,by simp,In.small (by omega) (by omega),by simp⟩
 rintro e r ⟨h5,m5,W5⟩ hr ⟨rfl,hW,hK,hle,hrow,cur,p,n1,u1,hr0,hcl,hms,hcd,g1,hp,hv⟩
 simp only at hW hK hle hrow g1 hp
 have:cur=[]:=Yr7 hcl
 subst this
 have hv:numV (Zaq s)=p:=by rw[hv];simp[numV]
 have lp:wl (p:Int)≤100000:=by rw[←hv];exact Ytp (Ze7 (Zea hd)) hl
 obtain⟨_,_,e5,o5⟩:=hp.cells
 simp only[V.agg.injEq,Yse,V.int.injEq,true_and,and_true]at e5
 obtain⟨rfl,rfl⟩:=e5
 unfold V.one at o5
 have wok:¬N<N:=by omega
 cases hn:negS s with
 |true=>
  simp(disch:=first|(simp;done)|omega|(simp only[Zab,Zaa,Yrr];omega)|rfl) [-getElem?_pos,hr,hn,g1,Zaj,slc]
  refine Zac (Zor hp (by omega)) ?_
  rintro v h6 m6 k6 hv6
  obtain⟨n6,u6,rfl,o6⟩:=hv6.cells
  unfold V.one at o6
  have e0:=(k6.get N (by omega)).trans hrow
  have kle:=k6.le
  simp(disch:=first|(simp;done)|omega|(simp only[Zab,Zaa,Yrr];omega)|rfl) [-getElem?_pos,hr,e0,o6,Zaj,slc,splice,Zam,Ret,hW]
  exact⟨(hK.trans k6).set (Yru _),by rw[hv];exact hv6.setNU e0 (by simp) rfl⟩
 |false=>
  simp(disch:=first|(simp;done)|omega|(simp only[Zab,Zaa,Yrr];omega)|rfl) [-getElem?_pos,hr,hn,g1,hrow,o5,Zaj,slc,splice,Zam,Ret,hW]
  exact⟨hK.set (Yru _),by rw[hv];exact hp.setNU hrow (by simp) rfl⟩
variable {N:Nat} {h:T O} {w:List Nat}
def A.w68:=A.q Tryz.f68
def A.lb68_0:=A.ql A.w68 0 []
def A.b68:=(fun x0=>A.qb A.w68 [x0]) A.lb68_0
def A.k68:=@A.kk 68 15 [.tmp 2] A.b68 (by kernel_rfl) rfl
def A.w188:=A.q Tryz.f188
def A.lb188_0:=A.ql A.w188 0 []
def A.b188:=(fun x0=>A.qb A.w188 [x0]) A.lb188_0
def A.k188:=@A.kk 188 15 [.tmp 2] A.b188 (by kernel_rfl) rfl
def Zv5{v:V}{l:List Int}(hs:Sl h N v (dI l))(hl:l.length<1000):A.C.call (.func 68 [] []) [v] ⟨h,N,w⟩=some (.int .i64 (Zan l),⟨h,N,w⟩):=by
 apply Call.eq
 have hlen:=hs.len
 rw[Zat]at hlen
 rw[Zaf,A.k68 (by simp)]
 simp(disch:=first|(simp;done)|omega|(simp only[Zab,Zaa,Yrr];omega)|rfl) [-getElem?_pos,A.b68,hlen]
 refine Zak [(2,2),(4,4),(7,14)] (fun e r st=>st=⟨h,N,[]⟩∧((e=.exit 0∧Zan l=0)∨(e=.ret∧r.get 2=some (.int .i64 (Zan l))))) (fun m r st=>st=⟨h,N,[]⟩∧∃k,m=l.length-k∧k≤l.length∧r.get 7=some (.int .i64 k)∧Zan l=Zan (l.drop k)) l.length ?_ ?_ ?_
 ·exact⟨rfl,0,by omega,by omega,by simp,by simp⟩
 ·rintro m r _ hr hf ⟨rfl,k,rfl,hk,h7,hz⟩
  rw[Zai]
  by_cases hlt:k<l.length
  ·obtain⟨c,hc⟩:=Zao hlt
   obtain⟨i,o,cc,e,rw,q1,q2,q3,q4⟩:=hs.at (Zbj hc)
   rw[Zaz hc,Zan]at hz
   have hk1:(k:Int)<(l.length:Int):=by omega
   by_cases h0:c=0
   ·rw[Yrw h0]at hz
    simp(disch:=first|(simp;done)|omega|(simp only[Zab,Zaa,Yrr];omega)|rfl) [-getElem?_pos,A.lb68_0,hr,hf,h7,hk1,hlt,hlen,q1,q3,q4,Zag,h0]
    exact⟨_,by omega,k+1,rfl,by omega,by simp,hz⟩
   ·rw[Yrt h0]at hz
    simp(disch:=first|(simp;done)|omega|(simp only[Zab,Zaa,Yrr];omega)|rfl) [-getElem?_pos,A.lb68_0,hr,hf,h7,hk1,hlt,hlen,q1,q3,q4,Zag,h0,hz]
  ·have:l.drop k=[]:=Ytb (by omega)
   rw[this,Zan]at hz
   have:k=l.length:=by omega
   subst this
   simp(disch:=first|(simp;done)|omega|(simp only[Zab,Zaa,Yrr];omega)|rfl) [-getElem?_pos,A.lb68_0,hr,hf,h7,hlen,hz]
 ·rintro _ r _ hr ⟨rfl,⟨rfl,hz⟩|⟨rfl,h2⟩⟩
  ·simp(disch:=first|(simp;done)|omega|(simp only[Zab,Zaa,Yrr];omega)|rfl) [-getElem?_pos,hr,hz]
  ·simp(disch:=first|(simp;done)|omega|(simp only[Zab,Zaa,Yrr];omega)|rfl) [-getElem?_pos,hr,h2]
def Ya6{v:V}{l:List Int}(hs:Sl h N v (dI l))(hl:l.length<1000):A.C.call (.func 188 [] []) [v] ⟨h,N,w⟩=some (.int .i64 (Zan l),⟨h,N,w⟩):=by
 apply Call.eq
 have hlen:=hs.len
 rw[Zat]at hlen
 rw[Zaf,A.k188 (by simp)]
 simp(disch:=first|(simp;done)|omega|(simp only[Zab,Zaa,Yrr];omega)|rfl) [-getElem?_pos,A.b188,hlen]
 refine Zak [(2,2),(4,4),(7,14)] (fun e r st=>st=⟨h,N,[]⟩∧((e=.exit 0∧Zan l=0)∨(e=.ret∧r.get 2=some (.int .i64 (Zan l))))) (fun m r st=>st=⟨h,N,[]⟩∧∃k,m=l.length-k∧k≤l.length∧r.get 7=some (.int .i64 k)∧Zan l=Zan (l.drop k)) l.length ?_ ?_ ?_
 ·exact⟨rfl,0,by omega,by omega,by simp,by simp⟩
 ·rintro m r _ hr hf ⟨rfl,k,rfl,hk,h7,hz⟩
  rw[Zai]
  by_cases hlt:k<l.length
  ·obtain⟨c,hc⟩:=Zao hlt
   obtain⟨i,o,cc,e,rw,q1,q2,q3,q4⟩:=hs.at (Zbj hc)
   rw[Zaz hc,Zan]at hz
   have hk1:(k:Int)<(l.length:Int):=by omega
   by_cases h0:c=0
   ·rw[Yrw h0]at hz
    simp(disch:=first|(simp;done)|omega|(simp only[Zab,Zaa,Yrr];omega)|rfl) [-getElem?_pos,A.lb188_0,hr,hf,h7,hk1,hlt,hlen,q1,q3,q4,Zag,h0]
    exact⟨_,by omega,k+1,rfl,by omega,by simp,hz⟩
   ·rw[Yrt h0]at hz
    simp(disch:=first|(simp;done)|omega|(simp only[Zab,Zaa,Yrr];omega)|rfl) [-getElem?_pos,A.lb188_0,hr,hf,h7,hk1,hlt,hlen,q1,q3,q4,Zag,h0,hz]
  ·have:l.drop k=[]:=Ytb (by omega)
   rw[this,Zan]at hz
   have:k=l.length:=by omega
   subst this
   simp(disch:=first|(simp;done)|omega|(simp only[Zab,Zaa,Yrr];omega)|rfl) [-getElem?_pos,A.lb188_0,hr,hf,h7,hlen,hz]
 ·rintro _ r _ hr ⟨rfl,⟨rfl,hz⟩|⟨rfl,h2⟩⟩
  ·simp(disch:=first|(simp;done)|omega|(simp only[Zab,Zaa,Yrr];omega)|rfl) [-getElem?_pos,hr,hz]
  ·simp(disch:=first|(simp;done)|omega|(simp only[Zab,Zaa,Yrr];omega)|rfl) [-getElem?_pos,hr,h2]
def Zir{i:Nat}{a0 a1:Int}(hi:i<N):A.C.call (.func 188 [] []) [.slice i 0 2 (some 2) 1] ⟨h.set i (.cells [.int .i64 a0,.int .i64 a1] 31 true),N,w⟩=some (.int .i64 (Zan [a0,a1]),⟨h.set i (.cells [.int .i64 a0,.int .i64 a1] 31 true),N,w⟩):=
 Ya6 (l:=[a0,a1]) (Sl.row (e:=31) (rw:=true) (cp:=some 2) hi (by simp[dI]) rfl (by simp)) (by simp)
def Zf7{i:Nat}{a0 a1:Int}(hi:i<N):A.C.call (.func 68 [] []) [.slice i 0 2 (some 2) 1] ⟨h.set i (.cells [.int .i64 a0,.int .i64 a1] 31 true),N,w⟩=some (.int .i64 (Zan [a0,a1]),⟨h.set i (.cells [.int .i64 a0,.int .i64 a1] 31 true),N,w⟩):=
 Zv5 (l:=[a0,a1]) (Sl.row (e:=31) (rw:=true) (cp:=some 2) hi (by simp[dI]) rfl (by simp)) (by simp)
end
end Go.Mx
