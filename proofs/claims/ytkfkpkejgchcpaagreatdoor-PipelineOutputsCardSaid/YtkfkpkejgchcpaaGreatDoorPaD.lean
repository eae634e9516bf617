/-strings-/
import Derived.Test.YtkfkpkejgchcpaaGreatDoorNbC
set_option linter.all false
namespace Go.Mx
open Go Go.Proofs
variable {N i:Nat} {h:T O} {rw:Bool} {s:Str}
set_option maxRecDepth 1000000
def A.b158:Zah:=sr [ge 4 (.mov (.const (.str [])))]
 (.seq (sr [mv 7 0,ge 8 (.bin .eql (.prim .str) true (tq 7) (.const (.str []))),mv 9 8,mh 10 1 9,gz 11 9 (.bin .eql (.prim .str) true (tq 10) (.const (.str []))),pt 12 9 11]
 (cd 12
 (sr [mv 13 0,mv 4 13]
 (.ret))
 (.skip)))
 (.seq (sr [mv 14 1,ge 15 (.len 0 (tq 14)),ei 16 15 1,mv 17 16,mg 18 1 17,gy 19 17 (.idxStr (tq 18) (kq 0)),gy 20 17 (.bin .lss (.node []) false (tq 19) (.const (.int .u8 128))),pf 21 17 20]
 (cd 21
 (.seq (.regD [mv 22 0,mv 23 1,ge 24 (.idxStr (tq 23) (kq 0)),c2 25 213 22 24,mv 26 1,ge 27 (.idxStr (tq 26) (kq 0)),c2 28 212 25 27,mv 4 28] [0,0,2,7,0,16,63,127])
 (.ret))
 (.skip)))
 (.seq (sr [mv 30 1,c1 31 214 30,mv 29 31,xt 32 29 0,xt 33 29 1,ge 5 (.alloc (Znt 0) 277),gn (.store 256 (tq 5) (tq 32)),mv 6 33]
 (sr [mv 34 6]
 (cd 34
 (sr [mv 35 0,c2 36 216 35 5,c2 37 215 36 5,mv 4 37]
 (.ret))
 (.skip))))
 (sr [mv 38 0,mv 39 1,c2 40 218 38 39,mv 41 1,c2 42 217 40 41,mv 4 42]
 (.ret)))))
def A.k158:=@A.kk 158 43 [.tmp 4] A.b158 (by kernel_rfl) rfl
def A.lb214_0:Zah:=.seq (sr [mv 6 4,mv 7 0,ge 8 (.len 0 (tq 7)),bi 9 .lss 6 8]
 (cd 9
 (.skip)
 (.exit 0)))
 (.seq (.block 1 (sr [mv 12 0,mv 13 4,ge 14 (.idxStr (tq 12) (tq 13)),mv 5 14]
 (.seq (sr [mv 15 5,ge 16 (.bin .geq (.node []) false (tq 15) (.const (.int .u8 128)))]
 (cd 16
 (sr [lN 17 256 2,gn (.store 256 (tq 2) (tq 17)),ge 3 (.mov (.const (.bool false)))]
 (.ret))
 (.skip)))
 (.reg [mv 18 5,ge 19 (.iaddrArr 256 1 (tq 2) (tq 18)),gn (.store 1 (tq 19) (.const (.bool true)))]))))
 (.reg [mv 10 4,bc 11 .add 10 1,mv 4 11]))
def A.b214:Zah:=sr [ge 2 (.alloc (Znt 0) 277),ge 3 (.mov (.const (.bool false)))]
 (.seq (sr [mc 4 0]
 (.block 0 (.loop A.lb214_0)))
 (sr [lN 20 256 2,gn (.store 256 (tq 2) (tq 20)),ge 3 (.mov (.const (.bool true)))]
 (.ret)))
def A.k214:=@A.kk 214 21 [.cell 2 (some 256),.tmp 3] A.b214 (by kernel_rfl) rfl
def A.lb215_0:Zah:=.seq (sr [mv 5 0,ge 6 (.len 0 (tq 5)),bc 7 .gtr 6 0]
 (cd 7
 (.skip)
 (.exit 0)))
 (.block 1 (.seq (sr [mv 8 1,mv 9 0,ge 10 (.idxStr (tq 9) (kq 0)),c2 11 252 8 10,ge 12 (.un .not (tq 11))]
 (cd 12
 (.exit 0)
 (.skip)))
 (.reg [mv 13 0,ge 14 (.sliceStr (tq 13) (some (kq 1)) none),mv 0 14])))
def A.b215:Zah:=sr [ge 4 (.mov (.const (.str [])))]
 (.seq (.block 0 (.loop A.lb215_0))
 (sr [mv 15 0,mv 4 15]
 (.ret)))
def A.k215:=@A.kk 215 16 [.tmp 4] A.b215 (by kernel_rfl) rfl
def A.lb216_0:Zah:=.seq (sr [mv 5 0,ge 6 (.len 0 (tq 5)),bc 7 .gtr 6 0]
 (cd 7
 (.skip)
 (.exit 0)))
 (.block 1 (.seq (sr [mv 8 1,mv 9 0,mv 10 0,ge 11 (.len 0 (tq 10)),bc 12 .sub 11 1,ge 13 (.idxStr (tq 9) (tq 12)),c2 14 252 8 13,ge 15 (.un .not (tq 14))]
 (cd 15
 (.exit 0)
 (.skip)))
 (.reg [mv 16 0,mv 17 0,ge 18 (.len 0 (tq 17)),bc 19 .sub 18 1,ge 20 (.sliceStr (tq 16) none (some (tq 19))),mv 0 20])))
def A.b216:Zah:=sr [ge 4 (.mov (.const (.str [])))]
 (.seq (.block 0 (.loop A.lb216_0))
 (sr [mv 21 0,mv 4 21]
 (.ret)))
def A.k216:=@A.kk 216 22 [.tmp 4] A.b216 (by kernel_rfl) rfl
def A.b252:Zah:=sr [ge 4 (.mov (.const (.bool false)))]
 (sr [mv 5 0,mv 6 1,ge 7 (.nilck (tq 5)),ge 8 (.iaddrArr 256 1 (tq 7) (tq 6)),ld 9 8,mv 4 9]
 (.ret))
def A.k252:=@A.kk 252 10 [.tmp 4] A.b252 (by kernel_rfl) rfl
def A.b89:Zah:=sr [ge 2 (.mov (.const (.bool false)))]
 (sr [mv 3 0,ge 4 (.bin .neq (.prim .str) true (tq 3) (.const (.str []))),mv 5 4,mg 6 0 5,gy 7 5 (.call (fq 158) [tq 6,(.const (.str [48,49,50,51,52,53,54,55,56,57]))]),gy 8 5 (.bin .eql (.prim .str) true (tq 7) (.const (.str []))),pf 9 5 8,mv 10 9,mg 11 0 10,gy 12 10 (.idxStr (tq 11) (kq 0)),gy 13 10 (.bin .neq (.prim .int) true (tq 12) (.const (.int .u8 48))),mg 14 13 10,mh 15 0 14,gz 16 14 (.bin .eql (.prim .str) true (tq 15) (.const (.str [48]))),gy 17 10 (.pick (tq 14) (.const (.bool true)) (tq 16)),pf 18 10 17,mv 2 18]
 (.ret))
def A.k89:=@A.kk 89 19 [.tmp 2] A.b89 (by kernel_rfl) rfl
def Zx2:Fn A.C 214 [(.str [48,49,50,51,52,53,54,55,56,57])] h N (fun v _ _=>v=.tup [.agg (Znt 10),.bool true]):=by
 intro w
 rw[Zac,A.k214 (by simp)]
 simp[A.b214]
 refine Zai [(3,19)] (fun e r st=>e=.exit 0∧st.n=N+1∧Zad N st.w=[]∧Keeps h N st.h (N+1)∧st.h.get N=some (.cells (Znt 10) 277 true)) (fun m r st=>st.n=N+1∧Zad N st.w=[]∧Keeps h N st.h (N+1)∧∃k,m=10-k∧k≤10∧r.get 4=some (.int .i64 k)∧st.h.get N=some (.cells (Znt k) 277 true)) 10 ?_ ?_ ?_
 ·exact⟨rfl,rfl,(Keeps.refl.set (Yr4 _)).up (by omega),0,by omega,by omega,by simp,by simp⟩
 ·rintro m r ⟨H,n1,W⟩ hr hf ⟨hn,hW,hK,k,rfl,hk,h4,hrow⟩
  simp only at hn hW hK hrow
  subst hn
  rw[Zaj]
  by_cases hlt:k<10
  ·obtain⟨c,hc,hcu⟩:=Ygw hlt
   unfold Yp0 at hc
   have a1:¬128≤u8I c:=by omega
   have a2:u8I c<256:=by omega
   have a3:0≤u8I c:=by omega
   have a4:(u8I c).toNat=48+k:=by omega
   have hlt':(k:Int)<10:=by omega
   have hs:=Yhe hlt
   have q1:=Zdt k
   simp(disch:=first|(simp;done)|omega|(simp only[Zaa,Zab,Yr2];omega)|rfl) [-getElem?_pos,A.lb214_0,hr,hf,h4,hlt',hc,a1,a2,a3,a4,hs,hrow,hW]
   exact⟨_,by omega,hK.set (Yr4 N),k+1,rfl,by omega,by simp,rfl⟩
  ·have:k=10:=by omega
   subst this
   simp[A.lb214_0,hr,hf,h4,hrow,hW]
   exact hK
 ·rintro e r ⟨H,n1,W⟩ hr ⟨rfl,hn,hW,hK,hrow⟩
  simp only at hn hW hK hrow
  subst hn
  have q1:=Zdt 10
  simp[hr,Ret,hW,hrow,Zam,slc,Zdt,Zwm]
  exact hK.set (Yr4 N)
def Znj{c:UInt8}{w:List Nat}{e:TypeId}(hr:h.get i=some (.cells (Znt 10) e rw)):A.C.call (.func 252 [] []) [.ptr i 0,.int .u8 (u8I c)] ⟨h,N,w⟩=some (.bool (Zj1 c),⟨h,N,w⟩):=by
 apply Call.eq
 rw[Zac,A.k252 (by simp)]
 have hu:=Zzn c
 have e2:(Znt 10)[(u8I c).toNat]?=some (.bool (Zj1 c)):=by
  rw[Zhx (by omega),Zr5]
  congr 2
  rw[decide_eq_decide];omega
 simp(disch:=omega) [A.b252,hr,hu,e2]
def Ygy{k:Nat}{c:UInt8}(hl:s.length=k+1)(hc:s[k]?=some c):Zb8 s=(Zb8 (s.take k)&&Zj1 c):=by
 unfold Zb8
 have:s=s.take k++[c]:=by
  conv=>lhs;rw[←Yt6 k s]
  rw[Zaq hc,Ytd (by omega)]
 conv=>lhs;rw[this]
 simp
def Yc0{s:Str}{c:UInt8}(hc:s[0]?=some c):Zb8 s=(Zj1 c&&Zb8 (s.drop 1)):=by
 cases s with
 |nil=>simp at hc
 |cons d s=>simp at hc;subst hc;rfl
def Ygx{k:Nat}{c:UInt8}(hc:s[k]?=some c)(hd:Zj1 c=false):Zb8 s=false:=by
 unfold Zb8
 rw[List.all_eq_false]
 exact⟨c,Yr8 hc,by simp[hd]⟩
def Yd1(s:Str)(v:V):Prop:=∃t:Str,v=.str t∧t.length≤s.length∧Zb8 t=Zb8 s∧(Zb8 s=true→t=[])
def Zqo{e:TypeId}(hr0:h.get i=some (.cells (Znt 10) e rw))(hl:s.length<4611686018427387904):Fn A.C 216 [.str s,.ptr i 0] h N (fun v _ _=>Yd1 s v):=by
 intro w
 rw[Zac,A.k216 (by simp)]
 simp[A.b216]
 refine Zai [(0,0),(5,20)] (fun e r st=>e=.exit 0∧st=⟨h,N,[]⟩∧∃t:Str,r.get 0=some (.str t)∧t.length≤s.length∧Zb8 t=Zb8 s∧(Zb8 s=true→t=[])) (fun m r st=>st=⟨h,N,[]⟩∧∃t:Str,m=t.length∧t.length≤s.length∧r.get 0=some (.str t)∧Zb8 t=Zb8 s) s.length ?_ ?_ ?_
 ·exact⟨rfl,s,rfl,by omega,by simp,rfl⟩
 ·rintro m r _ hr hf ⟨rfl,t,rfl,hle,h0,ht⟩
  rw[Zaj]
  by_cases hz:t.length=0
  ·have:t=[]:=Ysh hz
   subst this
   simp[A.lb216_0,hr,hf,h0,ht]
  ·obtain⟨k,hk⟩:∃k,t.length=k+1:=⟨t.length-1,by omega⟩
   obtain⟨c,hc⟩:=Zag (l:=t) (k:=k) (by omega)
   have hk':(t.length:Int)=k+1:=by omega
   have hk0:(0:Int)<(k:Int)+1:=by omega
   have hk1:(k:Int)+1-1=k:=by omega
   have hcon:=fun w=>Znj (c:=c) (N:=N) (w:=w) hr0
   by_cases hd:Zj1 c=true
   ·simp(disch:=first|(simp;done)|omega|(simp only[Zaa,Zab,Yr2];omega)|rfl) [-getElem?_pos,A.lb216_0,hr,hf,h0,hk',hk0,hk1,hc,hcon,hd,evOpt]
    exact⟨k,by omega,t.take k,by simp;omega,by simp;omega,rfl,by rw[←ht,Ygy hk hc,hd];simp⟩
   ·have hd:Zj1 c=false:=by simpa using hd
    simp(disch:=first|(simp;done)|omega|(simp only[Zaa,Zab,Yr2];omega)|rfl) [-getElem?_pos,A.lb216_0,hr,hf,h0,hk',hk0,hk1,hc,hcon,hd,evOpt]
    have hq:=Ygx hc hd
    rw[ht]at hq
    simp[hq,hle]
    rw[ht];exact hq
 ·rintro _ r _ hr ⟨rfl,rfl,t,h0,hle,ht,he⟩
  simp[hr,h0,Ret,Yd1]
  exact⟨Keeps.refl,hle,ht,he⟩
def Zsq{e:TypeId}(hr0:h.get i=some (.cells (Znt 10) e rw))(hl:s.length<4611686018427387904):Fn A.C 215 [.str s,.ptr i 0] h N (fun v _ _=>Yd1 s v):=by
 intro w
 rw[Zac,A.k215 (by simp)]
 simp[A.b215]
 refine Zai [(0,0),(5,14)] (fun e r st=>e=.exit 0∧st=⟨h,N,[]⟩∧∃t:Str,r.get 0=some (.str t)∧t.length≤s.length∧Zb8 t=Zb8 s∧(Zb8 s=true→t=[])) (fun m r st=>st=⟨h,N,[]⟩∧∃t:Str,m=t.length∧t.length≤s.length∧r.get 0=some (.str t)∧Zb8 t=Zb8 s) s.length ?_ ?_ ?_
 ·exact⟨rfl,s,rfl,by omega,by simp,rfl⟩
 ·rintro m r _ hr hf ⟨rfl,t,rfl,hle,h0,ht⟩
  rw[Zaj]
  by_cases hz:t.length=0
  ·have:t=[]:=Ysh hz
   subst this
   simp[A.lb215_0,hr,hf,h0,ht]
  ·cases t with
   |nil=>simp at hz
   |cons c t=>
    have hk0:(0:Int)<(t.length:Int)+1:=by omega
    have hcon:=fun w=>Znj (c:=c) (N:=N) (w:=w) hr0
    have hdf:=Yc0 (s:=c::t) (c:=c) rfl
    by_cases hd:Zj1 c=true
    ·simp(disch:=first|(simp;done)|omega|(simp only[Zaa,Zab,Yr2];omega)|rfl) [A.lb215_0,hr,hf,h0,hk0,hcon,hd,evOpt]
     simp only[Yr2]at hle
     rw[hd]at hdf
     exact⟨t.length,by omega,t,rfl,by omega,rfl,by rw[←ht,hdf];rfl⟩
    ·have hd:Zj1 c=false:=by simpa using hd
     simp[A.lb215_0,hr,hf,h0,hk0,hcon,hd,evOpt]
     rw[hd]at hdf
     rw[ht]at hdf
     simp only[Yr2]at hle
     simp[hdf,hle]
     rw[ht,hdf];rfl
 ·rintro _ r _ hr ⟨rfl,rfl,t,h0,hle,ht,he⟩
  simp[hr,h0,Ret,Yd1]
  exact⟨Keeps.refl,hle,ht,he⟩
def Zwv(hl:s.length<4611686018427387904):Fn A.C 158 [.str s,(.str [48,49,50,51,52,53,54,55,56,57])] h N (fun v _ _=>Yd1 s v):=by
 intro w
 rw[Zac,A.k158 (by simp)]
 by_cases he:s=[]
 ·subst he
  simp[A.b158,Zae,Ret]
  exact⟨Keeps.refl,[],rfl,Yr4 _,rfl,fun _=>rfl⟩
 ·have e1:(s==[])=false:=by simp[he]
  have e2:s.isEmpty=false:=by simp[he]
  simp[A.b158,Zae,e1,e2]
  refine Zaf Zx2 ?_
  rintro v h1 n1 k1 rfl
  have q1:=Zdt 10
  simp[]
  refine Zaf (Zqo (e:=277) (rw:=true) ?_ hl) ?_
  ·simp
  rintro v h2 n2 k2 ⟨t,rfl,hle,ht,hte⟩
  have hN1:h2.get n1=some (.cells (Znt 10) 277 true):=by
   rw[k2.get _ (by omega)]
   simp
  simp[]
  refine Zaf (Zsq (e:=277) (rw:=true) hN1 (by omega)) ?_
  rintro v h3 n3 k3 ⟨u,rfl,hle2,hu,hue⟩
  have kk:Keeps h N h3 n3:=(((k1.set k1.le).set k1.le).up (Yuw n1)).trans (k2.trans k3)
  simp[Ret]
  exact⟨k1.le,kk,u,rfl,by omega,by rw[hu,ht],fun h=>hue (by rw[ht];exact h)⟩
def Zg8{s:Str}{h:T O}{N:Nat}(hl:s.length<4611686018427387904):Fn A.C 89 [.str s] h N (fun v _ _=>v=.bool (Zcy s)):=by
 intro w
 rw[Zac,A.k89 (by simp)]
 cases s with
 |nil=>simp[A.b89,Ret,Zcy];exact Keeps.refl
 |cons c s=>
  simp[A.b89]
  refine Zaf (Zwv hl) ?_
  rintro v h1 n1 k1 ⟨t,rfl,hle,ht,hte⟩
  have hd:Zcy (c::s)=(Zb8 (c::s)&&(decide (u8I c≠48)||decide (s=[]))):=by
   have:decide (c.toNat≠48)=decide (u8I c≠48):=by unfold u8I;rw[decide_eq_decide];omega
   simp only[Zcy,this];rfl
  by_cases ha:Zb8 (c::s)=true
  ·have:=hte ha
   subst this
   by_cases h0:u8I c=48
   ·have hc:c=48:=by unfold u8I at h0;exact UInt8.toNat_inj.1 (by show c.toNat=48;omega)
    subst hc
    simp[Zae,hd,ha,h0,Ret,k1]
    cases s<;>rfl
   ·simp[Zae,hd,ha,h0,Ret,k1]
  ·have ha:Zb8 (c::s)=false:=by simpa using ha
   rw[ha]at ht
   have e1:(t==[])=false:=by
    cases t with
    |nil=>cases ht
    |cons=>rfl
   have e2:t.isEmpty=false:=by
    cases t with
    |nil=>cases ht
    |cons=>rfl
   simp[Zae,hd,ha,e1,e2,Ret,k1]
def A.lb221_0:Zah:=sr [bi 50 .lss 49 48]
 (.seq (cd 50
 (.skip)
 (.exit 0))
 (.seq (.block 1 (sr [ia 51 1 47 49,ld 52 51,mv 8 52]
 (sr [mv 53 8,ge 54 (.bin .sub (.node []) false (tq 53) (.const (.int .u8 48))),mv 8 54]
 (.seq (sr [mv 55 8,ge 56 (.bin .gtr (.node []) false (tq 55) (.const (.int .u8 9)))]
 (cd 56
 (sr [ge 57 (.mkiface 309 (kq 2)),mc 2 0,mv 3 57]
 (.ret))
 (.skip)))
 (.reg [mv 58 6,bc 59 .mul 58 10,mv 60 8,ge 61 (.convInt .i64 (tq 60)),bi 62 .add 59 61,mv 6 62])))))
 (.reg [bc 63 .add 49 1,mv 49 63])))
def A.b221:Zah:=sr [mc 2 0,ge 3 (.mov (.const .niliface))]
 (sr [mv 11 0,ge 12 (.len 0 (tq 11)),mv 4 12]
 (.seq (sr [ge 13 (.mov (.const (.bool false))),mg 14 4 13,gy 15 13 (.bin .lss (.node []) false (kq 0) (tq 14)),mg 16 15 13,mg 17 4 16,gy 18 16 (.bin .lss (.node []) false (tq 17) (kq 10)),gy 19 13 (.pick (tq 16) (tq 18) (.const (.bool false))),pf 20 13 19,mv 21 20,gz 22 21 (.mov (.const (.bool true))),mg 23 4 22,gy 24 22 (.bin .lss (.node []) false (kq 0) (tq 23)),mg 25 24 22,mg 26 4 25,gy 27 25 (.bin .lss (.node []) false (tq 26) (kq 19)),gy 28 22 (.pick (tq 25) (tq 27) (.const (.bool false))),gz 29 21 (.pick (tq 22) (tq 28) (.const (.bool false))),pt 30 21 29]
 (cd 30
 (sr [mv 31 0,mv 5 31]
 (.seq (sr [mv 32 0,ge 33 (.idxStr (tq 32) (kq 0)),ge 34 (.bin .eql (.prim .int) true (tq 33) (.const (.int .u8 45))),mv 35 34,mh 36 0 35,gz 37 35 (.idxStr (tq 36) (kq 0)),gz 38 35 (.bin .eql (.prim .int) true (tq 37) (.const (.int .u8 43))),pt 39 35 38]
 (cd 39
 (sr [mv 40 0,ge 41 (.sliceStr (tq 40) (some (kq 1)) none),mv 0 41]
 (sr [mv 42 0,ge 43 (.len 0 (tq 42)),bc 44 .lss 43 1]
 (cd 44
 (sr [ge 45 (.mkiface 309 (kq 2)),mc 2 0,mv 3 45]
 (.ret))
 (.skip))))
 (.skip)))
 (sr [mc 6 0]
 (.seq (sr [mv 46 0,ge 47 (.strBytes 5 (tq 46)),ln 48 47,mc 49 0]
 (.block 0 (.loop A.lb221_0)))
 (.seq (sr [mv 64 5,ge 65 (.idxStr (tq 64) (kq 0)),ge 66 (.bin .eql (.prim .int) true (tq 65) (.const (.int .u8 45)))]
 (cd 66
 (.reg [mv 67 6,ge 68 (.un .neg (tq 67)),mv 6 68])
 (.skip)))
 (sr [mv 69 6,mv 2 69,ge 3 (.mov (.const .niliface))]
 (.ret)))))))
 (.skip)))
 (sr [mv 71 0,ge 72 (.call (fq 256) [tq 71,.const (.int .i64 10),.const (.int .i64 0)]),mv 70 72,xt 73 70 0,xt 74 70 1,mv 9 73,mv 10 74]
 (sr [mv 75 9,mv 76 10,mv 2 75,mv 3 76]
 (.ret)))))
def A.k221:=@A.kk 221 77 [.tmp 2,.tmp 3] A.b221 (by kernel_rfl) rfl
def A.b164:Zah:=sr [mc 2 0,ge 3 (.mov (.const .niliface))]
 (sr [mv 7 0,c1 8 221 7,mv 6 8,xt 9 6 0,xt 10 6 1,mv 4 9,mv 5 10]
 (.seq (sr [mv 11 5,ge 12 (.bin .neq (.prim .iface) true (tq 11) (.const .niliface))]
 (cd 12
 (sr [mv 13 4,mv 14 0,mv 15 5,ge 16 (.call (fq 222) [(.const (.str [65,116,111,105])),tq 14,.const (.int .i64 0),.const (.int .i64 0),tq 15]),mv 2 13,mv 3 16]
 (.ret))
 (.skip)))
 (sr [mv 17 4,mv 2 17,ge 3 (.mov (.const .niliface))]
 (.ret))))
def A.k164:=@A.kk 164 18 [.tmp 2,.tmp 3] A.b164 (by kernel_rfl) rfl
def Ygg{s:Str}{h:T O}{N:Nat}(hd:Zb8 s=true)(h1:1≤s.length)(h2:s.length≤18):Fn A.C 221 [.str s] h N (fun v _ _=>v=.tup [.int .i64 (numV s:Nat),.niliface]):=by
 intro w
 obtain⟨c,hc⟩:=Zag (l:=s) (k:=0) (by omega)
 have hcd:=Zka hd hc
 have a1:¬u8I c=45:=by omega
 have a2:¬u8I c=43:=by omega
 have a3:(0:Int)<(s.length:Int):=by omega
 have a5:(s.length:Int)<19:=by omega
 have h10:0<s.length:=by omega
 have hne:s≠[]:=fun h=>by rw[h]at h1;simp at h1
 have hc0:s.head?=some c:=by cases s with
  |nil=>simp at hc
  |cons=>simpa using hc
 rw[Zac,A.k221 (by simp)]
 by_cases a4:(s.length:Int)<10
 all_goals
  simp(disch:=first|(simp;done)|omega|(simp only[Zaa,Zab,Yr2];omega)|rfl) [-getElem?_pos,A.b221,a3,a4,a5,hne,h10,hc0,hc,Zae,a1,a2]
  refine Zai [(2,3),(6,6),(8,8),(49,63)] (fun e r st=>st.n=N+1∧Zad N st.w=[]∧Keeps h N st.h (N+1)∧e=.exit 0∧r.get 6=some (.int .i64 (numV s:Nat))) (fun m r st=>st.n=N+1∧Zad N st.w=[]∧Keeps h N st.h (N+1)∧st.h.get N=some (.cells (Znm s) 5 true)∧∃k,m=s.length-k∧k≤s.length∧r.get 49=some (.int .i64 k)∧r.get 6=some (.int .i64 (numV (s.take k):Nat))) s.length ?_ ?_ ?_
  ·exact⟨rfl,rfl,(Keeps.refl.set (Yr4 _)).up (by omega),by simp,0,by omega,by omega,by simp,by simp[numV]⟩
  ·rintro m r ⟨H,n1,W⟩ hr hf ⟨hn,hW,hK,hrow,k,rfl,hk,h49,h6⟩
   simp only at hn hW hK hrow
   subst hn
   rw[Zaj]
   by_cases hlt:k<s.length
   ·obtain⟨c,hc⟩:=Zag hlt
    have hd1:=Zka hd hc
    have hb:=Zy4 hc
    have hv:=Zmx hc
    have hb1:=Zpt hd k hk
    have hb2:=Zvk (a:=k) (b:=17) (by omega)
    have b1:¬9<u8I c-48:=by omega
    have b2:Zap .u8 (u8I c-48)=u8I c-48:=Zd6 (by omega) (by omega)
    have b3:((numV (s.take (k+1)):Nat):Int)=(numV (s.take k):Nat)*10+(u8I c-48):=by
     rw[hv];unfold u8I at*;omega
    have b4:((numV (s.take k):Nat):Int)<100000000000000000:=by
     have:(10:Nat)^17=100000000000000000:=by decide
     omega
    generalize hy:numV (s.take (k+1))=y at*
    generalize numV (s.take k)=x at*
    simp(disch:=first|(simp;done)|omega|(simp only[Zaa,Zab,Yr2];omega)|rfl) [A.lb221_0,hr,hf,h49,h6,hlt,hrow,hb,b1,b2,hW]
    exact⟨_,by omega,hK,k+1,rfl,by omega,by simp,by rw[hy,b3]⟩
   ·have:k=s.length:=by omega
    subst this
    simp[A.lb221_0,hr,hf,h49,hW]
    rw[Ytr]at h6
    exact⟨hK,h6⟩
  ·rintro _ r ⟨H,n1,W⟩ hr ⟨hn,hW,hK,rfl,h6⟩
   simp only at hn hW hK
   subst hn
   simp[hr,Ret,hW,hK,h6,hc0,hc,Zae,a1]
def Ylu{s:Str}{h:T O}{N:Nat}(hd:Zb8 s=true)(h1:1≤s.length)(h2:s.length≤18):Fn A.C 164 [.str s] h N (fun v _ _=>v=.tup [.int .i64 (numV s:Nat),.niliface]):=by
 intro w
 rw[Zac,A.k164 (by simp)]
 simp[A.b164]
 refine Zaf (Ygg hd h1 h2) ?_
 rintro v h1 n1 k1 rfl
 simp[Zae,Ret,k1]
variable {M N a k o:Nat} {h:T O} {s:Str}
set_option maxHeartbeats 2000000
def A.lb166_0:Zah:=.seq (sr [mv 7 1,bc 8 .gtr 7 0]
 (cd 8
 (.skip)
 (.exit 0)))
 (.seq (.block 1 (.seq (sr [mv 11 1,bc 12 .and 11 1,ei 13 12 1]
 (cd 13
 (.reg [lN 14 2 5,lN 15 2 2,c2 16 165 14 15,gn (.store 2 (tq 5) (tq 16))])
 (.skip)))
 (sr [mv 17 1,bc 18 .gtr 17 1]
 (cd 18
 (.reg [lN 19 2 2,lN 20 2 2,c2 21 165 19 20,gn (.store 2 (tq 2) (tq 21))])
 (.skip)))))
 (.reg [mv 9 1,ge 10 (.bin .shr (.node []) false (tq 9) (.const (.int .u64 1))),mv 1 10]))
def A.b166:Zah:=sr [bx 2 156 0,ge 4 (.alloc [.int .i64 0,.nilslice] 156)]
 (sr [ge 6 (.call (fq 95) [.const (.int .i64 1)]),ge 5 (.alloc [.int .i64 0,.nilslice] 156),gn (.store 2 (tq 5) (tq 6))]
 (.seq (.block 0 (.loop A.lb166_0))
 (sr [lN 22 2 5,gn (.store 2 (tq 4) (tq 22))]
 (.ret))))
def A.k166:=@A.kk 166 23 [.cell 4 (some 2)] A.b166 (by kernel_rfl) rfl
def A.lb93_0:Zah:=.seq (sr [mv 13 0,ge 14 (.len 0 (tq 13)),bc 15 .gtr 14 0]
 (cd 15
 (.skip)
 (.exit 0)))
 (.block 1 (sr [mv 16 0,ge 17 (.len 0 (tq 16)),ge 18 (.mn [.const (.int .i64 18),tq 17]),mv 5 18]
 (sr [mv 20 0,mv 21 5,ge 22 (.sliceStr (tq 20) none (some (tq 21))),c1 23 164 22,mv 19 23,xt 24 19 0,xt 25 19 1,mv 6 24,mv 7 25]
 (.seq (.regD [lN 26 2 4,ge 27 (.call (fq 95) [.const (.int .i64 10)]),mv 28 5,c2 29 166 27 28,c2 30 165 26 29,mv 31 6,c1 32 95 31,c2 33 167 30 32,gn (.store 2 (tq 4) (tq 33))] [0,0,0,6,15,0,63,127,255])
 (.reg [mv 34 0,mv 35 5,ge 36 (.sliceStr (tq 34) (some (tq 35)) none),mv 0 36])))))
def A.b93:Zah:=sr [ge 2 (.alloc [.int .i64 0,.nilslice] 156)]
 (sr [mv 8 0,ge 9 (.call (fq 162) [tq 8,(.const (.str [45]))]),mv 3 9]
 (sr [mv 10 0,ge 11 (.call (fq 163) [tq 10,(.const (.str [45]))]),mv 0 11]
 (sr [ge 12 (.build [.int .i64 0,.nilslice] []),ge 4 (.alloc [.int .i64 0,.nilslice] 156),gn (.store 2 (tq 4) (tq 12))]
 (.seq (.block 0 (.loop A.lb93_0))
 (.seq (sr [mv 37 3]
 (cd 37
 (sr [lN 38 2 4,c1 39 168 38,gn (.store 2 (tq 2) (tq 39))]
 (.ret))
 (.skip)))
 (sr [lN 40 2 4,gn (.store 2 (tq 2) (tq 40))]
 (.ret)))))))
def A.k93:=@A.kk 93 41 [.cell 2 (some 2)] A.b93 (by kernel_rfl) rfl
def Yfb(h:o*a^k=M)(ha:1≤a)(ho:1≤o)(hk:1≤k):o*a≤M∧a≤M∧o≤M:=by
 have h1:a^1≤a^k:=Ys2 ha hk
 rw[Nat.pow_one]at h1
 have h2:o*a≤o*a^k:=Ysl o h1
 have h3:1*a≤o*a:=Ysq a ho
 have h4:o*1≤o*a:=Ysl o ha
 omega
def Ymr(h:o*a^k=M)(ha:1≤a)(ho:1≤o)(hk:1<k):a*a≤M:=by
 have h1:a^2≤a^k:=Ys2 ha hk
 have h2:1*a^k≤o*a^k:=Ysq _ ho
 have h3:a^2=a*a:=by rw[Nat.pow_two]
 omega
def Yms(h:o*a^k=M)(hk:k%2=1):(o*a)*(a*a)^(k/2)=M:=by
 rw[←h,←Nat.pow_two,←Nat.pow_mul,Yvi]
 congr 1
 conv=>rhs;rw[show k=2*(k/2)+1 by omega,Ysr]
 rw[Ysy]
def Yjv(h:o*a^k=M)(hk:k%2=0):o*(a*a)^(k/2)=M:=by
 rw[←h,←Nat.pow_two,←Nat.pow_mul,show 2*(k/2)=k by omega]
structure PwJ (h:T O) (N q M m:Nat) (r:T V) (st:St):Prop where
 w:Zad N st.w=[]
 keep:Keeps h N st.h st.n
 q1:N+2≤q
 q2:q<st.n
 row:st.h.get (N+1)=some (.cells [.int .i64 0,.nilslice] 156 true)
 r1:r.get 1=some (.int .i64 m)
 lm:m<4611686018427387904
 ex:∃(n1 n2:Int) (u1 u2:V) (a o:Nat),st.h.get N=some (.cells [.int .i64 n1,u1] 156 true)∧st.h.get q=some (.cells [.int .i64 n2,u2] 156 true)∧In st.h st.n (.agg [.int .i64 n1,u1]) a∧In st.h st.n (.agg [.int .i64 n2,u2]) o∧o*a^m=M∧1≤a∧1≤o∧wl a<10000000000
def Yfd{q:Nat}{r0:T V}(hM:wl M<10000000000)(a2:r0.get 2=some (.ptr N 0))(a5:r0.get 5=some (.ptr q 0)):
  ∀x r st,(∀t,inD [(1,1),(7,21)] t=false→r.get t=r0.get t)→Fx [(1,1),(7,21)] r0 23 ⟨r,23,[]⟩→PwJ h N q M x r st→Code A.C none A.lb166_0 ⟨r,23,[]⟩ st (Rd [(1,1),(7,21)] r0 23 (PwJ h N q M) x (fun e r st=>e=.exit 0∧PwJ h N q M 0 r st)):=by
 rintro m r ⟨H,n0,W⟩ hr hf ⟨hW,hK,hq1,hq2,hrow,r1,lm,n1,n2,u1,u2,a,o,g0,g1,ha,ho,hM2,a1,o1,la⟩
 simp only at hW hK hq2 hrow g0 g1 ha ho
 rw[Zaj]
 have b1:=Yhg (k:=m) (by omega)
 have b2:=Yes (k:=m)
 by_cases h0:m=0
 ·subst h0
  simp[A.lb166_0,hr,hf,r1]
  exact⟨hW,hK,hq1,hq2,hrow,by simp[r1],by omega,n1,n2,u1,u2,a,o,g0,g1,ha,ho,hM2,a1,o1,la⟩
 ·have c1:(0:Int)<(m:Int):=by omega
  have c2:0<m:=by omega
  obtain⟨t1,t2,t3⟩:=Yfb hM2 a1 o1 c2
  have lo:wl o<10000000000:=Ys3 (Zsn (a:=(o:Int)) (b:=(M:Int)) (by omega)) hM
  have loa:wl ((o*a:Nat):Int)<10000000000:=Ys3 (Zsn (a:=((o*a:Nat):Int)) (b:=(M:Int)) (by omega)) hM
  obtain⟨_,_,e5,o5⟩:=ha.cells
  simp only[V.agg.injEq,Ysm,V.int.injEq,true_and,and_true]at e5
  obtain⟨rfl,rfl⟩:=e5
  unfold V.one at o5
  have wok:¬q<N:=by omega
  by_cases hp:m%2=1
  ·have p1:(m:Int)%2=1:=by omega
   simp[A.lb166_0,hr,hf,r1,a2,a5,c1,c2,b1,b2,hp,p1,Zae,g0,g1,Zam,slc]
   refine Zaf (Zg3 ho ha (by omega) (by omega)) ?_
   rintro v h3 n3 k3 hv
   rw[←Yvr]at hv
   obtain⟨n6,u6,rfl,o6⟩:=hv.cells
   unfold V.one at o6
   have kle3:=k3.le
   have f0:=(k3.get N (by omega)).trans g0
   have f1:=(k3.get q (by omega)).trans g1
   have f2:=(k3.get (N+1) (by omega)).trans hrow
   have d1:¬N=q:=by omega
   have d2:¬N+1=q:=by omega
   have d3:¬q=N:=by omega
   have ha3:=(ha.keep k3).setNU (c1:=[.int .i64 n6,u6]) (e1:=156) (w1:=true) f1 ho.nu rfl
   have hv3:=hv.setNU (c1:=[.int .i64 n6,u6]) (e1:=156) (w1:=true) f1 ho.nu rfl
   have f0':(h3.set q (.cells [.int .i64 n6,u6] 156 true)).get N=some (.cells [.int .i64 n1,u1] 156 true):=by rw[T.get_set,Yr3 d1];exact f0
   have f1':(h3.set q (.cells [.int .i64 n6,u6] 156 true)).get q=some (.cells [.int .i64 n6,u6] 156 true):=by simp
   have f2':(h3.set q (.cells [.int .i64 n6,u6] 156 true)).get (N+1)=some (.cells [.int .i64 0,.nilslice] 156 true):=by rw[T.get_set,Yr3 d2];exact f2
   have kH:=(hK.trans k3).set (i:=q) (o:=.cells [.int .i64 n6,u6] 156 true) (by omega)
   by_cases hp1:1<m
   ·have p2:(1:Int)<(m:Int):=by omega
    have t4:=Ymr hM2 a1 o1 hp1
    have laa:wl ((a*a:Nat):Int)<10000000000:=Ys3 (Zsn (a:=((a*a:Nat):Int)) (b:=(M:Int)) (by omega)) hM
    generalize hH:h3.set q (.cells [.int .i64 n6,u6] 156 true)=H3 at*
    simp[r1,hr,a2,a5,f0,f1,d1,d3,o6,splice,Zal,hp1,p2,hH,f0',f1',Zam,slc]
    refine Zaf (Zg3 ha3 ha3 (by omega) (by omega)) ?_
    rintro v h4 n4 k4 hv4
    rw[←Yvr]at hv4
    obtain⟨n7,u7,rfl,o7⟩:=hv4.cells
    unfold V.one at o7
    have kle4:=k4.le
    have e0:=(k4.get N (by omega)).trans f0'
    have e1:=(k4.get q (by omega)).trans f1'
    have e2:=(k4.get (N+1) (by omega)).trans f2'
    simp[r1,hr,hf,a2,e0,o7,splice,Zal,b2]
    refine⟨m/2,by omega,by simp[Zad,hW,wok],(kH.trans k4).set (Yr4 _),hq1,by show q<n4;omega,by simp[e2],by simp,by omega,n7,n6,u7,u6,a*a,o*a,by simp,by simp[d3,e1],hv4.setNU e0 ha.nu rfl,(hv3.keep k4).setNU e0 ha.nu rfl,Yms hM2 hp,Yvd a1 a1,Yvd o1 a1,laa⟩
   ·have p2:¬(1:Int)<(m:Int):=by omega
    have m0:m/2=0:=by omega
    have m1':m=1:=by omega
    simp[r1,hr,hf,a2,a5,f0,f1,d1,d3,o6,splice,Zal,hp1,p2,b2]
    refine⟨m/2,by omega,by simp[Zad,hW,wok],kH,hq1,by show q<n3;omega,f2',by simp,by omega,n1,n6,u1,u6,a,o*a,f0',f1',ha3,hv3,by rw[m0,←hM2,m1'];simp,a1,Yvd o1 a1,la⟩
  ·have p1:¬(m:Int)%2=1:=by omega
   have p0:m%2=0:=by omega
   have p2:(1:Int)<(m:Int):=by omega
   have hp1:1<m:=by omega
   have t4:=Ymr hM2 a1 o1 hp1
   have laa:wl ((a*a:Nat):Int)<10000000000:=Ys3 (Zsn (a:=((a*a:Nat):Int)) (b:=(M:Int)) (by omega)) hM
   simp[A.lb166_0,hr,hf,r1,a2,a5,c1,c2,b1,b2,hp,p1,p2,hp1,Zae,g0,g1,Zam,slc]
   refine Zaf (Zg3 ha ha (by omega) (by omega)) ?_
   rintro v h3 n3 k3 hv
   rw[←Yvr]at hv
   obtain⟨n6,u6,rfl,o6⟩:=hv.cells
   unfold V.one at o6
   have kle3:=k3.le
   have f0:=(k3.get N (by omega)).trans g0
   have f1:=(k3.get q (by omega)).trans g1
   have f2:=(k3.get (N+1) (by omega)).trans hrow
   have d3:¬q=N:=by omega
   simp[r1,hr,hf,a2,f0,o6,splice,Zal,b2]
   refine⟨m/2,by omega,by simp[Zad,hW],(hK.trans k3).set (Yr4 _),hq1,by show q<n3;omega,by simp[f2],by simp,by omega,n6,n2,u6,u2,a*a,o,by simp,by simp[d3,f1],hv.setNU f0 ha.nu rfl,(ho.keep k3).setNU f0 ha.nu rfl,Yjv hM2 p0,Yvd a1 a1,o1,laa⟩
def Ymt{x:V}(hx:In h N x a)(ha:1≤a)(hk:k<4611686018427387904)(la:wl a<10000000000)(hM:wl ((a^k:Nat):Int)<10000000000):Fn A.C 166 [x,.int .i64 k] h N (fun v h' n'=>In h' n' v ((a^k:Nat):Int)):=by
 intro w
 rw[Zac,A.k166 (by simp)]
 obtain⟨n1,u1,rfl,o1⟩:=hx.cells
 have kk:=kset (kset (Keeps.refl (h:=h) (n:=N)) (.cells [.int .i64 n1,u1] 156 true)) (.cells [.int .i64 0,.nilslice] 156 true)
 have hx':=hx.keep kk
 unfold V.one at o1
 simp[A.b166,Zam,slc,splice,o1]
 refine Zaf Ztm ?_
 rintro _ h1 m1 k1 rfl
 have kle1:=k1.le
 have g0:=k1.get N (by omega)
 have g1:=k1.get (N+1) (by omega)
 simp at g0 g1
 have hx1:=hx'.keep k1
 have d1:¬N=m1:=by omega
 have d2:¬N+1=m1:=by omega
 have wok:¬m1<N:=by omega
 have kE:=(kset (Keeps.refl (h:=h1) (n:=m1)) (.cells [.int .i64 0,.nilslice] 156 true)).set (i:=m1) (o:=.cells [.int .i64 1,.nilslice] 156 true) (Yr4 _)
 simp[Zam,slc,splice,Zal]
 refine Zai [(1,1),(7,21)] _ (PwJ h N m1 (a^k)) k ?_ (Yfd hM (by simp) (by simp)) ?_
 ·refine⟨by simp[Zad,wok],((kk.trans k1).trans kE),by omega,by show m1<m1+1;omega,by simp[d2,g1],by simp,hk,n1,1,u1,.nilslice,a,1,by simp[d1,g0],by simp,hx1.keep kE,In.small (by omega) (by omega),by simp,ha,by omega,la⟩
 rintro e r ⟨h5,m5,W5⟩ hr ⟨rfl,hW,hK,hq1,hq2,hrow,r1,lm,n5,n6,u5,u6,a',o,g5,g6,ha5,ho5,hM2,a1,o1',la'⟩
 simp only at hW hK hq2 hrow g5 g6 ha5 ho5
 obtain⟨_,_,e5,o5⟩:=ho5.cells
 simp only[V.agg.injEq,Ysm,V.int.injEq,true_and,and_true]at e5
 obtain⟨rfl,rfl⟩:=e5
 unfold V.one at o5
 have he:(o:Int)=((a^k:Nat):Int):=by rw[←hM2];simp
 rw[he]at ho5
 have wok:¬N+1<N:=by omega
 simp[hr,g6,hrow,Zam,slc,splice,Zal,o5,Ret,hW,wok]
 exact⟨hK.set (by omega),ho5.setNU hrow (by simp) rfl⟩
def Ya6(x:Str):∀(y:Str),numV (x++y)=numV x*10^y.length+numV y:=by
 intro y
 generalize hn:y.length=n
 induction n generalizing y with
 |zero=>
  have:y=[]:=Ysh hn
  subst this;simp[numV]
 |succ n ih=>
  obtain⟨u,d,rfl⟩:∃u d,y=u++[d]:=⟨y.dropLast,y.getLast (by rintro rfl;simp at hn),(Yvb _).symm⟩
  simp at hn
  rw[←Yth,Zg0,Zg0,ih u hn,Ysr]
  grind
def Ze5{n:Nat}(h:n<10^k):wl n≤k:=by
 unfold wl
 apply Zft
 have:(10:Nat)^k≤B^k:=Yu2 (by decide) k
 simp;omega
def Zo4(h:Zb8 s=true)(k:Nat):Zb8 (s.take k)=true:=by
 unfold Zb8 at*
 rw[Ys4]at*
 exact fun x hx=>h x (Ytn hx)
def Zy8(h:Zb8 s=true)(k:Nat):Zb8 (s.drop k)=true:=by
 unfold Zb8 at*
 rw[Ys4]at*
 exact fun x hx=>h x (Yvk hx)
structure RdI (h:T O) (N:Nat) (s:Str) (m:Nat) (r:T V) (st:St):Prop where
 w:Zad N st.w=[]
 keep:Keeps h N st.h st.n
 le:N+2≤st.n
 row:st.h.get N=some (.cells [.int .i64 0,.nilslice] 156 true)
 ex:∃(cur:Str) (p:Nat) (n1:Int) (u1:V),r.get 0=some (.str cur)∧cur.length=m∧m≤s.length∧Zb8 cur=true∧st.h.get (N+1)=some (.cells [.int .i64 n1,u1] 156 true)∧In st.h st.n (.agg [.int .i64 n1,u1]) p∧numV s=p*10^m+numV cur
def Yan{r0:T V}(hd:Zb8 s=true)(hl:s.length≤100000)(a4:r0.get 4=some (.ptr (N+1) 0)):
  ∀x r st,(∀t,inD [(0,0),(5,7),(13,36)] t=false→r.get t=r0.get t)→Fx [(0,0),(5,7),(13,36)] r0 41 ⟨r,41,[]⟩→RdI h N s x r st→Code A.C none A.lb93_0 ⟨r,41,[]⟩ st (Rd [(0,0),(5,7),(13,36)] r0 41 (RdI h N s) x (fun e r st=>e=.exit 0∧RdI h N s 0 r st)):=by
 rintro m r ⟨H,n0,W⟩ hr hf ⟨hW,hK,hle,hrow,cur,p,n1,u1,hr0,hcl,hms,hcd,g1,hp,hv⟩
 simp only at hW hK hle hrow g1 hp
 rw[Zaj]
 by_cases h0:m=0
 ·subst h0
  have:cur=[]:=Ysh hcl
  subst this
  simp[A.lb93_0,hr,hf,hr0]
  exact⟨hW,hK,hle,hrow,[],p,n1,u1,by simp[hr0],rfl,by omega,rfl,g1,hp,hv⟩
 ·obtain⟨n,hn⟩:∃n,n=min 18 m:=⟨_,rfl⟩
  have c1:0<cur.length:=by omega
  have c2:(0:Int)<(cur.length:Int):=by omega
  have c3:(if (cur.length:Int)<18 then (cur.length:Int) else 18)=(n:Int):=by split<;>omega
  have c4:(n:Int)≤(cur.length:Int):=by omega
  have hpv:p≤numV s:=by
   rw[hv]
   have:p*1≤p*10^m:=Ysl p (Yu7 (by decide))
   omega
  have hsl:=Zd9 hd
  have lp:wl (p:Int)≤100000:=Yud (Ze5 (Ys3 hpv hsl)) hl
  have hat:=fun (h:T O) (N:Nat)=>Ylu (s:=cur.take n) (h:=h) (N:=N) (Zo4 hcd n) (by rw[Ysi];omega) (by rw[Ysi];omega)
  have l10:wl ((10:Nat):Int)<10000000000:=by decide+kernel
  have lpw:wl ((10^n:Nat):Int)≤19:=Ze5 (Nat.pow_lt_pow_right (by decide) (by omega))
  have hnv:=Zd9 (Zo4 hcd n)
  have htl:(cur.take n).length=n:=by rw[Ysi];omega
  rw[htl]at hnv
  have h18:(10:Nat)^n≤10^18:=Ys2 (by decide) (by omega)
  have e18:(10:Nat)^18=1000000000000000000:=by decide
  have lnv:wl ((numV (cur.take n):Nat):Int)≤18:=Yud (Ze5 hnv) (by omega)
  simp[A.lb93_0,hr,hf,hr0,c1,c2,Zlg,Yf2,Zx0,c3,c4,evOpt]
  refine Zaf (hat _ _) ?_
  rintro _ h1 m1 k1 rfl
  have kle1:=k1.le
  have f1:=(k1.get (N+1) (by omega)).trans g1
  simp[a4,hr,f1,Zam,slc]
  refine Zaf Ztm ?_
  rintro _ h2 m2 k2 rfl
  have kle2:=k2.le
  simp[]
  refine Zaf (Ymt (In.small (z:=(10:Nat)) (by omega) (by omega)) (by omega) (by omega) l10 (by omega)) ?_
  rintro vp h3 m3 k3 hvp
  have kle3:=k3.le
  simp[]
  refine Zaf (Zg3 (((hp.keep k1).keep k2).keep k3) hvp (by omega) (by omega)) ?_
  rintro vm h4 m4 k4 hvm
  have kle4:=k4.le
  have lm:=Zi0 (p:Int) ((10^n:Nat):Int)
  simp[]
  refine Zaf Ztm ?_
  rintro _ h5 m5 k5 rfl
  have kle5:=k5.le
  simp[]
  refine Zaf (Zsj (hvm.keep k5) (In.small (z:=((numV (cur.take n):Nat):Int)) (by omega) (by omega)) (by omega) (by omega)) ?_
  rintro va h6 m6 k6 hva
  have kle6:=k6.le
  have k26:=(((k2.trans k3).trans k4).trans k5).trans k6
  have e1:=(k26.get (N+1) (by omega)).trans f1
  have e2:=(k26.get N (by omega)).trans ((k1.get N (by omega)).trans hrow)
  obtain⟨n6,u6,rfl,o6⟩:=hva.cells
  unfold V.one at o6
  have z1:N+1<m1:=by omega
  have z2:N+1<m6:=by omega
  have z3:¬N+1<N:=by omega
  have z4:N+1<m5:=by omega
  simp[hr,hf,a4,hr0,e1,o6,z1,z2,z4,splice,Zal,evOpt,c4,Zao.chk]
  have hpe:(p:Int)*((10^n:Nat):Int)+((numV (cur.take n):Nat):Int)=((p*10^n+numV (cur.take n):Nat):Int):=by simp
  rw[hpe]at hva
  refine⟨m-n,by omega,by simp[Zad,hW,z3],((hK.trans k1).trans k26).set (by omega),by show N+2≤m6;omega,by simp[e2],cur.drop n,p*10^n+numV (cur.take n),n6,u6,by simp,by rw[Yt2];omega,by omega,Zy8 hcd n,by simp,hva.setNU e1 hp.nu rfl,?_⟩
  have h1:=Ya6 (cur.take n) (cur.drop n)
  rw[Yt6,Yt2,hcl]at h1
  rw[hv,h1,Ys8,Yvi,←Yte,show n+(m-n)=m by omega]
  omega
def Yao{s:Str}{h:T O}{N:Nat}(hd:Zb8 (Zar s)=true)(hl:(Zar s).length≤100000):Fn A.C 93 [.str s] h N (fun v h' n'=>In h' n' v (if negS s=true then -(numV (Zar s):Int) else (numV (Zar s):Int))):=by
 intro w
 rw[Zac,A.k93 (by simp)]
 simp[A.b93,Zrt,Zi9,Zam,slc,splice]
 refine Zai [(0,0),(5,7),(13,36)] _ (RdI h N (Zar s)) (Zar s).length ?_ (Yan hd hl (by simp)) ?_
 ·have kk:=(kset (kset (Keeps.refl (h:=h) (n:=N)) (.cells [.int .i64 0,.nilslice] 156 true)) (.cells [.int .i64 0,.nilslice] 156 true)).set (i:=N+1) (o:=.cells [.int .i64 0,.nilslice] 156 true) (by omega)
  exact⟨by simp[Zad],kk,Yr4 _,by simp,Zar s,0,0,.nilslice,by simp,rfl,Yr4 _,hd,by simp,In.small (by omega) (by omega),by simp⟩
 rintro e r ⟨h5,m5,W5⟩ hr ⟨rfl,hW,hK,hle,hrow,cur,p,n1,u1,hr0,hcl,hms,hcd,g1,hp,hv⟩
 simp only at hW hK hle hrow g1 hp
 have:cur=[]:=Ysh hcl
 subst this
 have hv:numV (Zar s)=p:=by rw[hv];simp[numV]
 have lp:wl (p:Int)≤100000:=by rw[←hv];exact Yud (Ze5 (Zd9 hd)) hl
 obtain⟨_,_,e5,o5⟩:=hp.cells
 simp only[V.agg.injEq,Ysm,V.int.injEq,true_and,and_true]at e5
 obtain⟨rfl,rfl⟩:=e5
 unfold V.one at o5
 have wok:¬N<N:=by omega
 cases hn:negS s with
 |true=>
  simp[hr,hn,g1,Zam,slc]
  refine Zaf (Zq8 hp (by omega)) ?_
  rintro v h6 m6 k6 hv6
  obtain⟨n6,u6,rfl,o6⟩:=hv6.cells
  unfold V.one at o6
  have e0:=(k6.get N (by omega)).trans hrow
  have kle:=k6.le
  simp[hr,e0,o6,Zam,slc,splice,Zal,Ret,hW]
  exact⟨(hK.trans k6).set (Yr4 _),by rw[hv];exact hv6.setNU e0 (by simp) rfl⟩
 |false=>
  simp[hr,hn,g1,hrow,o5,Zam,slc,splice,Zal,Ret,hW]
  exact⟨hK.set (Yr4 _),by rw[hv];exact hp.setNU hrow (by simp) rfl⟩
end Go.Mx
