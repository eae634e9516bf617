/-
  The seat: its known calls and its functions.
-/
import Derived.Test.YtlbophlgohokkaaGreatDoorMxUtf
import Derived.Test.YtlbophlgohokkaaGreatDoorMxTab
import Derived.Test.YtlbophlgohokkaaGreatDoorProg
set_option linter.all false
namespace Go.Mx
open Go Go.Proofs
set_option maxRecDepth 1000000
noncomputable abbrev A.F(n:Nat):=Zko Tryz.prog n
def mv(a b:Nat):Zbc:=⟨some a,.mov (.tmp b),none⟩
def mc(a:Nat)(n:Int):Zbc:=⟨some a,.mov (.const (.int .i64 n)),none⟩
def ia(a z x i:Nat):Zbc:=⟨some a,.iaddrSl z (.tmp x) (.tmp i),none⟩
def ld(a x:Nat):Zbc:=⟨some a,.load none (.tmp x),none⟩
def xt(a x i:Nat):Zbc:=⟨some a,.extract (.tmp x) i,none⟩
def bi(a:Nat)(o:BinOp)(x y:Nat):Zbc:=⟨some a,.bin o (.node []) false (.tmp x) (.tmp y),none⟩
def bc(a:Nat)(o:BinOp)(x:Nat)(n:Int):Zbc:=⟨some a,.bin o (.node []) false (.tmp x) (.const (.int .i64 n)),none⟩
def ln(a x:Nat):Zbc:=⟨some a,.len 1 (.tmp x),none⟩
def so(a x:Nat):Zbc:=⟨none,.store 1 (.tmp a) (.tmp x),none⟩
def c1(a f x:Nat):Zbc:=⟨some a,.call (.const (.func f [] [])) [.tmp x],none⟩
def c2(a f x y:Nat):Zbc:=⟨some a,.call (.const (.func f [] [])) [.tmp x,.tmp y],none⟩
def lN(a n x:Nat):Zbc:=⟨some a,.load (some n) (.tmp x),none⟩
def fa(a o x:Nat):Zbc:=⟨some a,.faddr o (.tmp x),none⟩
def pf(a x y:Nat):Zbc:=⟨some a,.pick (.tmp x) (.tmp y) (.const (.bool false)),none⟩
def pt(a x y:Nat):Zbc:=⟨some a,.pick (.tmp x) (.const (.bool true)) (.tmp y),none⟩
def ei(a x:Nat)(n:Int):Zbc:=⟨some a,.bin .eql (.prim .int) true (.tmp x) (.const (.int .i64 n)),none⟩
def ni(a x:Nat)(n:Int):Zbc:=⟨some a,.bin .neq (.prim .int) true (.tmp x) (.const (.int .i64 n)),none⟩
def mN(a:Nat):Zbc:=⟨some a,.mov (.const .nilslice),none⟩
def bx(a e x:Nat):Zbc:=⟨some a,.box e (.tmp x),none⟩
def mg(a x g:Nat):Zbc:=⟨some a,.mov (.tmp x),some (g,true)⟩
def mh(a x g:Nat):Zbc:=⟨some a,.mov (.tmp x),some (g,false)⟩
def sr(l:List Zbc)(c:Zae):Zae:=.seq (.reg l) c
def cd(x:Nat)(a b:Zae):Zae:=.cond (.tmp x) a b
attribute [simp] Yqj Yqz mv mc ia ld xt bi bc ln so c1 c2 lN fa pf pt ei ni mN bx mg mh sr cd
def A.p10:O:=.cells (([1,10,100,1000,10000,100000,1000000,10000000,100000000,1000000000,10000000000,100000000000,1000000000000,10000000000000,100000000000000,1000000000000000,10000000000000000,100000000000000000,1000000000000000000,10000000000000000000]:List Int).map fun z=>.int .u64 z) 298 false
def A.TB:List (Nat×O):=[(3,A.p10)]
noncomputable def A.C:Cx:=⟨Zvp A.TB [⟨10,[],.bool true⟩],Zko Tryz.prog⟩
theorem A.t:A.C.tbl=Zko Tryz.prog:=rfl
theorem A.x0{f:Nat}{a c args:List V}{st:St}(h:Nat.beq 10 f=false):A.C.x (.func f a c) args st=none:=by
 show Zvp A.TB [⟨10,[],.bool true⟩] (.func f a c) args st=none
 unfold Zvp
 split
 ·rename_i heq
  simp only[V.func.injEq]at heq
  obtain⟨rfl,rfl,rfl⟩:=heq
  simp only[Zvo,h]
 ·rfl
theorem A.kk{n k:Nat}{res:List Yf3}{b:Zae}(hc:Zko Tryz.prog n=some ⟨k,res,b⟩)(hx:Nat.beq 10 n=false){K:List Kf}{Q:Rs→Prop}{f c args:List V}{st:St}(h:(f++args++c).length≤k):Run A.C K (Zo8 (A.C.call (.func n f c) args st)) Q↔Run A.C (.fin res st::K) (exR (A.C.code none b ⟨Zd9 .nil 0 (f++args++c),k,[]⟩ ⟨st.h,st.n,[]⟩)) Q:=Ych (A.x0 (f:=n) hx) (mf:=⟨k,res,b⟩) (by rw[A.t];exact hc) h
theorem A.known{h:T O}{N:Nat}{w:List Nat}(hp:h.get 3=some A.p10):A.C.call (.func 10 [] []) [] ⟨h,N,w⟩=some (.bool true,⟨h,N,w⟩):=by
 have hq:oEq (h.get 3) A.p10=true:=by rw[hp];decide+kernel
 have hi:Zj8 ⟨h,N,w⟩ A.TB=true:=by
  show (match oEq (h.get 3) A.p10 with|true=>true|false=>false)=true
  rw[hq]
 have hx:A.C.x (.func 10 [] []) [] ⟨h,N,w⟩=some (.bool true,⟨h,N,w⟩):=by
  show (match Zj8 ⟨h,N,w⟩ A.TB with|true=>some (V.bool true,(⟨h,N,w⟩:St))|false=>none)=_
  rw[hi]
 rw[Cx.call_eq]
 unfold Zdm
 rw[hx]
variable {s:Str}
def A.lb158_0:Zae:=.seq (sr [mv 4 3,mv 5 0,⟨(some 6),.len 0 (.tmp 5),none⟩,bi 7 .lss 4 6]
 (cd 7
 (.skip)
 (.exit 0)))
 (.seq (.block 1 (sr [mv 10 0,mv 11 3,⟨(some 12),.idxStr (.tmp 10) (.tmp 11),none⟩,⟨(some 13),.bin .eql (.prim .int) true (.tmp 12) (.const (.int .u8 47)),none⟩]
 (cd 13
 (sr [mv 14 3,mv 2 14]
 (.ret))
 (.skip))))
 (.reg [mv 8 3,bc 9 .add 8 1,mv 3 9]))
def A.b158:Zae:=sr [mc 2 0]
 (.seq (sr [mc 3 0]
 (.block 0 (.loop A.lb158_0)))
 (sr [mv 15 0,⟨(some 16),.len 0 (.tmp 15),none⟩,mv 2 16]
 (.ret)))
theorem A.c158:A.F 158=some ⟨17,[.tmp 2],A.b158⟩:=by kernel_rfl
def A.k158:=@A.kk 158 _ _ _ A.c158 rfl
def A.lb225_0:Zae:=.seq (sr [mv 4 3,mv 5 0,⟨(some 6),.len 0 (.tmp 5),none⟩,bi 7 .lss 4 6]
 (cd 7
 (.skip)
 (.exit 0)))
 (.seq (.block 1 (sr [mv 10 0,mv 11 3,⟨(some 12),.idxStr (.tmp 10) (.tmp 11),none⟩,⟨(some 13),.bin .lss (.node []) false (.tmp 12) (.const (.int .u8 48)),none⟩,mv 14 13,mh 15 0 14,mh 16 3 14,⟨(some 17),.idxStr (.tmp 15) (.tmp 16),(some (14,false))⟩,⟨(some 18),.bin .gtr (.node []) false (.tmp 17) (.const (.int .u8 57)),(some (14,false))⟩,pt 19 14 18]
 (cd 19
 (sr [⟨(some 2),.mov (.const (.bool false)),none⟩]
 (.ret))
 (.skip))))
 (.reg [mv 8 3,bc 9 .add 8 1,mv 3 9]))
def A.b225:Zae:=sr [⟨(some 2),.mov (.const (.bool false)),none⟩]
 (.seq (sr [mc 3 0]
 (.block 0 (.loop A.lb225_0)))
 (sr [⟨(some 2),.mov (.const (.bool true)),none⟩]
 (.ret)))
theorem A.c225:A.F 225=some ⟨20,[.tmp 2],A.b225⟩:=by kernel_rfl
def A.k225:=@A.kk 225 _ _ _ A.c225 rfl
def A.b159:Zae:=sr [⟨(some 2),.mov (.const (.bool false)),none⟩]
 (.seq (sr [mv 3 0,⟨(some 4),.len 0 (.tmp 3),none⟩,ei 5 4 0,mv 6 5,mh 7 0 6,⟨(some 8),.len 0 (.tmp 7),(some (6,false))⟩,⟨(some 9),.bin .gtr (.node []) false (.tmp 8) (.const (.int .i64 1)),(some (6,false))⟩,mh 10 9 6,mg 11 0 10,⟨(some 12),.idxStr (.tmp 11) (.const (.int .i64 0)),(some (10,true))⟩,⟨(some 13),.bin .eql (.prim .int) true (.tmp 12) (.const (.int .u8 48)),(some (10,true))⟩,⟨(some 14),.pick (.tmp 10) (.tmp 13) (.const (.bool false)),(some (6,false))⟩,pt 15 6 14]
 (cd 15
 (sr [⟨(some 2),.mov (.const (.bool false)),none⟩]
 (.ret))
 (.skip)))
 (sr [mv 16 0,c1 17 225 16,mv 2 17]
 (.ret)))
theorem A.c159:A.F 159=some ⟨18,[.tmp 2],A.b159⟩:=by kernel_rfl
def A.k159:=@A.kk 159 _ _ _ A.c159 rfl
def A.lb229_0:Zae:=.seq (sr [mv 5 4,mv 6 0,⟨(some 7),.len 0 (.tmp 6),none⟩,bi 8 .lss 5 7]
 (cd 8
 (.skip)
 (.exit 0)))
 (.seq (.block 1 (.reg [mv 11 3,⟨(some 12),.bin .mul (.node []) false (.const (.int .i64 10)) (.tmp 11),none⟩,mv 13 0,mv 14 4,⟨(some 15),.idxStr (.tmp 13) (.tmp 14),none⟩,⟨(some 16),.convInt .i64 (.tmp 15),none⟩,bi 17 .add 12 16,bc 18 .sub 17 48,mv 3 18]))
 (.reg [mv 9 4,bc 10 .add 9 1,mv 4 10]))
def A.b229:Zae:=sr [mc 2 0]
 (sr [mc 3 0]
 (.seq (sr [mc 4 0]
 (.block 0 (.loop A.lb229_0)))
 (sr [mv 19 3,mv 2 19]
 (.ret))))
theorem A.c229:A.F 229=some ⟨20,[.tmp 2],A.b229⟩:=by kernel_rfl
def A.k229:=@A.kk 229 _ _ _ A.c229 rfl
theorem Zey{st:St}(hl:s.length<4611686018427387904):A.C.call (.func 158 [] []) [.str s] st=some (.int .i64 (slashAt s:Nat),st):=by
 apply Call.eq
 rw[Zab,A.k158 (by simp)]
 simp(disch:=first|(simp;done)|omega|rfl) [-getElem?_pos,A.b158]
 refine Zaj [(2,14)] (fun e r s1=>s1=⟨st.h,st.n,[]⟩∧((e=.exit 0∧slashAt s=s.length)∨(e=.ret∧r.get 2=some (.int .i64 (slashAt s:Nat))))) (fun m r s1=>s1=⟨st.h,st.n,[]⟩∧∃k,k+m=s.length∧r.get 3=some (.int .i64 k)∧slashAt s=k+slashAt (s.drop k)) s.length ?_ ?_ ?_
 ·exact⟨rfl,0,by omega,by simp,by simp⟩
 ·rintro m r _ hr hf ⟨rfl,k,hk,h3,hz⟩
  rw[Zah]
  cases m with
  |zero=>
   have:k=s.length:=by omega
   subst this
   rw[Yp6,slashAt]at hz
   simp(disch:=first|(simp;done)|omega|rfl) [-getElem?_pos,A.lb158_0,hr,hf,h3]
   omega
  |succ m=>
   obtain⟨c,hc⟩:=Zaf (l:=s) (k:=k) (by omega)
   have hk1:(k:Int)<(s.length:Int):=by omega
   have hk2:k<s.length:=by omega
   rw[Zas hc,slashAt]at hz
   by_cases h47:u8I c=47
   ·rw[Yo4 (by unfold u8I at h47;omega)]at hz
    simp(disch:=first|(simp;done)|omega|rfl) [-getElem?_pos,A.lb158_0,hr,hf,h3,hk1,hc,h47]
    rw[hz];simp
   ·rw[Yo0 (by unfold u8I at h47;omega)]at hz
    simp(disch:=first|(simp;done)|omega|rfl) [-getElem?_pos,A.lb158_0,hr,hf,h3,hk1,hc,h47]
    exact⟨m,by omega,k+1,by omega,by simp,by omega⟩
 ·rintro e r _ hr ⟨rfl,⟨rfl,hz⟩|⟨rfl,h2⟩⟩
  ·simp(disch:=first|(simp;done)|omega|rfl) [-getElem?_pos,hr,hz]
  ·simp(disch:=first|(simp;done)|omega|rfl) [-getElem?_pos,h2]
theorem Yap{st:St}(hl:s.length<4611686018427387904):A.C.call (.func 225 [] []) [.str s] st=some (.bool (Zb3 s),st):=by
 apply Call.eq
 rw[Zab,A.k225 (by simp)]
 simp(disch:=first|(simp;done)|omega|rfl) [-getElem?_pos,A.b225]
 refine Zaj [(2,19)] (fun e r s1=>s1=⟨st.h,st.n,[]⟩∧((e=.exit 0∧Zb3 s=true)∨(e=.ret∧Zb3 s=false∧r.get 2=some (.bool false)))) (fun m r s1=>s1=⟨st.h,st.n,[]⟩∧∃k,k+m=s.length∧r.get 3=some (.int .i64 k)∧Zb3 s=Zb3 (s.drop k)) s.length ?_ ?_ ?_
 ·exact⟨rfl,0,by omega,by simp,by simp⟩
 ·rintro m r _ hr hf ⟨rfl,k,hk,h3,hz⟩
  rw[Zah]
  cases m with
  |zero=>
   have:k=s.length:=by omega
   subst this
   rw[Yp6]at hz
   have hz:Zb3 s=true:=hz
   simp(disch:=first|(simp;done)|omega|rfl) [A.lb225_0,hr,hf,h3,hz]
  |succ m=>
   obtain⟨c,hc⟩:=Zaf (l:=s) (k:=k) (by omega)
   have hk1:(k:Int)<(s.length:Int):=by omega
   have hk2:k<s.length:=by omega
   have hz2:Zb3 s=(Zjr c&&Zb3 (s.drop (k+1))):=by rw[hz,Zas hc];rfl
   rw[Yar]at hz2
   by_cases h1:u8I c<48
   ·have:¬(48≤u8I c∧u8I c≤57):=by omega
    rw[decide_eq_false this,Ysh]at hz2
    simp(disch:=first|(simp;done)|omega|rfl) [-getElem?_pos,A.lb225_0,hr,hf,h3,hk1,hc,h1,hz2]
   ·by_cases h2:57<u8I c
    ·have:¬(48≤u8I c∧u8I c≤57):=by omega
     rw[decide_eq_false this,Ysh]at hz2
     simp(disch:=first|(simp;done)|omega|rfl) [-getElem?_pos,A.lb225_0,hr,hf,h3,hk1,hc,h1,h2,hz2]
    ·have:(48≤u8I c∧u8I c≤57):=by omega
     rw[decide_eq_true this,Bool.true_and]at hz2
     simp(disch:=first|(simp;done)|omega|rfl) [-getElem?_pos,A.lb225_0,hr,hf,h3,hk1,hc,h1,h2]
     exact⟨m,by omega,k+1,by omega,by simp,hz2⟩
 ·rintro e r _ hr ⟨rfl,⟨rfl,hz⟩|⟨rfl,hz,h2⟩⟩
  ·simp(disch:=first|(simp;done)|omega|rfl) [-getElem?_pos,hz]
  ·simp(disch:=first|(simp;done)|omega|rfl) [-getElem?_pos,h2,hz]
theorem Zfd{s:Str}{st:St}(hl:s.length<4611686018427387904):A.C.call (.func 159 [] []) [.str s] st=some (.bool (Zcm s),st):=by
 apply Call.eq
 rw[Zab,A.k159 (by simp)]
 cases s with
 |nil=>simp[A.b159,Zcm]
 |cons c s=>
  have hd:Zcm (c::s)=(Zb3 (c::s)&&(decide (u8I c≠48)||decide (s=[]))):=by
   have:decide (c.toNat≠48)=decide (u8I c≠48):=by unfold u8I;rw[decide_eq_decide];omega
   simp only[Zcm,this];rfl
  have hdg:=fun st=>Yap (s:=c::s) (st:=st) hl
  by_cases h0:s=[]
  ·subst h0
   simp[A.b159,hd,hdg]
  ·have h1:0<s.length:=by
    cases s with
    |nil=>exact absurd rfl h0
    |cons=>simp
   have a1:¬((s.length:Int)+1=0):=by omega
   have a2:(1:Int)<(s.length:Int)+1:=by omega
   have a3:(0:Int)<(s.length:Int):=by omega
   by_cases h48:u8I c=48
   ·simp[A.b159,hd,h0,a1,a2,h48]
   ·simp[A.b159,hd,hdg,h0,a1,a2,h48]
theorem Zim{st:St}(hd:Zb3 s=true)(hl:s.length≤18):A.C.call (.func 229 [] []) [.str s] st=some (.int .i64 (numV s:Nat),st):=by
 apply Call.eq
 rw[Zab,A.k229 (by simp)]
 simp[A.b229]
 refine Zaj [(3,18)] (fun e r s1=>s1=⟨st.h,st.n,[]⟩∧e=.exit 0∧r.get 3=some (.int .i64 (numV s:Nat))) (fun m r s1=>s1=⟨st.h,st.n,[]⟩∧∃k,k+m=s.length∧r.get 4=some (.int .i64 k)∧r.get 3=some (.int .i64 (numV (s.take k):Nat))) s.length ?_ ?_ ?_
 ·exact⟨rfl,0,by omega,by simp,by simp[numV]⟩
 ·rintro m r _ hr hf ⟨rfl,k,hk,h4,h3⟩
  rw[Zah]
  cases m with
  |zero=>
   have:k=s.length:=by omega
   subst this
   rw[Yrg]at h3
   simp[A.lb229_0,hr,hf,h4,h3]
  |succ m=>
   obtain⟨c,hc⟩:=Zaf (l:=s) (k:=k) (by omega)
   have hk1:(k:Int)<(s.length:Int):=by omega
   have hk2:k<s.length:=by omega
   have hd1:=Zjn hd hc
   have hv:=Zl0 hc
   have hb1:=Zol hd k (by omega)
   have hb2:=Ztx (a:=k) (b:=17) (by omega)
   have b3:((numV (s.take (k+1)):Nat):Int)=10*(numV (s.take k):Nat)+u8I c-48:=by
    rw[hv];unfold u8I at*;omega
   have b4:((numV (s.take k):Nat):Int)<100000000000000000:=by
    have:(10:Nat)^17=100000000000000000:=by decide
    omega
   generalize hy:numV (s.take (k+1))=y at*
   generalize numV (s.take k)=x at*
   simp(disch:=first|(simp;done)|omega|rfl) [-getElem?_pos,A.lb229_0,hr,hf,h4,h3,hk1,hc]
   exact⟨m,by omega,k+1,by omega,by simp,by rw[hy,b3]⟩
 ·rintro e r _ hr ⟨rfl,rfl,h3⟩
  simp[h3]
def A.lb265_0:Zae:=.seq (sr [mv 3 0,ln 4 3,bc 5 .gtr 4 0,mv 6 5,mg 7 0 6,mg 8 0 6,⟨(some 9),.len 1 (.tmp 8),(some (6,true))⟩,⟨(some 10),.bin .sub (.node []) false (.tmp 9) (.const (.int .i64 1)),(some (6,true))⟩,⟨(some 11),.iaddrSl 1 (.tmp 7) (.tmp 10),(some (6,true))⟩,⟨(some 12),.load none (.tmp 11),(some (6,true))⟩,⟨(some 13),.bin .eql (.prim .int) true (.tmp 12) (.const (.int .i64 0)),(some (6,true))⟩,pf 14 6 13]
 (cd 14
 (.skip)
 (.exit 0)))
 (.block 1 (.reg [mv 15 0,mv 16 0,ln 17 16,bc 18 .sub 17 1,⟨(some 19),.sliceSl 1 (.tmp 15) none (some (.tmp 18)) none,none⟩,mv 0 19]))
def A.b265:Zae:=sr [mN 2]
 (.seq (.block 0 (.loop A.lb265_0))
 (sr [mv 20 0,mv 2 20]
 (.ret)))
theorem A.c265:A.F 265=some ⟨21,[.tmp 2],A.b265⟩:=by kernel_rfl
def A.k265:=@A.kk 265 _ _ _ A.c265 rfl
def A.b234:Zae:=sr [⟨(some 4),.alloc [(.bool false),.nilslice] 175,none⟩]
 (sr [mv 5 1,c1 6 265 5,mv 1 6]
 (sr [mv 7 0,mv 8 7,mg 9 1 8,⟨(some 10),.len 1 (.tmp 9),(some (8,true))⟩,⟨(some 11),.bin .gtr (.node []) false (.tmp 10) (.const (.int .i64 0)),(some (8,true))⟩,pf 12 8 11,mv 13 1,⟨(some 14),.build [(.bool false),.nilslice] [(0,1,(.tmp 12)),(1,1,(.tmp 13))],none⟩,⟨none,.store 2 (.tmp 4) (.tmp 14),none⟩]
 (.ret)))
theorem A.c234:A.F 234=some ⟨15,[.cell 4 (some 2)],A.b234⟩:=by kernel_rfl
def A.k234:=@A.kk 234 _ _ _ A.c234 rfl
def A.lb236_0:Zae:=.seq (sr [mv 19 5,bc 20 .geq 19 0]
 (cd 20
 (.skip)
 (.exit 0)))
 (.seq (.block 1 (.seq (.seq (.regD [mv 23 0,mv 24 5,ia 25 1 23 24,ld 26 25,mv 27 1,mv 28 5,ia 29 1 27 28,ld 30 29,bi 31 .lss 26 30] [0,0,3,7,0,0,48,112,255])
 (cd 31
 (sr [⟨(some 4),.mov (.const (.int .i64 (-1))),none⟩]
 (.ret))
 (.skip)))
 (.seq (.regD [mv 32 0,mv 33 5,ia 34 1 32 33,ld 35 34,mv 36 1,mv 37 5,ia 38 1 36 37,ld 39 38,bi 40 .gtr 35 39] [0,0,3,7,0,0,48,112,255])
 (cd 40
 (sr [mc 4 1]
 (.ret))
 (.skip)))))
 (.reg [mv 21 5,bc 22 .sub 21 1,mv 5 22]))
def A.b236:Zae:=sr [mc 4 0]
 (.seq (sr [mv 6 0,ln 7 6,mv 8 1,ln 9 8,⟨(some 10),.bin .neq (.prim .int) false (.tmp 7) (.tmp 9),none⟩]
 (cd 10
 (.seq (sr [mv 11 0,ln 12 11,mv 13 1,ln 14 13,bi 15 .lss 12 14]
 (cd 15
 (sr [⟨(some 4),.mov (.const (.int .i64 (-1))),none⟩]
 (.ret))
 (.skip)))
 (sr [mc 4 1]
 (.ret)))
 (.skip)))
 (.seq (sr [mv 16 0,ln 17 16,bc 18 .sub 17 1,mv 5 18]
 (.block 0 (.loop A.lb236_0)))
 (sr [mc 4 0]
 (.ret))))
theorem A.c236:A.F 236=some ⟨41,[.tmp 4],A.b236⟩:=by kernel_rfl
def A.k236:=@A.kk 236 _ _ _ A.c236 rfl
def A.lb264_0:Zae:=.seq (sr [mv 16 8,bc 17 .geq 16 0]
 (cd 17
 (.skip)
 (.exit 0)))
 (.seq (.block 1 (sr [mv 20 7,bc 21 .mul 20 1000000000,mv 22 0,mv 23 8,ia 24 1 22 23,ld 25 24,bi 26 .add 21 25,mv 9 26]
 (sr [mv 27 6,mv 28 8,mv 29 9,mv 30 1,bi 31 .quo 29 30,ia 32 1 27 28,so 32 31]
 (.reg [mv 33 9,mv 34 1,bi 35 .rem 33 34,mv 7 35]))))
 (.reg [mv 18 8,bc 19 .sub 18 1,mv 8 19]))
def A.b264:Zae:=sr [mN 4,mc 5 0]
 (sr [mv 10 0,ln 11 10,⟨(some 12),.mkslice 3 1 8 [(.int .i64 0)] (.tmp 11) (.tmp 11),none⟩,mv 6 12]
 (sr [mc 7 0]
 (.seq (sr [mv 13 0,ln 14 13,bc 15 .sub 14 1,mv 8 15]
 (.block 0 (.loop A.lb264_0)))
 (sr [mv 36 6,c1 37 265 36,mv 38 7,mv 4 37,mv 5 38]
 (.ret)))))
theorem A.c264:A.F 264=some ⟨39,[.tmp 4,.tmp 5],A.b264⟩:=by kernel_rfl
def A.k264:=@A.kk 264 _ _ _ A.c264 rfl
theorem Zfs{h:T O}{N:Nat}{v:V}{l:List Int}(hs:Sl h N v (dI l))(hl:l.length<1152921504606846976):Fn A.C 265 [v] h N (fun v' h' N'=>Sl h' N' v' (dI (Zfp l))):=by
 intro w
 rw[Zab,A.k265 (by simp)]
 simp[A.b265]
 refine Zaj [(0,0),(3,19)] (fun e r st=>e=.exit 0∧st=⟨h,N,[]⟩∧∃u,r.get 0=some u∧Sl h N u (dI (Zfp l))) (fun m r st=>st=⟨h,N,[]⟩∧m≤l.length∧∃u,r.get 0=some u∧Sl h N u (dI (l.take m))∧Zfp (l.take m)=Zfp l) l.length ?_ ?_ ?_
 ·exact⟨rfl,Yoy _,v,rfl,by rw[Yrg];exact hs,by rw[Yrg]⟩
 ·rintro m r _ hr hf ⟨rfl,hm,u,h0,hu,ht⟩
  rw[Zah]
  have lu:=hu.len
  rw[Zar,Ypq,Yp7 hm]at lu
  cases m with
  |zero=>
   simp[A.lb265_0,hf,h0,lu]
   rw[←ht];exact hu
  |succ k=>
   obtain⟨d,hd⟩:=Zaf (l:=l) (k:=k) (by omega)
   have hd':(l.take (k+1))[k]?=some d:=by rw[Ypf,Yo4 (by omega)];exact hd
   obtain⟨i,o,c,e,rw,q1,q2,q3,q4⟩:=hu.at (Zbf hd')
   have e1:l.take (k+1)=l.take k++[d]:=by rw[Yrs,hd];rfl
   have k1:(0:Int)<(k:Int)+1:=by omega
   have k2:(k:Int)<(k:Int)+1:=by omega
   have k3:(k:Int)+1-1=(k:Int):=by omega
   by_cases hz:d=0
   ·subst hz
    rw[e1,Zjv]at ht
    obtain⟨v',x1,x2⟩:=Zem (w:=[]) hu (lo:=0) (hi:=k) (Yrv _) (by rw[Zar,Ypq];omega) none (some (.int .i64 k)) (.inr ⟨rfl,rfl⟩) (.inl rfl)
    have x3:((dI (l.take (k+1))).take k).drop 0=dI (l.take k):=by
     rw[Yri,dI,←List.map_take,List.take_take,Yp7 (by omega)];rfl
    rw[x3]at x2
    simp(disch:=first|(simp;done)|omega|rfl) [A.lb265_0,hf,h0,lu,k1,k3,q1,q3,q4,Zbv,evOpt,x1]
    exact⟨k,by omega,by omega,x2,ht⟩
   ·rw[e1,Zm7 hz,←e1]at ht
    simp(disch:=first|(simp;done)|omega|rfl) [A.lb265_0,hf,h0,lu,k1,k3,q1,q3,q4,hz]
    rw[←ht];exact hu
 ·rintro _ r _ hr ⟨rfl,rfl,u,h0,hu⟩
  simp[h0,Ret]
  exact⟨Keeps.refl,hu⟩
def Rg(h:T O)(N:Nat)(v:V)(z:Int):Prop:=∃u,v=.agg [.bool (decide (z<0)),u]∧Dn h N u z.natAbs
theorem Zbq{h:T O}{N:Nat}{v:V}{l:List Int}{b:Bool}{n:Nat}(hs:Sl h N v (dI l))(hd:Di l)(hn:vI l=n)(hl:l.length<1152921504606846976):Fn A.C 234 [.bool b,v] h N (fun v' h' N'=>Rg h' N' v' (if b=true then -(n:Int) else n)):=by
 intro w
 rw[Zab,A.k234 (by simp)]
 simp[A.b234]
 refine Zac (Zfs (hs.keep (Keeps.refl.new _)) hl) ?_
 rintro u h1 n1 k1 hu
 rw[Zfo hd hn]at hu
 have lu:=hu.len
 rw[Zar]at lu
 have kle:=k1.le
 have hrow:=k1.get N (by omega)
 simp at hrow
 have huo:=hu.form.one
 have huc:=hu.form.cells
 unfold V.one at huo
 unfold V.cells at huc
 have k0:=(Keeps.refl (h:=h) (n:=N)).new (.cells [.bool false,.nilslice] 175 true)
 have kx:=fun o=>((k0.trans k1).set (i:=N) (o:=o) (Yoy N))
 have hu2:=fun c1 (hc:c1.length=2)=>hu.setInt (i:=N) (c1:=c1) (e1:=175) (w1:=true) hrow (by intro x hx k m;simp at hx;rcases hx with rfl|rfl<;>simp) hc
 cases b with
 |false=>
  simp[splice,hrow,huo,huc,Zak,Zal,slc,Ret]
  refine⟨kx _,u,?_,?_⟩
  ·have:¬(n:Int)<0:=by omega
   simp
  ·exact hu2 _ rfl
 |true=>
  by_cases hz:n=0
  ·have hl0:(ds n).length=0:=by rw[hz,Zce];rfl
   simp[lu,hl0,splice,hrow,huo,huc,Zak,Zal,slc,Ret]
   refine⟨kx _,u,?_,?_⟩
   ·simp[hz]
   ·simpa[hz,Dn]using hu2 _ rfl
  ·have hl0:¬(ds n).length=0:=fun hc=>hz (Zdi.1 (Yph hc))
   have hl1:(0:Int)<((ds n).length:Int):=by omega
   have hl2:0<(ds n).length:=by omega
   have hl3:ds n≠[]:=fun hc=>hz (Zdi.1 hc)
   simp[lu,hl2,splice,hrow,huo,huc,Zak,Zal,slc,Ret]
   refine⟨kx _,u,?_,?_⟩
   ·have: -(n:Int)<0:=by omega
    simp;try omega
   ·simpa[Dn]using hu2 _ rfl
theorem Zci:∀{b a:Nat},a≤b→(ds a).length≤(ds b).length:=by
 intro b
 induction b using Nat.strongRecOn with
 |_ b ih=>
  intro a h
  by_cases h0:a=0
  ·rw[h0,Zce];simp
  ·rw[Zgt h0,Zgt (n:=b) (by omega)]
   have:=ih (b/1000000000) (Yr2 (by omega) (by decide)) (a:=a/1000000000) (Nat.div_le_div_right h)
   simp only[Yoz];omega
theorem Zxx{A:List Int}{k:Nat}{x:Int}(hx:A[k]?=some x):vI A=vI (A.take k)+pI k*(x+1000000000*vI (A.drop (k+1))):=by
 have hk:=Za6 hx
 rw[Zio A k (by omega),Zas hx,vI]
theorem Yfw{A B:List Int}{k:Nat}{x y:Int}(hA:Di A)(hB:Di B)(hx:A[k]?=some x)(hy:B[k]?=some y)(he:A.drop (k+1)=B.drop (k+1))(hxy:x<y):vI A<vI B:=by
 have hk:=Za6 hx
 rw[Zxx hx,Zxx hy,he]
 have h1:=Zhv (hA.take k)
 have h2:=Zhu (hB.take k)
 rw[Ypq,Yp7 (by omega)]at h1
 have h3:pI k*(x+1000000000*vI (B.drop (k+1))+1)≤pI k*(y+1000000000*vI (B.drop (k+1))):=Ype (by omega) (Yqw (Zi2 k))
 have h4:pI k*(x+1000000000*vI (B.drop (k+1))+1)=pI k*(x+1000000000*vI (B.drop (k+1)))+pI k:=by grind
 omega
def Ybq(a b:Nat):Int:=if a<b then -1 else if b<a then 1 else 0
theorem Zsx{h:T O}{N:Nat}{u v:V}{a b:Nat}{w:List Nat}(hu:Dn h N u a)(hv:Dn h N v b)(hl:(ds a).length<1152921504606846976)(hl2:(ds b).length<1152921504606846976):A.C.call (.func 236 [] []) [u,v] ⟨h,N,w⟩=some (.int .i64 (Ybq a b),⟨h,N,w⟩):=by
 apply Call.eq
 have lu:=hu.len
 have lv:=hv.len
 rw[Zar]at lu lv
 have va:=Zbb a
 have vb:=Zbb b
 have da:=Zb4 a
 have db:=Zb4 b
 rw[Zab,A.k236 (by simp)]
 unfold Ybq
 by_cases h1:(ds a).length=(ds b).length
 ·have h1':((ds a).length:Int)=((ds b).length:Int):=by omega
  simp(disch:=omega) [A.b236,lu,lv,h1]
  generalize hA:ds a=X at*
  generalize hB:ds b=Y at*
  refine Zaj [(4,5),(19,40)] (fun e r st=>st=⟨h,N,[]⟩∧((e=.exit 0∧a=b)∨(e=.ret∧a<b∧r.get 4=some (.int .i64 (-1)))∨(e=.ret∧b<a∧r.get 4=some (.int .i64 1)))) (fun m r st=>st=⟨h,N,[]⟩∧m≤X.length∧r.get 5=some (.int .i64 ((m:Int)-1))∧X.drop m=Y.drop m) X.length ?_ ?_ ?_
  ·exact⟨rfl,Yoy _,by simp[h1],by rw[Yp6,h1,Yp6]⟩
  ·rintro m r _ hr hf ⟨rfl,hm,h5,he⟩
   rw[Zah]
   cases m with
   |zero=>
    have:a=b:=by
     simp at he;rw[he]at va;omega
    simp[A.lb236_0,hf,h5,this]
   |succ k=>
    obtain⟨x,hx⟩:=Zaf (l:=X) (k:=k) (by omega)
    obtain⟨y,hy⟩:=Zaf (l:=Y) (k:=k) (by omega)
    obtain⟨b1,b2,b3,b4,b5,z1,z2,z3,z4⟩:=Sl.at (show Sl h N u (dI (ds a)) from hu) (by rw[hA];exact Zbf hx)
    obtain⟨c1,c2,c3,c4,c5,y1,y2,y3,y4⟩:=Sl.at (show Sl h N v (dI (ds b)) from hv) (by rw[hB];exact Zbf hy)
    have hq1:(((k+1:Nat):Int)-1)=(k:Int):=by omega
    rw[hq1]at h5
    have hk1:(k:Int)<(X.length:Int):=by omega
    have hk2:(k:Int)<(Y.length:Int):=by omega
    have hk3:(0:Int)≤(k:Int):=by omega
    have hk4:k<Y.length:=by omega
    by_cases hlt:x<y
    ·have:=Yfw da db hx hy he hlt
     have hab:a<b:=by omega
     simp[A.lb236_0,hr,hf,h5,lu,lv,hk1,hk2,hk3,z1,z2,z3,z4,y1,y2,y3,y4,hlt,hab]
    ·by_cases hgt:y<x
     ·have:=Yfw db da hy hx he.symm hgt
      have hab:b<a:=by omega
      have hab2:¬a<b:=by omega
      simp[A.lb236_0,hr,hf,h5,lu,lv,hk1,hk2,hk3,z1,z2,z3,z4,y1,y2,y3,y4,hlt,hgt,hab,hab2]
     ·have hxy:x=y:=by omega
      simp(disch:=first|(simp;done)|omega|rfl) [A.lb236_0,hr,hf,h5,lu,lv,hk3,z1,z2,z3,z4,y1,y2,y3,y4,hlt,hgt]
      exact⟨k,by omega,by omega,rfl,by rw[Zas hx,Zas hy,he,hxy]⟩
  ·rintro e r _ hr ⟨rfl,⟨rfl,hz⟩|⟨rfl,hz,h4⟩|⟨rfl,hz,h4⟩⟩
   ·simp[hz]
   ·simp[h4,hz]
   ·have:¬a<b:=by omega
    simp[h4,hz,this]
 ·have h1':¬((ds a).length:Int)=((ds b).length:Int):=by omega
  by_cases h2:(ds a).length<(ds b).length
  ·have hab:a<b:=by
    apply Yp5;intro hc;have:=Zci hc;omega
   simp[A.b236,lu,lv,h1,h2,hab]
  ·have hab:b<a:=by
    apply Yp5;intro hc;have:=Zci hc;omega
   have hab2:¬a<b:=by omega
   simp[A.b236,lu,lv,h1,h2,hab,hab2]
structure DdA (h:T O) (N:Nat) (l:List Int) (d:Int) (m:Nat) (r:T V) (st:St):Prop where
 w:Zaa N st.w=[]
 keep:Keeps h N st.h (N+1)
 n:st.n=N+1
 r8:r.get 8=some (.int .i64 ((m:Int)-1))
 hm:m≤l.length
 ex:∃out rest,st.h.get N=some (.cells (dI out) 3 true)∧out.length=l.length∧r.get 7=some (.int .i64 rest)∧0≤rest∧rest<d∧Di (out.drop m)∧vI (out.drop m)*d+rest=vI (l.drop m)
theorem Zme{h:T O}{N:Nat}{v:V}{l:List Int}{d:Int}(hs:Sl h N v (dI l))(hd:Di l)(hl:l.length<1099511627776)(h0:0<d)(h1:d<1000000000):Fn A.C 264 [v,.int .i64 d] h N (fun u h' n'=>∃q,u=.tup [q,.int .i64 ((vI l).toNat%d.toNat:Nat)]∧Dn h' n' q ((vI l).toNat/d.toNat)):=by
 intro w
 have lv:=hs.len
 rw[Zar]at lv
 rw[Zab,A.k264 (by simp)]
 simp(disch:=first|(simp;done)|omega|rfl) [A.b264,lv]
 refine Zaj [(7,9),(16,35)] (fun e r st=>e=.exit 0∧DdA h N l d 0 r st) (DdA h N l d) l.length ?_ ?_ ?_
 ·refine⟨by simp,Keeps.refl.new _,rfl,by simp,Yoy _,List.replicate l.length 0,0,by simp[Zoy],by simp,by simp,by omega,h0,?_,?_⟩
  ·rw[Yqo (by simp)];exact Di.nil
  ·rw[Yqo (by simp),Yp6];simp[vI]
 ·rintro m r ⟨H,n1,W⟩ hr hf ⟨hW,hK,hn,h8,hm,out,rest,hrow,hol,h7,hr0,hrd,hdi,hv⟩
  simp only at hW hK hn hrow
  subst hn
  rw[Zah]
  cases m with
  |zero=>
   simp[A.lb264_0,hf,h8]
   exact⟨hW,hK,rfl,by simpa using h8,hm,out,rest,hrow,hol,by simp[h7],hr0,hrd,hdi,hv⟩
  |succ k=>
   obtain⟨x,hx⟩:=Zaf (l:=l) (k:=k) (by omega)
   obtain⟨b1,b2,b3,b4,b5,z1,z2,z3,z4⟩:=hs.at (Zbf hx)
   have z3:=(hK.get _ z2).trans z3
   have hxd:=hd.get hx
   have hq1:(((k+1:Nat):Int)-1)=(k:Int):=by omega
   rw[hq1]at h8
   have hk1:(k:Int)<(l.length:Int):=by omega
   have hk2:k<l.length:=by omega
   have hk3:(0:Int)≤(k:Int):=by omega
   have w1:Zaq .i64 (rest*1000000000)=rest*1000000000:=Zai (by omega) (by omega)
   have w2:Zaq .i64 (rest*1000000000+x)=rest*1000000000+x:=Zai (by omega) (by omega)
   have s0:0≤rest*1000000000+x:=by omega
   have hd0:¬d=0:=by omega
   have t1:(rest*1000000000+x).tdiv d=(rest*1000000000+x)/d:=Yp4 s0
   have t2:(rest*1000000000+x).tmod d=(rest*1000000000+x)%d:=Yqr s0
   have t3:=Yq9 (rest*1000000000+x) d
   have t4:0≤(rest*1000000000+x)/d:=Int.ediv_nonneg s0 (by omega)
   have t5:(rest*1000000000+x)/d<1000000000:=by
    apply Int.ediv_lt_of_lt_mul h0
    omega
   have t6:=Yr3 (rest*1000000000+x) hd0
   have t7:=Yro (rest*1000000000+x) h0
   have w3:Zaq .i64 ((rest*1000000000+x)/d)=(rest*1000000000+x)/d:=Zai (by omega) (by omega)
   have w8:=Zar out
   have w7:=Zhq (l:=out) (k:=k) (v:=(rest*1000000000+x)/d) (by omega)
   simp(disch:=first|(simp;done)|omega|rfl) [A.lb264_0,hr,hf,h8,h7,hk3,lv,z1,z3,z4,w1,w2,w3,t1,t2,hrow,w7]
   have e1:(out.set k ((rest*1000000000+x)/d)).drop k=((rest*1000000000+x)/d)::out.drop (k+1):=by
    rw[Zas (d:=(rest*1000000000+x)/d) (by rw[Ypc (by omega)])]
    rw[List.drop_set_of_lt (by omega)]
   generalize (rest*1000000000+x)/d=q at*
   generalize (rest*1000000000+x)%d=r' at*
   refine⟨k,by omega,⟨by simp[Zaa,hW],hK.set (Yoy N),rfl,by simp,by omega,out.set k q,r',by simp,by simp[hol],by simp,t6,t7,?_,?_⟩⟩
   ·rw[e1];exact Di.app (Di.one t4 t5) hdi
   ·rw[e1,Zas hx,vI,vI,←hv]
    grind
 ·rintro _ r ⟨H,n1,W⟩ hr ⟨rfl,hW,hK,hn,h8,hm,out,rest,hrow,hol,h7,hr0,hrd,hdi,hv⟩
  simp only at hW hK hn hrow
  subst hn
  rw[Yri,Yri]at*
  have hs2:Sl H (N+1) (.slice N 0 l.length (some l.length) 1) (dI out):=Sl.row (by omega) hrow (by simp[hol]) (fun k hk=>by simp at hk;omega)
  simp[hr]
  refine Zac (Zfs hs2 (by omega)) ?_
  rintro u h2 n2 k2 hu
  have hvo:=Zhu hdi
  have hvl:=Zhu hd
  have m1:(vI l).toNat/d.toNat=(vI out).toNat:=by
   have:(vI l)/d=vI out:=by
    rw[←hv,Int.mul_comm,Int.add_comm,Int.add_mul_ediv_left _ _ (by omega),Int.ediv_eq_zero_of_lt hr0 hrd];omega
   rw[←this]
   obtain⟨a,ha⟩:=Yre hvl
   obtain⟨b,hb⟩:=Yre (Yqw h0)
   rw[ha,hb];rfl
  have m2:(((vI l).toNat%d.toNat:Nat):Int)=rest:=by
   have:(vI l)%d=rest:=by
    rw[←hv,Int.mul_comm,Int.add_comm,Int.add_mul_emod_self_left,Int.emod_eq_of_lt hr0 hrd]
   rw[←this]
   obtain⟨a,ha⟩:=Yre hvl
   obtain⟨b,hb⟩:=Yre (Yqw h0)
   rw[ha,hb];rfl
  rw[Zn7 hdi]at hu
  have m2':rest=max (vI l) 0%max d 0:=by rw[←m2];simp
  simp[h7,Ret,hW]
  refine⟨hK.trans k2,u,⟨rfl,m2'⟩,?_⟩
  rw[m1]
  exact hu
def A.lb238_0:Zae:=.seq (sr [mv 22 8,mv 23 1,ln 24 23,bi 25 .lss 22 24]
 (cd 25
 (.skip)
 (.exit 2)))
 (.seq (.block 3 (.seq (.regD [mv 28 5,mv 29 6,mv 30 8,bi 31 .add 29 30,ia 32 1 28 31,ld 33 32,mv 34 0,mv 35 6,ia 36 1 34 35,ld 37 36,mv 38 1,mv 39 8,ia 40 1 38 39,ld 41 40,bi 42 .mul 37 41,bi 43 .add 33 42,mv 44 7,bi 45 .add 43 44,mv 9 45] [0,0,0,6,15,31,0,0,192,448,0,0,3072,7168,16320,32767,0,131071,262143])
 (sr [mv 46 5,mv 47 6,mv 48 8,bi 49 .add 47 48,mv 50 9,bc 51 .rem 50 1000000000,ia 52 1 46 49,so 52 51]
 (.reg [mv 53 9,bc 54 .quo 53 1000000000,mv 7 54]))))
 (.reg [mv 26 8,bc 27 .add 26 1,mv 8 27]))
def A.lb238_1:Zae:=.seq (sr [mv 16 6,mv 17 0,ln 18 17,bi 19 .lss 16 18]
 (cd 19
 (.skip)
 (.exit 0)))
 (.seq (.block 1 (sr [mc 7 0]
 (.seq (sr [mc 8 0]
 (.block 2 (.loop A.lb238_0)))
 (.reg [mv 55 5,mv 56 6,mv 57 1,ln 58 57,bi 59 .add 56 58,mv 60 5,mv 61 6,mv 62 1,ln 63 62,bi 64 .add 61 63,ia 65 1 60 64,ld 66 65,mv 67 7,bi 68 .add 66 67,ia 69 1 55 59,so 69 68]))))
 (.reg [mv 20 6,bc 21 .add 20 1,mv 6 21]))
def A.b238:Zae:=sr [mN 4]
 (sr [mv 10 0,ln 11 10,mv 12 1,ln 13 12,bi 14 .add 11 13,⟨(some 15),.mkslice 3 1 8 [(.int .i64 0)] (.tmp 14) (.tmp 14),none⟩,mv 5 15]
 (.seq (sr [mc 6 0]
 (.block 0 (.loop A.lb238_1)))
 (sr [mv 70 5,c1 71 265 70,mv 4 71]
 (.ret))))
theorem A.c238:A.F 238=some ⟨72,[.tmp 4],A.b238⟩:=by kernel_rfl
def A.k238:=@A.kk 238 _ _ _ A.c238 rfl
structure MuB (h:T O) (N:Nat) (la lb:List Int) (i:Nat) (out0:List Int) (a:Int) (m:Nat) (r:T V) (st:St):Prop where
 w:Zaa N st.w=[]
 keep:Keeps h N st.h (N+1)
 n:st.n=N+1
 ex:∃k out c,k+m=lb.length∧r.get 8=some (.int .i64 k)∧st.h.get N=some (.cells (dI out) 3 true)∧out.length=la.length+lb.length∧r.get 7=some (.int .i64 c)∧0≤c∧c<1000000000∧Di out∧(∀t,i+lb.length≤t→t<out.length→out[t]?=some 0)∧vI out+pI (i+k)*c=vI out0+pI i*(a*vI (lb.take k))
structure MuA (h:T O) (N:Nat) (la lb:List Int) (m:Nat) (r:T V) (st:St):Prop where
 w:Zaa N st.w=[]
 keep:Keeps h N st.h (N+1)
 n:st.n=N+1
 ex:∃i out,i+m=la.length∧r.get 6=some (.int .i64 i)∧st.h.get N=some (.cells (dI out) 3 true)∧out.length=la.length+lb.length∧Di out∧(∀t,i+lb.length≤t→t<out.length→out[t]?=some 0)∧vI out=vI (la.take i)*vI lb
theorem Zrt{h:T O}{N:Nat}{u v:V}{la lb:List Int}{a b:Nat}(hu:Sl h N u (dI la))(hv:Sl h N v (dI lb))(da:Di la)(db:Di lb)(ea:vI la=a)(eb:vI lb=b)(hl:la.length+lb.length<1099511627776):Fn A.C 238 [u,v] h N (fun x h' n'=>Dn h' n' x (a*b)):=by
 intro w
 have lu:=hu.len
 have lv:=hv.len
 rw[Zar]at lu lv
 rw[Zab,A.k238 (by simp)]
 have cs:((la.length:Int)+(lb.length:Int)).toNat=la.length+lb.length:=by omega
 simp(disch:=first|(simp;done)|omega|rfl) [A.b238,lu,lv,cs]
 refine Zaj [(6,9),(16,69)] (fun e r st=>e=.exit 0∧MuA h N la lb 0 r st) (MuA h N la lb) la.length ?_ ?_ ?_
 ·refine⟨by simp,Keeps.refl.new _,rfl,0,List.replicate (la.length+lb.length) 0,by omega,by simp,by simp[Zoy],by simp,Di.zeros _,fun t _ ht=>?_,by simp[Zn4,vI]⟩
  simp at ht
  simp[ht]
 ·rintro m r ⟨H,n1,W⟩ hr hf ⟨hW,hK,hn,i,out,hi,h6,hrow,hol,hdi,hz,hv0⟩
  simp only at hW hK hn hrow
  subst hn
  rw[Zah]
  cases m with
  |zero=>
   have:i=la.length:=by omega
   subst this
   simp[A.lb238_1,hr,hf,h6,lu]
   exact⟨hW,hK,rfl,la.length,out,by omega,by simp[h6],hrow,hol,hdi,hz,hv0⟩
  |succ m=>
   obtain⟨x,hx⟩:=Zaf (l:=la) (k:=i) (by omega)
   obtain⟨b1,b2,b3,b4,b5,z1,z2,z3,z4⟩:=hu.at (Zbf hx)
   have z3:=(hK.get _ z2).trans z3
   have hxd:=da.get hx
   have hi1:(i:Int)<(la.length:Int):=by omega
   have hi2:i<la.length:=by omega
   simp[A.lb238_1,hr,h6,hi1,lu]
   refine Zaj [(7,9),(22,54)] (fun e r st=>e=.exit 2∧MuB h N la lb i out x 0 r st) (MuB h N la lb i out x) lb.length ?_ ?_ ?_
   ·exact⟨hW,hK,rfl,0,out,0,by omega,by simp,hrow,hol,by simp,by omega,by omega,hdi,hz,by simp[vI]⟩
   ·rintro m2 r2 ⟨H2,n2,W2⟩ hr2 hf2 ⟨hW2,hK2,hn2,k,out2,c,hk,h8,hrow2,hol2,h7,c0,c1,hdi2,hz2,hv2⟩
    simp only at hW2 hK2 hn2 hrow2
    subst hn2
    rw[Zah]
    cases m2 with
    |zero=>
     have:k=lb.length:=by omega
     subst this
     simp[A.lb238_0,hr,hr2,hf2,h8,lv]
     exact⟨hW2,hK2,rfl,lb.length,out2,c,by omega,by simp[h8],hrow2,hol2,by simp[h7],c0,c1,hdi2,hz2,hv2⟩
    |succ m2=>
     obtain⟨y,hy⟩:=Zaf (l:=lb) (k:=k) (by omega)
     obtain⟨g1,g2,g3,g4,g5,y1,y2,y3,y4⟩:=hv.at (Zbf hy)
     have y3:=(hK2.get _ y2).trans y3
     have z3:=(hK2.get _ z2).trans ((hK.get _ z2).symm.trans z3)
     have hyd:=db.get hy
     obtain⟨o,ho⟩:=Zaf (l:=out2) (k:=i+k) (by omega)
     have hod:=hdi2.get ho
     have hk1:(k:Int)<(lb.length:Int):=by omega
     have hk2:k<lb.length:=by omega
     have p0:0≤x*y:=Yqs hxd.1 hyd.1
     have p1:x*y≤999999999*999999999:=Int.mul_le_mul (by omega) (by omega) hyd.1 (by omega)
     have q1:(i:Int)+(k:Int)<(la.length:Int)+(lb.length:Int):=by omega
     have q2:i+k<la.length+lb.length:=by omega
     have q3:(0:Int)≤(i:Int)+(k:Int):=by omega
     have t1:(o+x*y+c).tmod 1000000000=(o+x*y+c)%1000000000:=Yqr (by omega)
     have t2:(o+x*y+c).tdiv 1000000000=(o+x*y+c)/1000000000:=Yp4 (by omega)
     have w8:=Zar out2
     have w7:=Zhq (l:=out2) (k:=i+k) (v:=(o+x*y+c)%1000000000) (by omega)
     have e1:vI (out2.set (i+k) ((o+x*y+c)%1000000000))+pI (i+(k+1))*((o+x*y+c)/1000000000)=vI out+pI i*(x*vI (lb.take (k+1))):=by
      have hm:=Yq9 (o+x*y+c) 1000000000
      rw[Zip ho,Za9 hy,show i+(k+1)=(i+k)+1 by omega,Zcs]
      have hp:=Ztv i k
      generalize (o+x*y+c)/1000000000=Q at*
      generalize (o+x*y+c)%1000000000=R at*
      have:R=o+x*y+c-1000000000*Q:=by omega
      rw[this]
      have h3:vI out2=vI out+pI i*(x*vI (lb.take k))-pI (i+k)*c:=by omega
      rw[h3,hp]
      grind
     generalize hP:x*y=P at*
     have b1':Zaq .i64 P=P:=Zai (by omega) (by omega)
     have b2':Zaq .i64 (o+P)=o+P:=Zai (by omega) (by omega)
     have b3':Zaq .i64 (o+P+c)=o+P+c:=Zai (by omega) (by omega)
     have b4':Zaq .i64 ((o+P+c)/1000000000)=(o+P+c)/1000000000:=Zai (by omega) (by omega)
     have f1:b1<N+1:=by omega
     have f2:g1<N+1:=by omega
     have r0:=Yr3 (o+P+c) (b:=1000000000) (by decide)
     have r1:=Yro (o+P+c) (b:=1000000000) (by decide)
     have d0:0≤(o+P+c)/1000000000:=Int.ediv_nonneg (by omega) (by decide)
     have d1:(o+P+c)/1000000000<1000000000:=Int.ediv_lt_of_lt_mul (by decide) (by omega)
     simp(disch:=first|(simp;done)|omega|rfl) [-getElem?_pos,A.lb238_0,hr,hr2,hf2,h6,h7,h8,lu,lv,hk1,hrow2,Zbf ho,z1,z3,z4,y1,y3,y4,hP,b1',b2',b3',b4',t1,t2,w7,f1,f2]
     refine⟨m2,by omega,⟨by simp[Zaa,hW2],hK2.set (Yoy N),rfl,k+1,_,_,by omega,by simp,by simp,by simp[hol2],by simp,d0,d1,hdi2.set r0 r1,fun t ht1 ht2=>?_,e1⟩⟩
     rw[Yo5 (by omega)]
     exact hz2 t ht1 (by simpa using ht2)
   ·rintro _ r2 ⟨H2,n2,W2⟩ hr2 ⟨rfl,hW2,hK2,hn2,k,out2,c,hk,h8,hrow2,hol2,h7,c0,c1,hdi2,hz2,hv2⟩
    simp only at hW2 hK2 hn2 hrow2
    subst hn2
    have:k=lb.length:=by omega
    subst this
    have ho:=hz2 (i+lb.length) (by omega) (by omega)
    have hfi:=hf.inner (D':=[(7,9),(22,54)]) rfl (by simp) hr2
    have q1:(i:Int)+(lb.length:Int)<(la.length:Int)+(lb.length:Int):=by omega
    have q2:i+lb.length<la.length+lb.length:=by omega
    have q3:(0:Int)≤(i:Int)+(lb.length:Int):=by omega
    have w8:=Zar out2
    have w7:=Zhq (l:=out2) (k:=i+lb.length) (v:=c) (by omega)
    rw[Yrg]at hv2
    have e1:vI (out2.set (i+lb.length) c)=vI (la.take (i+1))*vI lb:=by
     rw[Zip ho,Za9 hx]
     have:vI out2+pI (i+lb.length)*(c-0)=vI out+pI i*(x*vI lb):=by rw[Int.sub_zero];exact hv2
     rw[this,hv0]
     grind
    simp(disch:=first|(simp;done)|omega|rfl) [-getElem?_pos,hr,hr2,h6,h7,lv,hrow2,Zbf ho,w7,hfi]
    refine⟨m,by omega,⟨by simp[Zaa,hW2],hK2.set (Yoy N),rfl,i+1,_,by omega,by simp,by simp,by simp[hol2],hdi2.set c0 c1,fun t ht1 ht2=>?_,e1⟩⟩
    rw[Yo5 (by omega)]
    exact hz2 t (by omega) (by simpa using ht2)
 ·rintro _ r ⟨H,n1,W⟩ hr ⟨rfl,hW,hK,hn,i,out,hi,h6,hrow,hol,hdi,hz,hv0⟩
  simp only at hW hK hn hrow
  subst hn
  have:i=la.length:=by omega
  subst this
  rw[Yrg,ea,eb]at hv0
  have hs2:Sl H (N+1) (.slice N 0 (la.length+lb.length) (some (la.length+lb.length)) 1) (dI out):=Sl.row (by omega) hrow (by simp[hol]) (fun k hk=>by simp at hk;omega)
  simp[hr]
  refine Zac (Zfs hs2 (by omega)) ?_
  rintro y h2 n2 k2 hy
  rw[Zfo hdi (n:=a*b) (by rw[hv0];simp)]at hy
  simp[Ret,hW]
  exact⟨hK.trans k2,hy⟩
end Go.Mx
