/-Integers of the reference in rows-/
import Derived.Test.YtkfkpkejgchcpaaGreatDoorMxUtf
import Derived.Test.YtkfkpkejgchcpaaGreatDoorProg
set_option linter.all false
namespace Go.Mx
open Go
def Sl.setInt{h:T O}{N:Nat}{v:V}{l:List Int}{i:Nat}{c0 c1:List V}{e0 e1:TypeId}{w0 w1:Bool}(s:Sl h N v (dI l))(hr:h.get i=some (.cells c0 e0 w0))(hn:∀x∈c0,∀k n,x≠.int k n)(hc:c1.length=c0.length):Sl (h.set i (.cells c1 e1 w1)) N v (dI l):=by
 rcases s with s|⟨j,o,cp,c,e,rw,h1,h2,h3,h4,h5,h6⟩
 ·exact .inl s
 ·by_cases hj:j=i
  ·subst hj
   rw[hr]at h3
   simp only[Yr1,O.cells.injEq]at h3
   obtain⟨rfl,rfl,rfl⟩:=h3
   cases l with
   |nil=>exact .inr ⟨j,o,cp,c1,e1,w1,h1,h2,by rw[T.get_set];simp,fun k hk=>by simp[dI]at hk,by rw[hc];exact h5,h6⟩
   |cons d l=>
    have:=h4 0 (by simp[dI])
    simp only[dI,Yts,Ytv]at this
    exact absurd rfl (hn _ (Yr8 this) .i64 d)
  ·exact .inr ⟨j,o,cp,c,e,rw,h1,h2,by rw[T.get_set,Yr3 hj];exact h3,h4,h5,h6⟩
open Go Go.Proofs
set_option maxRecDepth 1000000
noncomputable abbrev A.F(n:Nat):=Zlj Tryz.prog n
def mv(a b:Nat):Za9:=⟨some a,.mov (.tmp b),none⟩
def mc(a:Nat)(n:Int):Za9:=⟨some a,.mov (.const (.int .i64 n)),none⟩
def ia(a z x i:Nat):Za9:=⟨some a,.iaddrSl z (.tmp x) (.tmp i),none⟩
def ld(a x:Nat):Za9:=⟨some a,.load none (.tmp x),none⟩
def xt(a x i:Nat):Za9:=⟨some a,.extract (.tmp x) i,none⟩
def bi(a:Nat)(o:BinOp)(x y:Nat):Za9:=⟨some a,.bin o (.node []) false (.tmp x) (.tmp y),none⟩
def bc(a:Nat)(o:BinOp)(x:Nat)(n:Int):Za9:=⟨some a,.bin o (.node []) false (.tmp x) (.const (.int .i64 n)),none⟩
def ln(a x:Nat):Za9:=⟨some a,.len 1 (.tmp x),none⟩
def so(a x:Nat):Za9:=⟨none,.store 1 (.tmp a) (.tmp x),none⟩
def c1(a f x:Nat):Za9:=⟨some a,.call (.const (.func f [] [])) [.tmp x],none⟩
def c2(a f x y:Nat):Za9:=⟨some a,.call (.const (.func f [] [])) [.tmp x,.tmp y],none⟩
def lN(a n x:Nat):Za9:=⟨some a,.load (some n) (.tmp x),none⟩
def fa(a o x:Nat):Za9:=⟨some a,.faddr o (.tmp x),none⟩
def pf(a x y:Nat):Za9:=⟨some a,.pick (.tmp x) (.tmp y) (.const (.bool false)),none⟩
def pt(a x y:Nat):Za9:=⟨some a,.pick (.tmp x) (.const (.bool true)) (.tmp y),none⟩
def ei(a x:Nat)(n:Int):Za9:=⟨some a,.bin .eql (.prim .int) true (.tmp x) (.const (.int .i64 n)),none⟩
def ni(a x:Nat)(n:Int):Za9:=⟨some a,.bin .neq (.prim .int) true (.tmp x) (.const (.int .i64 n)),none⟩
def mN(a:Nat):Za9:=⟨some a,.mov (.const .nilslice),none⟩
def bx(a e x:Nat):Za9:=⟨some a,.box e (.tmp x),none⟩
def mg(a x g:Nat):Za9:=⟨some a,.mov (.tmp x),some (g,true)⟩
def mh(a x g:Nat):Za9:=⟨some a,.mov (.tmp x),some (g,false)⟩
def sr(l:List Za9)(c:Zah):Zah:=.seq (.reg l) c
def cd(x:Nat)(a b:Zah):Zah:=.cond (.tmp x) a b
def ge(a:Nat)(o:MOp):Za9:=⟨some a,o,none⟩
def gn(o:MOp):Za9:=⟨none,o,none⟩
def gy(a g:Nat)(o:MOp):Za9:=⟨some a,o,some (g,true)⟩
def gz(a g:Nat)(o:MOp):Za9:=⟨some a,o,some (g,false)⟩
abbrev tq(x:Nat):Src:=.tmp x
abbrev kq(n:Int):Src:=.const (.int .i64 n)
abbrev fq(f:Nat):Src:=.const (.func f [] [])
attribute [simp] Ytv Yt9 mv mc ia ld xt bi bc ln so c1 c2 lN fa pf pt ei ni mN bx mg mh sr cd ge gn gy gz
def A.p10:O:=.cells (([1,10,100,1000,10000,100000,1000000,10000000,100000000,1000000000,10000000000,100000000000,1000000000000,10000000000000,100000000000000,1000000000000000,10000000000000000,100000000000000000,1000000000000000000,10000000000000000000]:List Int).map fun z=>.int .u64 z) 338 false
def A.TB:List (Nat×O):=[(5,A.p10)]
noncomputable def A.C:Cx:=⟨Zxc A.TB [⟨6,[],.bool true⟩],Zlj Tryz.prog⟩
def A.t:A.C.tbl=Zlj Tryz.prog:=rfl
def A.x0{f:Nat}{a c args:List V}{st:St}(h:Nat.beq 6 f=false):A.C.x (.func f a c) args st=none:=by
 show Zxc A.TB [⟨6,[],.bool true⟩] (.func f a c) args st=none
 unfold Zxc
 split
 ·rename_i heq
  simp only[V.func.injEq]at heq
  obtain⟨rfl,rfl,rfl⟩:=heq
  simp only[Zxb,h]
 ·rfl
def A.kk{n k:Nat}{res:List Yl6}{b:Zah}(hc:Zlj Tryz.prog n=some ⟨k,res,b⟩)(hx:Nat.beq 6 n=false){K:List Kf}{Q:Rs→Prop}{f c args:List V}{st:St}(h:(f++args++c).length≤k):Run A.C K (Zqh (A.C.call (.func n f c) args st)) Q↔Run A.C (.fin res st::K) (exR (A.C.code none b ⟨Zei .nil 0 (f++args++c),k,[]⟩ ⟨st.h,st.n,[]⟩)) Q:=Ye3 (A.x0 (f:=n) hx) (mf:=⟨k,res,b⟩) (by rw[A.t];exact hc) h
def A.known{h:T O}{N:Nat}{w:List Nat}(hp:h.get 5=some A.p10):A.C.call (.func 6 [] []) [] ⟨h,N,w⟩=some (.bool true,⟨h,N,w⟩):=by
 have hq:oEq (h.get 5) A.p10=true:=by rw[hp];decide+kernel
 have hi:Zk6 ⟨h,N,w⟩ A.TB=true:=by
  show (match oEq (h.get 5) A.p10 with|true=>true|false=>false)=true
  rw[hq]
 have hx:A.C.x (.func 6 [] []) [] ⟨h,N,w⟩=some (.bool true,⟨h,N,w⟩):=by
  show (match Zk6 ⟨h,N,w⟩ A.TB with|true=>some (V.bool true,(⟨h,N,w⟩:St))|false=>none)=_
  rw[hi]
 rw[Cx.call_eq]
 unfold Zed
 rw[hx]
def A.b46:Zah:=sr [mc 4 0]
 (.seq (sr [mv 5 0]
 (cd 5
 (sr [mv 6 1,mv 4 6]
 (.ret))
 (.skip)))
 (sr [mc 4 0]
 (.ret)))
def A.k46:=@A.kk 46 7 [.tmp 4] A.b46 (by kernel_rfl) rfl
def A.b91:Zah:=sr [mc 4 0]
 (.seq (sr [mv 5 0]
 (cd 5
 (sr [mv 6 1,mv 4 6]
 (.ret))
 (.skip)))
 (sr [mc 4 0]
 (.ret)))
def A.k91:=@A.kk 91 7 [.tmp 4] A.b91 (by kernel_rfl) rfl
def A.b44:Zah:=sr [mc 6 0]
 (sr [mv 7 0,mv 8 1,bi 9 .lss 7 8,mv 10 9,mh 11 0 10,mh 12 2 10,gz 13 10 (.bin .gtr (.node []) false (tq 11) (tq 12)),pt 14 10 13,ge 15 (.call (fq 46) [tq 14,.const (.int .i64 3)]),mv 6 15]
 (.ret))
def A.k44:=@A.kk 44 16 [.tmp 6] A.b44 (by kernel_rfl) rfl
def A.b186:Zah:=sr [ge 2 (.mov (.const (.bool false)))]
 (sr [mv 3 0,ge 4 (.bin .geq (.node []) false (tq 3) (.const (.int .i32 97))),mv 5 4,mg 6 0 5,gy 7 5 (.bin .leq (.node []) false (tq 6) (.const (.int .i32 122))),pf 8 5 7,mv 9 8,mh 10 0 9,gz 11 9 (.bin .geq (.node []) false (tq 10) (.const (.int .i32 65))),mh 12 11 9,mg 13 0 12,gy 14 12 (.bin .leq (.node []) false (tq 13) (.const (.int .i32 90))),gz 15 9 (.pick (tq 12) (tq 14) (.const (.bool false))),pt 16 9 15,mv 2 16]
 (.ret))
def A.k186:=@A.kk 186 17 [.tmp 2] A.b186 (by kernel_rfl) rfl
def Zcg{b:Bool}{e:Int}{st:St}:A.C.call (.func 46 [] []) [.bool b,.int .i64 e] st=some (.int .i64 (if b=true then e else 0),st):=by
 apply Call.eq
 rw[Zac,A.k46 (by simp)]
 cases b<;>simp[A.b46]
def Zd8{b:Bool}{e:Int}{st:St}:A.C.call (.func 91 [] []) [.bool b,.int .i64 e] st=some (.int .i64 (if b=true then e else 0),st):=by
 apply Call.eq
 rw[Zac,A.k91 (by simp)]
 cases b<;>simp[A.b91]
def Zgo{x lo hi:Int}{st:St}:A.C.call (.func 44 [] []) [.int .i64 x,.int .i64 lo,.int .i64 hi] st=some (.int .i64 (if x<lo∨hi<x then 3 else 0),st):=by
 apply Call.eq
 rw[Zac,A.k44 (by simp)]
 by_cases h1:x<lo
 ·simp[A.b44,h1,Zcg]
 ·by_cases h2:hi<x<;>simp[A.b44,h1,h2,Zcg]
def Zf8{x:Int}{st:St}:A.C.call (.func 186 [] []) [.int .i32 x] st=some (.bool (Zvx x),st):=by
 apply Call.eq
 rw[Zac,A.k186 (by simp)]
 by_cases h1:97≤x<;>by_cases h2:x≤122<;>by_cases h3:65≤x<;>by_cases h4:x≤90<;>simp[A.b186,h1,h2,h3,h4,Zvx]
variable {N i:Nat} {a0 a1:Int} {h:T O} {w:List Nat}
def A.lb33_0:Zah:=sr [bi 8 .lss 7 6]
 (.seq (cd 8
 (.skip)
 (.exit 0))
 (.seq (.block 1 (sr [ia 9 1 5 7,ld 10 9,mv 4 10]
 (sr [mv 11 4,ni 12 11 0]
 (cd 12
 (sr [mv 13 4,mv 2 13]
 (.ret))
 (.skip)))))
 (.reg [bc 14 .add 7 1,mv 7 14])))
def A.b33:Zah:=sr [mc 2 0]
 (.seq (sr [mv 5 0,ln 6 5,mc 7 0]
 (.block 0 (.loop A.lb33_0)))
 (sr [mc 2 0]
 (.ret)))
def A.k33:=@A.kk 33 15 [.tmp 2] A.b33 (by kernel_rfl) rfl
def A.lb90_0:Zah:=sr [bi 8 .lss 7 6]
 (.seq (cd 8
 (.skip)
 (.exit 0))
 (.seq (.block 1 (sr [ia 9 1 5 7,ld 10 9,mv 4 10]
 (sr [mv 11 4,ni 12 11 0]
 (cd 12
 (sr [mv 13 4,mv 2 13]
 (.ret))
 (.skip)))))
 (.reg [bc 14 .add 7 1,mv 7 14])))
def A.b90:Zah:=sr [mc 2 0]
 (.seq (sr [mv 5 0,ln 6 5,mc 7 0]
 (.block 0 (.loop A.lb90_0)))
 (sr [mc 2 0]
 (.ret)))
def A.k90:=@A.kk 90 15 [.tmp 2] A.b90 (by kernel_rfl) rfl
def Zp2{v:V}{l:List Int}(hs:Sl h N v (dI l))(hl:l.length<1000):A.C.call (.func 33 [] []) [v] ⟨h,N,w⟩=some (.int .i64 (Zan l),⟨h,N,w⟩):=by
 apply Call.eq
 have hlen:=hs.len
 rw[Zat]at hlen
 rw[Zac,A.k33 (by simp)]
 simp[A.b33,hlen]
 refine Zai [(2,2),(4,4),(7,14)] (fun e r st=>st=⟨h,N,[]⟩∧((e=.exit 0∧Zan l=0)∨(e=.ret∧r.get 2=some (.int .i64 (Zan l))))) (fun m r st=>st=⟨h,N,[]⟩∧∃k,m=l.length-k∧k≤l.length∧r.get 7=some (.int .i64 k)∧Zan l=Zan (l.drop k)) l.length ?_ ?_ ?_
 ·exact⟨rfl,0,by omega,by omega,by simp,by simp⟩
 ·rintro m r _ hr hf ⟨rfl,k,rfl,hk,h7,hz⟩
  rw[Zaj]
  by_cases hlt:k<l.length
  ·obtain⟨c,hc⟩:=Zag hlt
   obtain⟨i,o,cc,e,rw,q1,q2,q3,q4⟩:=hs.at (Zbe hc)
   rw[Zaq hc,Zan]at hz
   have hk1:(k:Int)<(l.length:Int):=by omega
   by_cases h0:c=0
   ·rw[Yr6 h0]at hz
    simp(disch:=first|(simp;done)|omega|(simp only[Zaa,Zab,Yr2];omega)|rfl) [A.lb33_0,hr,hf,h7,hk1,hlt,hlen,q1,q3,q4,Zae,h0]
    exact⟨_,by omega,k+1,rfl,by omega,by simp,hz⟩
   ·rw[Yr3 h0]at hz
    simp[A.lb33_0,hr,hf,h7,hk1,hlt,hlen,q1,q3,q4,Zae,h0,hz]
  ·have:l.drop k=[]:=Ytd (by omega)
   rw[this,Zan]at hz
   have:k=l.length:=by omega
   subst this
   simp[A.lb33_0,hr,hf,h7,hlen,hz]
 ·rintro _ r _ hr ⟨rfl,⟨rfl,hz⟩|⟨rfl,h2⟩⟩
  ·simp[hr,hz]
  ·simp[hr,h2]
def Ya9{v:V}{l:List Int}(hs:Sl h N v (dI l))(hl:l.length<1000):A.C.call (.func 90 [] []) [v] ⟨h,N,w⟩=some (.int .i64 (Zan l),⟨h,N,w⟩):=by
 apply Call.eq
 have hlen:=hs.len
 rw[Zat]at hlen
 rw[Zac,A.k90 (by simp)]
 simp[A.b90,hlen]
 refine Zai [(2,2),(4,4),(7,14)] (fun e r st=>st=⟨h,N,[]⟩∧((e=.exit 0∧Zan l=0)∨(e=.ret∧r.get 2=some (.int .i64 (Zan l))))) (fun m r st=>st=⟨h,N,[]⟩∧∃k,m=l.length-k∧k≤l.length∧r.get 7=some (.int .i64 k)∧Zan l=Zan (l.drop k)) l.length ?_ ?_ ?_
 ·exact⟨rfl,0,by omega,by omega,by simp,by simp⟩
 ·rintro m r _ hr hf ⟨rfl,k,rfl,hk,h7,hz⟩
  rw[Zaj]
  by_cases hlt:k<l.length
  ·obtain⟨c,hc⟩:=Zag hlt
   obtain⟨i,o,cc,e,rw,q1,q2,q3,q4⟩:=hs.at (Zbe hc)
   rw[Zaq hc,Zan]at hz
   have hk1:(k:Int)<(l.length:Int):=by omega
   by_cases h0:c=0
   ·rw[Yr6 h0]at hz
    simp(disch:=first|(simp;done)|omega|(simp only[Zaa,Zab,Yr2];omega)|rfl) [A.lb90_0,hr,hf,h7,hk1,hlt,hlen,q1,q3,q4,Zae,h0]
    exact⟨_,by omega,k+1,rfl,by omega,by simp,hz⟩
   ·rw[Yr3 h0]at hz
    simp[A.lb90_0,hr,hf,h7,hk1,hlt,hlen,q1,q3,q4,Zae,h0,hz]
  ·have:l.drop k=[]:=Ytd (by omega)
   rw[this,Zan]at hz
   have:k=l.length:=by omega
   subst this
   simp[A.lb90_0,hr,hf,h7,hlen,hz]
 ·rintro _ r _ hr ⟨rfl,⟨rfl,hz⟩|⟨rfl,h2⟩⟩
  ·simp[hr,hz]
  ·simp[hr,h2]
def Zij(hi:i<N):A.C.call (.func 90 [] []) [.slice i 0 2 (some 2) 1] ⟨h.set i (.cells [.int .i64 a0,.int .i64 a1] 28 true),N,w⟩=some (.int .i64 (Zan [a0,a1]),⟨h.set i (.cells [.int .i64 a0,.int .i64 a1] 28 true),N,w⟩):=
 Ya9 (l:=[a0,a1]) (Sl.row (e:=28) (rw:=true) (cp:=some 2) hi (by simp[dI]) rfl (by simp)) (by simp)
def Zpo(hi:i<N):A.C.call (.func 33 [] []) [.slice i 0 2 (some 2) 1] ⟨h.set i (.cells [.int .i64 a0,.int .i64 a1] 28 true),N,w⟩=some (.int .i64 (Zan [a0,a1]),⟨h.set i (.cells [.int .i64 a0,.int .i64 a1] 28 true),N,w⟩):=
 Zp2 (l:=[a0,a1]) (Sl.row (e:=28) (rw:=true) (cp:=some 2) hi (by simp[dI]) rfl (by simp)) (by simp)
def Zpn{a2 a3 a4:Int}(hi:i<N):A.C.call (.func 33 [] []) [.slice i 0 5 (some 5) 1] ⟨h.set i (.cells [.int .i64 a0,.int .i64 a1,.int .i64 a2,.int .i64 a3,.int .i64 a4] 28 true),N,w⟩=some (.int .i64 (Zan [a0,a1,a2,a3,a4]),⟨h.set i (.cells [.int .i64 a0,.int .i64 a1,.int .i64 a2,.int .i64 a3,.int .i64 a4] 28 true),N,w⟩):=
 Zp2 (l:=[a0,a1,a2,a3,a4]) (Sl.row (e:=28) (rw:=true) (cp:=some 5) hi (by simp[dI]) rfl (by simp)) (by simp)
def Zpm{a2 a3 a4 a5 a6 a7:Int}(hi:i<N):A.C.call (.func 33 [] []) [.slice i 0 8 (some 8) 1] ⟨h.set i (.cells [.int .i64 a0,.int .i64 a1,.int .i64 a2,.int .i64 a3,.int .i64 a4,.int .i64 a5,.int .i64 a6,.int .i64 a7] 28 true),N,w⟩=some (.int .i64 (Zan [a0,a1,a2,a3,a4,a5,a6,a7]),⟨h.set i (.cells [.int .i64 a0,.int .i64 a1,.int .i64 a2,.int .i64 a3,.int .i64 a4,.int .i64 a5,.int .i64 a6,.int .i64 a7] 28 true),N,w⟩):=
 Zp2 (l:=[a0,a1,a2,a3,a4,a5,a6,a7]) (Sl.row (e:=28) (rw:=true) (cp:=some 8) hi (by simp[dI]) rfl (by simp)) (by simp)
def A.b66:Zah:=sr [ge 0 (.mov (.const .nilmap))]
 (sr [ge 1 (.mkmap),ge 2 (.build [.int .i64 0,.int .i64 0] [(0,1,(kq 0)),(1,1,(kq 0))]),ge 3 (.build [.bool false,.int .i64 0,.int .i64 0,.nilfunc] [(0,1,(.const (.bool false))),(1,2,(tq 2)),(3,1,(fq 128))]),gn (.mapset .str (tq 1) (.const (.str [102,114,97,109,101])) (tq 3)),ge 4 (.build [.int .i64 0,.int .i64 0] [(0,1,(kq 1)),(1,1,(kq 16))]),ge 5 (.build [.bool false,.int .i64 0,.int .i64 0,.nilfunc] [(0,1,(.const (.bool false))),(1,2,(tq 4)),(3,1,(fq 129))]),gn (.mapset .str (tq 1) (.const (.str [97,100,100])) (tq 5)),ge 6 (.build [.int .i64 0,.int .i64 0] [(0,1,(kq 1)),(1,1,(kq 1))]),ge 7 (.build [.bool false,.int .i64 0,.int .i64 0,.nilfunc] [(0,1,(.const (.bool true))),(1,2,(tq 6)),(3,1,(fq 131))]),gn (.mapset .str (tq 1) (.const (.str [115,99,97,108,101])) (tq 7)),ge 8 (.build [.int .i64 0,.int .i64 0] [(0,1,(kq 1)),(1,1,(kq 16))]),ge 9 (.build [.bool false,.int .i64 0,.int .i64 0,.nilfunc] [(0,1,(.const (.bool false))),(1,2,(tq 8)),(3,1,(fq 133))]),gn (.mapset .str (tq 1) (.const (.str [109,97,120])) (tq 9)),ge 10 (.build [.int .i64 0,.int .i64 0] [(0,1,(kq 1)),(1,1,(kq 1))]),ge 11 (.build [.bool false,.int .i64 0,.int .i64 0,.nilfunc] [(0,1,(.const (.bool false))),(1,2,(tq 10)),(3,1,(fq 136))]),gn (.mapset .str (tq 1) (.const (.str [100,101,108,97,121])) (tq 11)),ge 12 (.build [.int .i64 0,.int .i64 0] [(0,1,(kq 1)),(1,1,(kq 1))]),ge 13 (.build [.bool false,.int .i64 0,.int .i64 0,.nilfunc] [(0,1,(.const (.bool true))),(1,2,(tq 12)),(3,1,(fq 137))]),gn (.mapset .str (tq 1) (.const (.str [115,117,109])) (tq 13)),mv 14 1,mv 0 14]
 (.ret))
def A.k66:=@A.kk 66 15 [.tmp 0] A.b66 (by kernel_rfl) rfl
def Yh0:List (V×V):=[(.str [102,114,97,109,101],.agg [.bool false,.int .i64 0,.int .i64 0,.func 128 [] []]),(.str [97,100,100],.agg [.bool false,.int .i64 1,.int .i64 16,.func 129 [] []]),(.str [115,99,97,108,101],.agg [.bool true,.int .i64 1,.int .i64 1,.func 131 [] []]),(.str [109,97,120],.agg [.bool false,.int .i64 1,.int .i64 16,.func 133 [] []]),(.str [100,101,108,97,121],.agg [.bool false,.int .i64 1,.int .i64 1,.func 136 [] []]),(.str [115,117,109],.agg [.bool true,.int .i64 1,.int .i64 1,.func 137 [] []])]
def Yhz{h:T O}{N:Nat}:Fn A.C 66 [] h N (fun v h' n'=>∃i,N≤i∧i<n'∧v=.map i∧h'.get i=some (.map Yh0)):=by
 intro w
 rw[Zac,A.k66 (by simp)]
 simp(disch:=first|(simp;done)|omega|(simp only[Zaa,Zab,Yr2];omega)|rfl) [-getElem?_pos,A.b66,splice,findV,Zx8,Ret,Yh0]
 refine⟨?_,N,Yr4 _,by omega,rfl,by simp⟩
 (refine Keeps.up (n1:=N) ?_ (by omega);repeat (refine Keeps.set (by omega) ?_));exact Keeps.refl
def Yfi{st:St}(s:Str):∃f,(f=.nilfunc∨∃k,f=.func k [] [])∧Yb2 st (.agg [.bool false,.int .i64 0,.int .i64 0,.nilfunc]) true (findV .str (.str s) Yh0 0)=some (.tup [.agg [.bool ((opOf s).getD ⟨false,0,0⟩).factor,.int .i64 (((opOf s).getD ⟨false,0,0⟩).lo:Nat),.int .i64 (((opOf s).getD ⟨false,0,0⟩).hi:Nat),f],.bool (opOf s).isSome],st):=by
 unfold opOf Yh0
 by_cases h1:s=[102,114,97,109,101]
 ·subst h1;exact⟨_,.inr ⟨_,rfl⟩,rfl⟩
 by_cases h2:s=[97,100,100]
 ·subst h2;exact⟨_,.inr ⟨_,rfl⟩,rfl⟩
 by_cases h3:s=[115,99,97,108,101]
 ·subst h3;exact⟨_,.inr ⟨_,rfl⟩,rfl⟩
 by_cases h4:s=[109,97,120]
 ·subst h4;exact⟨_,.inr ⟨_,rfl⟩,rfl⟩
 by_cases h5:s=[100,101,108,97,121]
 ·subst h5;exact⟨_,.inr ⟨_,rfl⟩,rfl⟩
 by_cases h6:s=[115,117,109]
 ·subst h6;exact⟨_,.inr ⟨_,rfl⟩,rfl⟩
 have e1:(s==[102,114,97,109,101])=false:=by simp[h1]
 have e2:(s==[97,100,100])=false:=by simp[h2]
 have e3:(s==[115,99,97,108,101])=false:=by simp[h3]
 have e4:(s==[109,97,120])=false:=by simp[h4]
 have e5:(s==[100,101,108,97,121])=false:=by simp[h5]
 have e6:(s==[115,117,109])=false:=by simp[h6]
 refine⟨.nilfunc,.inl rfl,?_⟩
 simp only[findV,Zx8,e1,e2,e3,e4,e5,e6,h1,h2,h3,h4,h5,h6,if_false]
 rfl
variable {N:Nat} {f v:V} {h:T O}
def A.lb140_0:Zah:=sr [bi 9 .lss 8 7]
 (.seq (cd 9
 (.skip)
 (.exit 0))
 (.seq (.block 1 (sr [mv 10 8,mv 5 10]
 (sr [mv 11 1,mv 12 0,mv 13 5,ia 14 5 12 13,lN 15 5 14,ge 16 (.call (tq 11) [tq 15])]
 (cd 16
 (sr [mv 17 5,mv 4 17]
 (.ret))
 (.skip)))))
 (.reg [bc 18 .add 8 1,mv 8 18])))
def A.b140:Zah:=sr [mc 4 0]
 (.seq (sr [mv 6 0,ln 7 6,mc 8 0]
 (.block 0 (.loop A.lb140_0)))
 (sr [ge 4 (.mov (.const (.int .i64 (-1))))]
 (.ret)))
def A.k140:=@A.kk 140 19 [.tmp 4] A.b140 (by kernel_rfl) rfl
def Zt5(l:List (List V))(p:Nat→Bool)(hs:Sn 5 h N v l)(hl:l.length<1152921504606846976)(hf:∀(j:Nat) (x:List V),l[j]?=some x→∀h' n',Keeps h N h' n'→FnV A.C f [.agg x] h' n' (fun u _ _=>u=.bool (p j))):Fn A.C 140 [v,f] h N (fun u _ _=>u=.int .i64 (Zck p 0 l.length)):=by
 intro w
 have hlen:=hs.len
 rw[Zac,A.k140 (by simp)]
 simp(disch:=first|(simp;done)|omega|(simp only[Zaa,Zab,Yr2];omega)|rfl) [-getElem?_pos,A.b140,hlen]
 refine Zai [(4,5),(8,18)] (fun e r st=>Zad N st.w=[]∧Keeps h N st.h st.n∧((e=.exit 0∧Zck p 0 l.length= -1)∨(e=.ret∧r.get 4=some (.int .i64 (Zck p 0 l.length))))) (fun m r st=>Zad N st.w=[]∧Keeps h N st.h st.n∧∃k,k+m=l.length∧r.get 8=some (.int .i64 k)∧Zck p 0 l.length=Zck p k m) l.length ?_ ?_ ?_
 ·exact⟨by simp,Keeps.refl,0,by omega,by simp,rfl⟩
 ·rintro m r ⟨H,n1,W⟩ hr hf2 ⟨hW,hK,k,hk,h8,hz⟩
  simp only at hW hK
  rw[Zaj]
  cases m with
  |zero=>
   have:k=l.length:=by omega
   subst this
   simp only[Zck]at hz
   simp(disch:=first|(simp;done)|omega|(simp only[Zaa,Zab,Yr2];omega)|rfl) [-getElem?_pos,A.lb140_0,hr,hf2,h8,hW,hK,hz]
  |succ m=>
   have hlt:k<l.length:=by omega
   obtain⟨c,hc⟩:=Zag hlt
   obtain⟨i,o,cc,e,rw,q1,q2,q3,q4⟩:=hs.at hc
   have q3:=(hK.get _ q2).trans q3
   have hk1:(k:Int)<(l.length:Int):=by omega
   simp only[Zck]at hz
   simp(disch:=first|(simp;done)|omega|(simp only[Zaa,Zab,Yr2];omega)|rfl) [-getElem?_pos,A.lb140_0,hr,hf2,h8,hk1,hlt,hlen,q1,q3,q4,hW]
   refine Zkn (hf k c hc _ _ hK) ?_
   rintro v h2 n2 k2 rfl
   have kk:=hK.trans k2
   cases hp:p k
   ·rw[hp]at hz
    simp(disch:=first|(simp;done)|omega|(simp only[Zaa,Zab,Yr2];omega)|rfl) [-getElem?_pos,hr,hf2,h8,hW,kk]
    exact⟨m,by omega,k+1,by omega,by simp,by simpa using hz⟩
   ·rw[hp]at hz
    simp(disch:=first|(simp;done)|omega|(simp only[Zaa,Zab,Yr2];omega)|rfl) [-getElem?_pos,hr,hf2,h8,hW,kk]
    simpa using hz.symm
 ·rintro e r ⟨H,n1,W⟩ hr ⟨hW,hK,⟨rfl,hz⟩|⟨rfl,h4⟩⟩
  ·simp only at hW hK
   simp(disch:=first|(simp;done)|omega|(simp only[Zaa,Zab,Yr2];omega)|rfl) [-getElem?_pos,hr,hz,Ret,hW,hK]
  ·simp only at hW hK
   simp(disch:=first|(simp;done)|omega|(simp only[Zaa,Zab,Yr2];omega)|rfl) [-getElem?_pos,hr,h4,Ret,hW,hK]
def A.lb185_0:Zah:=sr [bi 9 .lss 8 7]
 (.seq (cd 9
 (.skip)
 (.exit 0))
 (.seq (.block 1 (sr [mv 10 8,mv 5 10]
 (sr [mv 11 1,mv 12 0,mv 13 5,ia 14 1 12 13,ld 15 14,ge 16 (.call (tq 11) [tq 15])]
 (cd 16
 (sr [mv 17 5,mv 4 17]
 (.ret))
 (.skip)))))
 (.reg [bc 18 .add 8 1,mv 8 18])))
def A.b185:Zah:=sr [mc 4 0]
 (.seq (sr [mv 6 0,ln 7 6,mc 8 0]
 (.block 0 (.loop A.lb185_0)))
 (sr [ge 4 (.mov (.const (.int .i64 (-1))))]
 (.ret)))
def A.k185:=@A.kk 185 19 [.tmp 4] A.b185 (by kernel_rfl) rfl
def Ycj(l:List V)(p:Nat→Bool)(hs:Sl h N v l)(hl:l.length<1152921504606846976)(hf:∀(j:Nat) (x:V),l[j]?=some x→∀h' n',Keeps h N h' n'→FnV A.C f [x] h' n' (fun u _ _=>u=.bool (p j))):Fn A.C 185 [v,f] h N (fun u _ _=>u=.int .i64 (Zck p 0 l.length)):=by
 intro w
 have hlen:=hs.len
 rw[Zac,A.k185 (by simp)]
 simp(disch:=first|(simp;done)|omega|(simp only[Zaa,Zab,Yr2];omega)|rfl) [-getElem?_pos,A.b185,hlen]
 refine Zai [(4,5),(8,18)] (fun e r st=>Zad N st.w=[]∧Keeps h N st.h st.n∧((e=.exit 0∧Zck p 0 l.length= -1)∨(e=.ret∧r.get 4=some (.int .i64 (Zck p 0 l.length))))) (fun m r st=>Zad N st.w=[]∧Keeps h N st.h st.n∧∃k,k+m=l.length∧r.get 8=some (.int .i64 k)∧Zck p 0 l.length=Zck p k m) l.length ?_ ?_ ?_
 ·exact⟨by simp,Keeps.refl,0,by omega,by simp,rfl⟩
 ·rintro m r ⟨H,n1,W⟩ hr hf2 ⟨hW,hK,k,hk,h8,hz⟩
  simp only at hW hK
  rw[Zaj]
  cases m with
  |zero=>
   have:k=l.length:=by omega
   subst this
   simp only[Zck]at hz
   simp(disch:=first|(simp;done)|omega|(simp only[Zaa,Zab,Yr2];omega)|rfl) [-getElem?_pos,A.lb185_0,hr,hf2,h8,hW,hK,hz]
  |succ m=>
   have hlt:k<l.length:=by omega
   obtain⟨c,hc⟩:=Zag hlt
   obtain⟨i,o,cc,e,rw,q1,q2,q3,q4⟩:=hs.at hc
   have q3:=(hK.get _ q2).trans q3
   have hk1:(k:Int)<(l.length:Int):=by omega
   simp only[Zck]at hz
   simp(disch:=first|(simp;done)|omega|(simp only[Zaa,Zab,Yr2];omega)|rfl) [-getElem?_pos,A.lb185_0,hr,hf2,h8,hk1,hlt,hlen,q1,q3,q4,hW]
   refine Zkn (hf k c hc _ _ hK) ?_
   rintro v h2 n2 k2 rfl
   have kk:=hK.trans k2
   cases hp:p k
   ·rw[hp]at hz
    simp(disch:=first|(simp;done)|omega|(simp only[Zaa,Zab,Yr2];omega)|rfl) [-getElem?_pos,hr,hf2,h8,hW,kk]
    exact⟨m,by omega,k+1,by omega,by simp,by simpa using hz⟩
   ·rw[hp]at hz
    simp(disch:=first|(simp;done)|omega|(simp only[Zaa,Zab,Yr2];omega)|rfl) [-getElem?_pos,hr,hf2,h8,hW,kk]
    simpa using hz.symm
 ·rintro e r ⟨H,n1,W⟩ hr ⟨hW,hK,⟨rfl,hz⟩|⟨rfl,h4⟩⟩
  ·simp only at hW hK
   simp(disch:=first|(simp;done)|omega|(simp only[Zaa,Zab,Yr2];omega)|rfl) [-getElem?_pos,hr,hz,Ret,hW,hK]
  ·simp only at hW hK
   simp(disch:=first|(simp;done)|omega|(simp only[Zaa,Zab,Yr2];omega)|rfl) [-getElem?_pos,hr,h4,Ret,hW,hK]
def A.b125:Zah:=sr [ge 4 (.mov (.const (.bool false)))]
 (sr [mv 5 0,mv 6 1,c2 7 185 5 6,bc 8 .geq 7 0,mv 4 8]
 (.ret))
def A.k125:=@A.kk 125 9 [.tmp 4] A.b125 (by kernel_rfl) rfl
def Zo1(l:List V)(p:Nat→Bool)(hs:Sl h N v l)(hl:l.length<1152921504606846976)(hf:∀(j:Nat) (x:V),l[j]?=some x→∀h' n',Keeps h N h' n'→FnV A.C f [x] h' n' (fun u _ _=>u=.bool (p j))):Fn A.C 125 [v,f] h N (fun u _ _=>u=.bool (decide (0≤Zck p 0 l.length))):=by
 intro w
 rw[Zac,A.k125 (by simp)]
 simp(disch:=first|(simp;done)|omega|(simp only[Zaa,Zab,Yr2];omega)|rfl) [-getElem?_pos,A.b125]
 refine Zaf (Ycj l p hs hl hf) ?_
 rintro v h2 n2 k2 rfl
 simp(disch:=first|(simp;done)|omega|(simp only[Zaa,Zab,Yr2];omega)|rfl) [-getElem?_pos,Ret,k2]
def A.b71:Zah:=sr [bx 3 9 1,mc 4 0]
 (sr [mv 5 0,ge 6 (.mkfunc 141 [] [tq 3]),c2 7 140 5 6,mv 4 7]
 (.ret))
def A.k71:=@A.kk 71 8 [.tmp 4] A.b71 (by kernel_rfl) rfl
def A.b141:Zah:=sr [bx 2 104 0,ge 3 (.mov (.const (.bool false)))]
 (sr [fa 4 0 2,ld 5 4,ld 6 1,ge 7 (.bin .eql (.prim .str) false (tq 5) (tq 6)),mv 3 7]
 (.ret))
def A.k141:=@A.kk 141 8 [.tmp 3] A.b141 (by kernel_rfl) rfl
def Ygm{h:T O}{N:Nat}{s:Stg}{inp:V}{n:Str}{q:Nat}{e:TypeId}{rw:Bool}(hq:h.get q=some (.cells [.str n] e rw))(hlt:q<N)(hi:SlF inp):FnV A.C (.func 141 [] [.ptr q 0]) [.agg (Zb9 s inp)] h N (fun u _ _=>u=.bool (decide (s.name=n))):=by
 intro w
 rw[Zac,A.k141 (by simp)]
 have d1:¬q=N:=by omega
 have e1:(s.name==n)=decide (s.name=n):=by rw[Bool.eq_iff_iff];simp
 rcases hi with rfl|rfl|⟨_,_,_,_,_,rfl⟩
 all_goals
  simp(disch:=first|(simp;done)|omega|(simp only[Zaa,Zab,Yr2];omega)|rfl) [-getElem?_pos,A.b141,Zb9,hq,d1,Zam,Ret,Zae,e1]
  exact Keeps.refl.new _
def Zp3{h:T O}{N:Nat}{v:V}{g:List Stg}{n:Str}(hg:Gr h N v g)(hl:g.length<1000000):Fn A.C 71 [v,.str n] h N (fun u _ _=>u=.int .i64 (Zhy g n)):=by
 intro w
 obtain⟨l,g1,g2,g3⟩:=hg
 rw[Zac,A.k71 (by simp)]
 simp(disch:=first|(simp;done)|omega|(simp only[Zaa,Zab,Yr2];omega)|rfl) [-getElem?_pos,A.b71]
 have k0:Keeps h N (h.set N (.cells [.str n] 9 true)) (N+1):=(Keeps.refl.set (Yr4 N)).up (Yuw N)
 refine Zaf (Zt5 l (fun j=>decide ((g[j]?.map Stg.name)=some n)) (g1.keep k0) (by omega) ?_) ?_
 ·intro j x hx h' n' hk
  have hj:j<g.length:=by rw[←g2];exact Zaz hx
  obtain⟨s,hs⟩:=Zag hj
  obtain⟨inp,i1,i2⟩:=g3 j s hs
  rw[hx]at i1
  obtain rfl:x=Zb9 s inp:=by simpa using i1
  have:=Ygm (s:=s) (inp:=inp) (n:=n) (q:=N) (h:=h') (N:=n') (e:=9) (rw:=true) (by rw[hk.get _ (by omega)];simp) (by have:=hk.le;omega) i2.form
  simpa[hs]using this
 ·rintro v h2 n2 k2 rfl
  rw[g2,Zox (n:=n) g 0 (fun j s hs=>by simp[hs])]
  simp(disch:=first|(simp;done)|omega|(simp only[Zaa,Zab,Yr2];omega)|rfl) [-getElem?_pos,Ret,Zhy]
  exact k0.trans k2
set_option maxHeartbeats 2000000
def A.b223:Zah:=sr [ge 4 (.mov (.const (.int .u64 0))),ge 5 (.mov (.const (.int .u64 0)))]
 (sr [mv 14 0,ge 15 (.bin .and (.node []) false (tq 14) (.const (.int .u64 4294967295))),mv 6 15]
 (sr [mv 16 0,ge 17 (.bin .shr (.node []) false (tq 16) (.const (.int .u64 32))),mv 7 17]
 (sr [mv 18 1,ge 19 (.bin .and (.node []) false (tq 18) (.const (.int .u64 4294967295))),mv 8 19]
 (sr [mv 20 1,ge 21 (.bin .shr (.node []) false (tq 20) (.const (.int .u64 32))),mv 9 21]
 (sr [mv 22 6,mv 23 8,bi 24 .mul 22 23,mv 10 24]
 (sr [mv 25 7,mv 26 8,bi 27 .mul 25 26,mv 28 10,ge 29 (.bin .shr (.node []) false (tq 28) (.const (.int .u64 32))),bi 30 .add 27 29,mv 11 30]
 (sr [mv 31 11,ge 32 (.bin .and (.node []) false (tq 31) (.const (.int .u64 4294967295))),mv 12 32]
 (sr [mv 33 11,ge 34 (.bin .shr (.node []) false (tq 33) (.const (.int .u64 32))),mv 13 34]
 (sr [mv 35 12,mv 36 6,mv 37 9,bi 38 .mul 36 37,bi 39 .add 35 38,mv 12 39]
 (sr [mv 40 7,mv 41 9,bi 42 .mul 40 41,mv 43 13,bi 44 .add 42 43,mv 45 12,ge 46 (.bin .shr (.node []) false (tq 45) (.const (.int .u64 32))),bi 47 .add 44 46,mv 4 47]
 (sr [mv 48 0,mv 49 1,bi 50 .mul 48 49,mv 5 50]
 (.ret))))))))))))
def A.k223:=@A.kk 223 51 [.tmp 4,.tmp 5] A.b223 (by kernel_rfl) rfl
def Yna{x y:Nat}(hx:x<18446744073709551616)(hy:y<18446744073709551616):addu (addu (mulu (shr64 x 32) (shr64 y 32)) (shr64 (addu (mulu (shr64 x 32) (and32 y)) (shr64 (mulu (and32 x) (and32 y)) 32)) 32)) (shr64 (addu (and32 (addu (mulu (shr64 x 32) (and32 y)) (shr64 (mulu (and32 x) (and32 y)) 32))) (mulu (and32 x) (shr64 y 32))) 32)=hi64 (x*y):=by
 simp only[addu,mulu,shr64,and32,hi64,Nat.reducePow]
 have ex:x=x/4294967296*4294967296+x%4294967296:=by omega
 have ey:y=y/4294967296*4294967296+y%4294967296:=by omega
 have hx0:x%4294967296<4294967296:=Ys9 _ (by decide)
 have hy0:y%4294967296<4294967296:=Ys9 _ (by decide)
 have hx1:x/4294967296<4294967296:=by omega
 have hy1:y/4294967296<4294967296:=by omega
 generalize x/4294967296=x1 at*
 generalize x%4294967296=x0 at*
 generalize y/4294967296=y1 at*
 generalize y%4294967296=y0 at*
 have a1:x0*y0≤4294967295*4294967295:=Yub (by omega) (by omega)
 have a2:x1*y0≤4294967295*4294967295:=Yub (by omega) (by omega)
 have a3:x0*y1≤4294967295*4294967295:=Yub (by omega) (by omega)
 have a4:x1*y1≤4294967295*4294967295:=Yub (by omega) (by omega)
 have e:x*y=x1*y1*18446744073709551616+(x1*y0+x0*y1)*4294967296+x0*y0:=by
  subst ex;subst ey
  grind
 rw[e]
 generalize x0*y0=p at*
 generalize x1*y0=q at*
 generalize x0*y1=u at*
 generalize x1*y1=z at*
 omega
def Zjp{h:T O}{N:Nat}{x y:Nat}(hx:x<18446744073709551616)(hy:y<18446744073709551616):Fn A.C 223 [.int .u64 x,.int .u64 y] h N (fun v' h' N'=>h'=h∧N'=N∧v'=.tup [.int .u64 (hi64 (x*y):Nat),.int .u64 (lo64 (x*y):Nat)]):=by
 intro w
 rw[Zac,A.k223 (by simp)]
 simp(disch:=first|(simp;done)|omega|(simp only[Zaa,Zab,Yr2];omega)|rfl) [A.b223]
 rw[Yna hx hy]
 exact⟨rfl,Keeps.refl,rfl,rfl,rfl⟩
def A.lb238_0:Zah:=.seq (sr [mv 6 3,bc 7 .gtr 6 0,mv 8 7,mg 9 0 8,mg 10 3 8,gy 11 8 (.bin .sub (.node []) false (tq 10) (kq 1)),gy 12 8 (.iaddrSl 1 (tq 9) (tq 11)),gy 13 8 (.load none (tq 12)),gy 14 8 (.bin .eql (.prim .int) true (tq 13) (.const (.int .u64 0))),pf 15 8 14]
 (cd 15
 (.skip)
 (.exit 0)))
 (.block 1 (.reg [mv 16 3,bc 17 .sub 16 1,mv 3 17]))
def A.b238:Zah:=sr [mN 2]
 (sr [mv 4 0,ln 5 4,mv 3 5]
 (.seq (.block 0 (.loop A.lb238_0))
 (sr [mv 18 0,mv 19 3,ge 20 (.sliceSl 1 (tq 18) none (some (tq 19)) none),mv 2 20]
 (.ret))))
def A.k238:=@A.kk 238 21 [.tmp 2] A.b238 (by kernel_rfl) rfl
def Zfw{h:T O}{N:Nat}{v:V}{l:List Nat}(hs:Sl h N v (dg l))(hl:l.length<1152921504606846976):Fn A.C 238 [v] h N (fun v' h' N'=>Sl h' N' v' (dg (Zgn l))):=by
 intro w
 have hlen:=hs.len
 rw[Zaa]at hlen
 rw[Zac,A.k238 (by simp)]
 simp[A.b238,hlen]
 refine Zai [(3,3),(6,17)] (fun e r st=>e=.exit 0∧st=⟨h,N,[]⟩∧∃k,k≤l.length∧r.get 3=some (.int .i64 k)∧Zgn l=l.take k) (fun k r st=>st=⟨h,N,[]⟩∧k≤l.length∧r.get 3=some (.int .i64 k)∧Zgn (l.take k)=Zgn l) l.length ?_ ?_ ?_
 ·exact⟨rfl,Yr4 _,by simp,by simp⟩
 ·rintro k r _ hr hf ⟨rfl,hk,h3,ht⟩
  rw[Zaj]
  cases k with
  |zero=>
   have:Zgn l=[]:=ht.symm
   simp[A.lb238_0,h3,hf,this]
   exact⟨0,by omega,rfl,.inl rfl⟩
  |succ k=>
   obtain⟨d,hd⟩:∃d,l[k]?=some d:=⟨_,Yr7 (by omega)⟩
   obtain⟨i,o,c,e,rw,q1,q2,q3,q4⟩:=hs.at (Za5 hd)
   have e1:l.take (k+1)=l.take k++[d]:=by rw[Yta,hd];rfl
   have k1:(0:Int)<(k:Int)+1:=by omega
   have k2:(k:Int)<(l.length:Int):=by omega
   by_cases h0:d=0
   ·subst h0
    rw[e1,Zn8]at ht
    simp(disch:=first|(simp;done)|omega|(simp only[Zaa,Zab,Yr2];omega)|rfl) [A.lb238_0,h3,hr,hf,k1,k2,hlen,q1,q3,q4,Zae]
    exact⟨k,by omega,by omega,rfl,ht⟩
   ·rw[e1,Zn9 h0]at ht
    have hz:((d:Int)==0)=false:=by simp;omega
    simp(disch:=first|(simp;done)|omega|(simp only[Zaa,Zab,Yr2];omega)|rfl) [A.lb238_0,h3,hr,hf,k1,k2,hlen,q1,q3,q4,Zae,hz]
    exact⟨k+1,hk,rfl,by rw[e1];exact ht.symm⟩
 ·rintro _ r _ hr ⟨rfl,rfl,k,hk,h3,ht⟩
  simp[hr,h3,Zcj,evOpt]
  obtain⟨v',e1,e2⟩:=Zjg (w:=[]) hs (lo:=0) (hi:=k) (Yuv _) (by rw[Zaa];exact hk) none (some (.int .i64 k)) (.inr ⟨rfl,rfl⟩) (.inl rfl)
  rw[e1]
  simp[Ret]
  refine⟨Keeps.refl,?_⟩
  rw[ht,show dg (l.take k)=(dg l).take k by simp[dg]]
  exact e2
end Go.Mx
