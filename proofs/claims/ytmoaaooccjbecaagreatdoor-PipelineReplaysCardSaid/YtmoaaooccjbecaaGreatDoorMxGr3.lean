/-Copies of graphs-/
import Derived.Test.YtmoaaooccjbecaaGreatDoorMxUtf
import Derived.Test.YtmoaaooccjbecaaGreatDoorProg
set_option linter.all false
namespace Go.Mx
open Go
variable {N:Nat} {h:T O} {l:List V} {v:V}
def Cp(h:T O)(N:Nat)(v:V)(l:List V):Prop:=∃j c,v=.slice j 0 l.length c 1∧j<N∧h.get j=some (.cells l 9 true)∧∀k,c=some k→l.length≤k
def Cp.keep{h':T O}{N':Nat}(s:Cp h N v l)(k:Keeps h N h' N'):Cp h' N' v l:=by
 obtain⟨j,c,h1,h2,h3,h4⟩:=s
 exact⟨j,c,h1,Yts h2 k.le,(k.get j h2).trans h3,h4⟩
def Cp.sl(s:Cp h N v l):Sl h N v l:=by
 obtain⟨j,c,h1,h2,h3,h4⟩:=s
 rw[h1];exact Sl.row h2 h3 rfl h4
def Zq3{w:List Nat}(s:Sl h N v l):Zau ⟨h,N,w⟩ 1 v=some (l.length,l):=by
 rcases s with⟨rfl,rfl|rfl⟩|⟨i,o,cp,c,e,rw,rfl,h2,h3,h4,h5,h6⟩
 ·rfl
 ·rfl
 ·simp only[Zau,if_true,St.row,h3,Ywk]
  have:slc c o l.length=some l:=by
   unfold slc
   rw[Ytg h5]
   congr 1
   apply Yua
   intro j
   rw[Yt0]
   by_cases hj:j<l.length
   ·rw[Ytg hj,Ytp];exact h4 j hj
   ·rw[Yte hj,Ytq (by omega)]
  rw[this]
def Zvc{i:Nat}{w:List Nat}(hr:h.get i=some (.cells [] 9 true))(hi:i<N)(hs:Sl h N v l)(hl:l.length<100000):
  ∃v' h' n',Zbg ⟨h,N,w⟩ 1 16 9 (.slice i 0 0 (some 0) 1) v=some (v',⟨h',n',w⟩)∧Keeps h N h' n'∧Cp h' n' v' l:=by
 by_cases h0:l.length=0
 ·have:l=[]:=Ytt h0
  subst this
  refine⟨.slice i 0 0 (some 0) 1,h,N,?_,Keeps.refl,i,some 0,rfl,hi,hr,fun k hk=>by simp⟩
  simp[Zbg,Zq3 hs]
 ·refine⟨.slice N 0 l.length none 1,h.set N (.cells l 9 true),N+1,?_,Keeps.refl.new _,N,none,rfl,by omega,by rw[T.get_set];simp,fun k hk=>by cases hk⟩
  have hb:¬(Zb5<2*(0+l.length)*16):=by unfold Zb5;omega
  have hne:l≠[]:=fun hc=>h0 (by rw[hc];rfl)
  simp[Zbg,Zq3 hs,hb,St.row,hr,hne,slc,St.alloc]
  simp[Zb5];omega
def PgA(h:T O)(N0 N:Nat)(u:V)(g:List Stg)(k:Nat):Prop:=∃l:List (List V),Own 5 126 N0 h N u l∧l.length=k∧∀(j:Nat) (s:Stg),j<k→g[j]?=some s→∃inp,l[j]?=some (Zce s inp)∧Cp h N inp (strs s.inputs)
def PgA.keep{h':T O}{N0 N':Nat}{u:V}{g:List Stg}{k:Nat}(s:PgA h N0 N u g k)(kk:Keeps h N h' N'):PgA h' N0 N' u g k:=by
 obtain⟨l,h1,h2,h3⟩:=s
 refine⟨l,h1.keep kk,h2,fun j s hj hs=>?_⟩
 obtain⟨inp,h4,h5⟩:=h3 j s hj hs
 exact⟨inp,h4,h5.keep kk⟩
def Sl.setInt{h:T O}{N:Nat}{v:V}{l:List Int}{i:Nat}{c0 c1:List V}{e0 e1:TypeId}{w0 w1:Bool}(s:Sl h N v (dI l))(hr:h.get i=some (.cells c0 e0 w0))(hn:∀x∈c0,∀k n,x≠.int k n)(hc:c1.length=c0.length):Sl (h.set i (.cells c1 e1 w1)) N v (dI l):=by
 rcases s with s|⟨j,o,cp,c,e,rw,h1,h2,h3,h4,h5,h6⟩
 ·exact .inl s
 ·by_cases hj:j=i
  ·subst hj
   rw[hr]at h3
   simp only[Ytc,O.cells.injEq]at h3
   obtain⟨rfl,rfl,rfl⟩:=h3
   cases l with
   |nil=>exact .inr ⟨j,o,cp,c1,e1,w1,h1,h2,by rw[T.get_set];simp,fun k hk=>by simp[dI]at hk,by rw[hc];exact h5,h6⟩
   |cons d l=>
    have:=h4 0 (by simp[dI])
    simp only[dI,Yuy,Yu9]at this
    exact absurd rfl (hn _ (Yti this) .i64 d)
  ·exact .inr ⟨j,o,cp,c,e,rw,h1,h2,by rw[T.get_set,Yte hj];exact h3,h4,h5,h6⟩
open Go Go.Proofs
set_option maxRecDepth 1000000
noncomputable abbrev A.F(n:Nat):=Zlu Tryz.prog n
def mv(a b:Nat):Zbd:=⟨some a,.mov (.tmp b),none⟩
def mc(a:Nat)(n:Int):Zbd:=⟨some a,.mov (.const (.int .i64 n)),none⟩
def ia(a z x i:Nat):Zbd:=⟨some a,.iaddrSl z (.tmp x) (.tmp i),none⟩
def ld(a x:Nat):Zbd:=⟨some a,.load none (.tmp x),none⟩
def xt(a x i:Nat):Zbd:=⟨some a,.extract (.tmp x) i,none⟩
def bi(a:Nat)(o:BinOp)(x y:Nat):Zbd:=⟨some a,.bin o (.node []) false (.tmp x) (.tmp y),none⟩
def bc(a:Nat)(o:BinOp)(x:Nat)(n:Int):Zbd:=⟨some a,.bin o (.node []) false (.tmp x) (.const (.int .i64 n)),none⟩
def ln(a x:Nat):Zbd:=⟨some a,.len 1 (.tmp x),none⟩
def so(a x:Nat):Zbd:=⟨none,.store 1 (.tmp a) (.tmp x),none⟩
def c1(a f x:Nat):Zbd:=⟨some a,.call (.const (.func f [] [])) [.tmp x],none⟩
def c2(a f x y:Nat):Zbd:=⟨some a,.call (.const (.func f [] [])) [.tmp x,.tmp y],none⟩
def lN(a n x:Nat):Zbd:=⟨some a,.load (some n) (.tmp x),none⟩
def fa(a o x:Nat):Zbd:=⟨some a,.faddr o (.tmp x),none⟩
def pf(a x y:Nat):Zbd:=⟨some a,.pick (.tmp x) (.tmp y) (.const (.bool false)),none⟩
def pt(a x y:Nat):Zbd:=⟨some a,.pick (.tmp x) (.const (.bool true)) (.tmp y),none⟩
def ei(a x:Nat)(n:Int):Zbd:=⟨some a,.bin .eql (.prim .int) true (.tmp x) (.const (.int .i64 n)),none⟩
def ni(a x:Nat)(n:Int):Zbd:=⟨some a,.bin .neq (.prim .int) true (.tmp x) (.const (.int .i64 n)),none⟩
def mN(a:Nat):Zbd:=⟨some a,.mov (.const .nilslice),none⟩
def bx(a e x:Nat):Zbd:=⟨some a,.box e (.tmp x),none⟩
def mg(a x g:Nat):Zbd:=⟨some a,.mov (.tmp x),some (g,true)⟩
def mh(a x g:Nat):Zbd:=⟨some a,.mov (.tmp x),some (g,false)⟩
def sr(l:List Zbd)(c:Zaw):Zaw:=.seq (.reg l) c
def cd(x:Nat)(a b:Zaw):Zaw:=.cond (.tmp x) a b
def ge(a:Nat)(o:MOp):Zbd:=⟨some a,o,none⟩
def gn(o:MOp):Zbd:=⟨none,o,none⟩
def gy(a g:Nat)(o:MOp):Zbd:=⟨some a,o,some (g,true)⟩
def gz(a g:Nat)(o:MOp):Zbd:=⟨some a,o,some (g,false)⟩
abbrev tq(x:Nat):Src:=.tmp x
abbrev kq(n:Int):Src:=.const (.int .i64 n)
abbrev fq(f:Nat):Src:=.const (.func f [] [])
attribute [simp] Yu9 Yvm mv mc ia ld xt bi bc ln so c1 c2 lN fa pf pt ei ni mN bx mg mh sr cd ge gn gy gz
def A.p10:O:=.cells (([1,10,100,1000,10000,100000,1000000,10000000,100000000,1000000000,10000000000,100000000000,1000000000000,10000000000000,100000000000000,1000000000000000,10000000000000000,100000000000000000,1000000000000000000,10000000000000000000]:List Int).map fun z=>.int .u64 z) 346 false
def A.TB:List (Nat×O):=[(5,A.p10)]
noncomputable def A.C:Cx:=⟨Zx4 A.TB [⟨7,[],.bool true⟩],Zlu Tryz.prog⟩
def A.t:A.C.tbl=Zlu Tryz.prog:=rfl
def A.x0{f:Nat}{a c args:List V}{st:St}(h:Nat.beq 7 f=false):A.C.x (.func f a c) args st=none:=by
 show Zx4 A.TB [⟨7,[],.bool true⟩] (.func f a c) args st=none
 unfold Zx4
 split
 ·rename_i heq
  simp only[V.func.injEq]at heq
  obtain⟨rfl,rfl,rfl⟩:=heq
  simp only[Zx3,h]
 ·rfl
noncomputable def Yrc(P:Program)(fn:Func):Zaw:=match fn.body with
 |some c=>Zcx P c
 |none=>.skip
def Zlj:Zaw→List Zaw
 |.seq a b=>Zlj a++Zlj b
 |.cond _ a b=>Zlj a++Zlj b
 |.block _ a=>Zlj a
 |.scope a=>Zlj a
 |.loop a=>a::Zlj a
 |_=>[]
def Zsd:List Zaw→Zaw→Zaw×List Zaw
 |ls,.seq a b=>match Zsd ls a with
  |(a,ls)=>match Zsd ls b with
   |(b,ls)=>(.seq a b,ls)
 |ls,.cond s a b=>match Zsd ls a with
  |(a,ls)=>match Zsd ls b with
   |(b,ls)=>(.cond s a b,ls)
 |ls,.block k a=>match Zsd ls a with
  |(a,ls)=>(.block k a,ls)
 |ls,.scope a=>match Zsd ls a with
  |(a,ls)=>(.scope a,ls)
 |l::ls,.loop _=>(.loop l,ls)
 |ls,c=>(c,ls)
@[simp] noncomputable def A.q (f:Func) {b:Zaw} (_h:Yrc Tryz.prog f=b:=by conv=>lhs;cbv):Zaw:=b
@[simp] noncomputable def A.ql (w:Zaw) (i:Nat) (ls:List Zaw) {b:Zaw} (_h:(Zsd ls ((Zlj w)[i]?.getD .skip)).1=b:=by conv=>lhs;cbv):Zaw:=b
@[simp] noncomputable def A.qb (w:Zaw) (ls:List Zaw) {b:Zaw} (_h:(Zsd ls w).1=b:=by conv=>lhs;cbv):Zaw:=b
def A.kk{n k:Nat}{res:List Ynb}{b:Zaw}(hc:Zlu Tryz.prog n=some ⟨k,res,b⟩)(hx:Nat.beq 7 n=false){K:List Kf}{Q:Rs→Prop}{f c args:List V}{st:St}(h:(f++args++c).length≤k):Run A.C K (Zqr (A.C.call (.func n f c) args st)) Q↔Run A.C (.fin res st::K) (exR (A.C.code none b ⟨Zeo .nil 0 (f++args++c),k,[]⟩ ⟨st.h,st.n,[]⟩)) Q:=Yfw (A.x0 (f:=n) hx) (mf:=⟨k,res,b⟩) (by rw[A.t];exact hc) h
def A.known{h:T O}{N:Nat}{w:List Nat}(hp:h.get 5=some A.p10):A.C.call (.func 7 [] []) [] ⟨h,N,w⟩=some (.bool true,⟨h,N,w⟩):=by
 have hq:oEq (h.get 5) A.p10=true:=by rw[hp];decide+kernel
 have hi:Zlf ⟨h,N,w⟩ A.TB=true:=by
  show (match oEq (h.get 5) A.p10 with|true=>true|false=>false)=true
  rw[hq]
 have hx:A.C.x (.func 7 [] []) [] ⟨h,N,w⟩=some (.bool true,⟨h,N,w⟩):=by
  show (match Zlf ⟨h,N,w⟩ A.TB with|true=>some (V.bool true,(⟨h,N,w⟩:St))|false=>none)=_
  rw[hi]
 rw[Cx.call_eq]
 unfold Zej
 rw[hx]
noncomputable def A.b37:=A.q Tryz.f37
def A.k37:=@A.kk 37 7 [.tmp 4] A.b37 (by kernel_rfl) rfl
noncomputable def A.b123:=A.q Tryz.f123
def A.k123:=@A.kk 123 7 [.tmp 4] A.b123 (by kernel_rfl) rfl
noncomputable def A.b55:=A.q Tryz.f55
def A.k55:=@A.kk 55 16 [.tmp 6] A.b55 (by kernel_rfl) rfl
noncomputable def A.b171:=A.q Tryz.f171
def A.k171:=@A.kk 171 17 [.tmp 2] A.b171 (by kernel_rfl) rfl
def Zbp{b:Bool}{e:Int}{st:St}:A.C.call (.func 37 [] []) [.bool b,.int .i64 e] st=some (.int .i64 (if b=true then e else 0),st):=by
 apply Call.eq
 rw[Zad,A.k37 (by simp)]
 cases b<;>simp[A.b37]
def Zee{b:Bool}{e:Int}{st:St}:A.C.call (.func 123 [] []) [.bool b,.int .i64 e] st=some (.int .i64 (if b=true then e else 0),st):=by
 apply Call.eq
 rw[Zad,A.k123 (by simp)]
 cases b<;>simp[A.b123]
def Zfr{x lo hi:Int}{st:St}:A.C.call (.func 55 [] []) [.int .i64 x,.int .i64 lo,.int .i64 hi] st=some (.int .i64 (if x<lo∨hi<x then 3 else 0),st):=by
 apply Call.eq
 rw[Zad,A.k55 (by simp)]
 by_cases h1:x<lo
 ·simp[A.b55,h1,Zbp]
 ·by_cases h2:hi<x<;>simp[A.b55,h1,h2,Zbp]
def Zgl{x:Int}{st:St}:A.C.call (.func 171 [] []) [.int .i32 x] st=some (.bool (Zwn x),st):=by
 apply Call.eq
 rw[Zad,A.k171 (by simp)]
 by_cases h1:97≤x<;>by_cases h2:x≤122<;>by_cases h3:65≤x<;>by_cases h4:x≤90<;>simp[A.b171,h1,h2,h3,h4,Zwn]
variable {N i:Nat} {a0 a1:Int} {h:T O} {w:List Nat}
noncomputable def A.w34:=A.q Tryz.f34
noncomputable def A.lb34_0:=A.ql A.w34 0 []
noncomputable def A.b34:=(fun x0=>A.qb A.w34 [x0]) A.lb34_0
def A.k34:=@A.kk 34 15 [.tmp 2] A.b34 (by kernel_rfl) rfl
noncomputable def A.w122:=A.q Tryz.f122
noncomputable def A.lb122_0:=A.ql A.w122 0 []
noncomputable def A.b122:=(fun x0=>A.qb A.w122 [x0]) A.lb122_0
def A.k122:=@A.kk 122 15 [.tmp 2] A.b122 (by kernel_rfl) rfl
def Zh3{v:V}{l:List Int}(hs:Sl h N v (dI l))(hl:l.length<1000):A.C.call (.func 34 [] []) [v] ⟨h,N,w⟩=some (.int .i64 (Zak l),⟨h,N,w⟩):=by
 apply Call.eq
 have hlen:=hs.len
 rw[Zat]at hlen
 rw[Zad,A.k34 (by simp)]
 simp[A.b34,hlen]
 refine Zah [(2,2),(4,4),(7,14)] (fun e r st=>st=⟨h,N,[]⟩∧((e=.exit 0∧Zak l=0)∨(e=.ret∧r.get 2=some (.int .i64 (Zak l))))) (fun m r st=>st=⟨h,N,[]⟩∧∃k,m=l.length-k∧k≤l.length∧r.get 7=some (.int .i64 k)∧Zak l=Zak (l.drop k)) l.length ?_ ?_ ?_
 ·exact⟨rfl,0,by omega,by omega,by simp,by simp⟩
 ·rintro m r _ hr hf ⟨rfl,k,rfl,hk,h7,hz⟩
  rw[Zai]
  by_cases hlt:k<l.length
  ·obtain⟨c,hc⟩:=Zag hlt
   obtain⟨i,o,cc,e,rw,q1,q2,q3,q4⟩:=hs.at (Zbl hc)
   rw[Zao hc,Zak]at hz
   have hk1:(k:Int)<(l.length:Int):=by omega
   by_cases h0:c=0
   ·rw[Ytg h0]at hz
    simp(disch:=first|(simp;done)|omega|(simp only[Zab,Zac,Ytd];omega)|rfl) [A.lb34_0,hr,hf,h7,hk1,hlt,hlen,q1,q3,q4,Zae,h0]
    exact⟨_,by omega,k+1,rfl,by omega,by simp,hz⟩
   ·rw[Yte h0]at hz
    simp[A.lb34_0,hr,hf,h7,hk1,hlt,hlen,q1,q3,q4,Zae,h0,hz]
  ·have:l.drop k=[]:=Yut (by omega)
   rw[this,Zak]at hz
   have:k=l.length:=by omega
   subst this
   simp[A.lb34_0,hr,hf,h7,hlen,hz]
 ·rintro _ r _ hr ⟨rfl,⟨rfl,hz⟩|⟨rfl,h2⟩⟩
  ·simp[hr,hz]
  ·simp[hr,h2]
def Yb1{v:V}{l:List Int}(hs:Sl h N v (dI l))(hl:l.length<1000):A.C.call (.func 122 [] []) [v] ⟨h,N,w⟩=some (.int .i64 (Zak l),⟨h,N,w⟩):=by
 apply Call.eq
 have hlen:=hs.len
 rw[Zat]at hlen
 rw[Zad,A.k122 (by simp)]
 simp[A.b122,hlen]
 refine Zah [(2,2),(4,4),(7,14)] (fun e r st=>st=⟨h,N,[]⟩∧((e=.exit 0∧Zak l=0)∨(e=.ret∧r.get 2=some (.int .i64 (Zak l))))) (fun m r st=>st=⟨h,N,[]⟩∧∃k,m=l.length-k∧k≤l.length∧r.get 7=some (.int .i64 k)∧Zak l=Zak (l.drop k)) l.length ?_ ?_ ?_
 ·exact⟨rfl,0,by omega,by omega,by simp,by simp⟩
 ·rintro m r _ hr hf ⟨rfl,k,rfl,hk,h7,hz⟩
  rw[Zai]
  by_cases hlt:k<l.length
  ·obtain⟨c,hc⟩:=Zag hlt
   obtain⟨i,o,cc,e,rw,q1,q2,q3,q4⟩:=hs.at (Zbl hc)
   rw[Zao hc,Zak]at hz
   have hk1:(k:Int)<(l.length:Int):=by omega
   by_cases h0:c=0
   ·rw[Ytg h0]at hz
    simp(disch:=first|(simp;done)|omega|(simp only[Zab,Zac,Ytd];omega)|rfl) [A.lb122_0,hr,hf,h7,hk1,hlt,hlen,q1,q3,q4,Zae,h0]
    exact⟨_,by omega,k+1,rfl,by omega,by simp,hz⟩
   ·rw[Yte h0]at hz
    simp[A.lb122_0,hr,hf,h7,hk1,hlt,hlen,q1,q3,q4,Zae,h0,hz]
  ·have:l.drop k=[]:=Yut (by omega)
   rw[this,Zak]at hz
   have:k=l.length:=by omega
   subst this
   simp[A.lb122_0,hr,hf,h7,hlen,hz]
 ·rintro _ r _ hr ⟨rfl,⟨rfl,hz⟩|⟨rfl,h2⟩⟩
  ·simp[hr,hz]
  ·simp[hr,h2]
def Ziu(hi:i<N):A.C.call (.func 122 [] []) [.slice i 0 2 (some 2) 1] ⟨h.set i (.cells [.int .i64 a0,.int .i64 a1] 29 true),N,w⟩=some (.int .i64 (Zak [a0,a1]),⟨h.set i (.cells [.int .i64 a0,.int .i64 a1] 29 true),N,w⟩):=
 Yb1 (l:=[a0,a1]) (Sl.row (e:=29) (rw:=true) (cp:=some 2) hi (by simp[dI]) rfl (by simp)) (by simp)
def Zpy(hi:i<N):A.C.call (.func 34 [] []) [.slice i 0 2 (some 2) 1] ⟨h.set i (.cells [.int .i64 a0,.int .i64 a1] 29 true),N,w⟩=some (.int .i64 (Zak [a0,a1]),⟨h.set i (.cells [.int .i64 a0,.int .i64 a1] 29 true),N,w⟩):=
 Zh3 (l:=[a0,a1]) (Sl.row (e:=29) (rw:=true) (cp:=some 2) hi (by simp[dI]) rfl (by simp)) (by simp)
def Zpx{a2 a3 a4:Int}(hi:i<N):A.C.call (.func 34 [] []) [.slice i 0 5 (some 5) 1] ⟨h.set i (.cells [.int .i64 a0,.int .i64 a1,.int .i64 a2,.int .i64 a3,.int .i64 a4] 29 true),N,w⟩=some (.int .i64 (Zak [a0,a1,a2,a3,a4]),⟨h.set i (.cells [.int .i64 a0,.int .i64 a1,.int .i64 a2,.int .i64 a3,.int .i64 a4] 29 true),N,w⟩):=
 Zh3 (l:=[a0,a1,a2,a3,a4]) (Sl.row (e:=29) (rw:=true) (cp:=some 5) hi (by simp[dI]) rfl (by simp)) (by simp)
def Zpw{a2 a3 a4 a5 a6 a7:Int}(hi:i<N):A.C.call (.func 34 [] []) [.slice i 0 8 (some 8) 1] ⟨h.set i (.cells [.int .i64 a0,.int .i64 a1,.int .i64 a2,.int .i64 a3,.int .i64 a4,.int .i64 a5,.int .i64 a6,.int .i64 a7] 29 true),N,w⟩=some (.int .i64 (Zak [a0,a1,a2,a3,a4,a5,a6,a7]),⟨h.set i (.cells [.int .i64 a0,.int .i64 a1,.int .i64 a2,.int .i64 a3,.int .i64 a4,.int .i64 a5,.int .i64 a6,.int .i64 a7] 29 true),N,w⟩):=
 Zh3 (l:=[a0,a1,a2,a3,a4,a5,a6,a7]) (Sl.row (e:=29) (rw:=true) (cp:=some 8) hi (by simp[dI]) rfl (by simp)) (by simp)
def A.b69:Zaw:=sr [ge 0 (.mov (.const .nilmap))]
 (sr [ge 1 (.mkmap),ge 2 (.build [.int .i64 0,.int .i64 0] [(0,1,(kq 0)),(1,1,(kq 0))]),ge 3 (.build [.bool false,.int .i64 0,.int .i64 0,.nilfunc] [(0,1,(.const (.bool false))),(1,2,(tq 2)),(3,1,(fq 128))]),gn (.mapset .str (tq 1) (.const (.str [102,114,97,109,101])) (tq 3)),ge 4 (.build [.int .i64 0,.int .i64 0] [(0,1,(kq 1)),(1,1,(kq 16))]),ge 5 (.build [.bool false,.int .i64 0,.int .i64 0,.nilfunc] [(0,1,(.const (.bool false))),(1,2,(tq 4)),(3,1,(fq 129))]),gn (.mapset .str (tq 1) (.const (.str [97,100,100])) (tq 5)),ge 6 (.build [.int .i64 0,.int .i64 0] [(0,1,(kq 1)),(1,1,(kq 1))]),ge 7 (.build [.bool false,.int .i64 0,.int .i64 0,.nilfunc] [(0,1,(.const (.bool true))),(1,2,(tq 6)),(3,1,(fq 131))]),gn (.mapset .str (tq 1) (.const (.str [115,99,97,108,101])) (tq 7)),ge 8 (.build [.int .i64 0,.int .i64 0] [(0,1,(kq 1)),(1,1,(kq 16))]),ge 9 (.build [.bool false,.int .i64 0,.int .i64 0,.nilfunc] [(0,1,(.const (.bool false))),(1,2,(tq 8)),(3,1,(fq 133))]),gn (.mapset .str (tq 1) (.const (.str [109,97,120])) (tq 9)),ge 10 (.build [.int .i64 0,.int .i64 0] [(0,1,(kq 1)),(1,1,(kq 1))]),ge 11 (.build [.bool false,.int .i64 0,.int .i64 0,.nilfunc] [(0,1,(.const (.bool false))),(1,2,(tq 10)),(3,1,(fq 136))]),gn (.mapset .str (tq 1) (.const (.str [100,101,108,97,121])) (tq 11)),ge 12 (.build [.int .i64 0,.int .i64 0] [(0,1,(kq 1)),(1,1,(kq 1))]),ge 13 (.build [.bool false,.int .i64 0,.int .i64 0,.nilfunc] [(0,1,(.const (.bool true))),(1,2,(tq 12)),(3,1,(fq 137))]),gn (.mapset .str (tq 1) (.const (.str [115,117,109])) (tq 13)),mv 14 1,mv 0 14]
 (.ret))
def A.k69:=@A.kk 69 15 [.tmp 0] A.b69 (by kernel_rfl) rfl
def Yiz:List (V×V):=[(.str [102,114,97,109,101],.agg [.bool false,.int .i64 0,.int .i64 0,.func 128 [] []]),(.str [97,100,100],.agg [.bool false,.int .i64 1,.int .i64 16,.func 129 [] []]),(.str [115,99,97,108,101],.agg [.bool true,.int .i64 1,.int .i64 1,.func 131 [] []]),(.str [109,97,120],.agg [.bool false,.int .i64 1,.int .i64 16,.func 133 [] []]),(.str [100,101,108,97,121],.agg [.bool false,.int .i64 1,.int .i64 1,.func 136 [] []]),(.str [115,117,109],.agg [.bool true,.int .i64 1,.int .i64 1,.func 137 [] []])]
def Yiy{h:T O}{N:Nat}:Fn A.C 69 [] h N (fun v h' n'=>∃i,N≤i∧i<n'∧v=.map i∧h'.get i=some (.map Yiz)):=by
 intro w
 rw[Zad,A.k69 (by simp)]
 simp(disch:=first|(simp;done)|omega|(simp only[Zab,Zac,Ytd];omega)|rfl) [-getElem?_pos,A.b69,splice,findV,Zy2,Ret,Yiz]
 refine⟨?_,N,Ytf _,by omega,rfl,by simp⟩
 (refine Keeps.up (n1:=N) ?_ (by omega);repeat (refine Keeps.set (by omega) ?_));exact Keeps.refl
def Ygd{st:St}(s:Str):∃f,(f=.nilfunc∨∃k,f=.func k [] [])∧Ycu st (.agg [.bool false,.int .i64 0,.int .i64 0,.nilfunc]) true (findV .str (.str s) Yiz 0)=some (.tup [.agg [.bool ((opOf s).getD ⟨false,0,0⟩).factor,.int .i64 (((opOf s).getD ⟨false,0,0⟩).lo:Nat),.int .i64 (((opOf s).getD ⟨false,0,0⟩).hi:Nat),f],.bool (opOf s).isSome],st):=by
 unfold opOf Yiz
 by_cases h1:s=[102,114,97,109,101]
 ·subst h1;exact⟨_,.inr ⟨_,rfl⟩,rfl⟩
 by_cases h2:s=[97,100,100]
 ·subst h2;exact⟨_,.inr ⟨_,rfl⟩,rfl⟩
 by_cases h3:s=[115,99,97,108,101]
 ·subst h3;exact⟨_,.inr ⟨_,rfl⟩,rfl⟩
 by_cases h4:s=[109,97,120]
 ·subst h4;exact⟨_,.inr ⟨_,rfl⟩,rfl⟩
 by_cases h5:s=[100,101,108,97,121]
 ·subst h5;exact⟨_,.inr ⟨_,rfl⟩,rfl⟩
 by_cases h6:s=[115,117,109]
 ·subst h6;exact⟨_,.inr ⟨_,rfl⟩,rfl⟩
 have e1:(s==[102,114,97,109,101])=false:=by simp[h1]
 have e2:(s==[97,100,100])=false:=by simp[h2]
 have e3:(s==[115,99,97,108,101])=false:=by simp[h3]
 have e4:(s==[109,97,120])=false:=by simp[h4]
 have e5:(s==[100,101,108,97,121])=false:=by simp[h5]
 have e6:(s==[115,117,109])=false:=by simp[h6]
 refine⟨.nilfunc,.inl rfl,?_⟩
 simp only[findV,Zy2,e1,e2,e3,e4,e5,e6,h1,h2,h3,h4,h5,h6,if_false]
 rfl
variable {N:Nat} {f v:V} {h:T O}
noncomputable def A.w140:=A.q Tryz.f140
noncomputable def A.lb140_0:=A.ql A.w140 0 []
noncomputable def A.b140:=(fun x0=>A.qb A.w140 [x0]) A.lb140_0
def A.k140:=@A.kk 140 19 [.tmp 4] A.b140 (by kernel_rfl) rfl
def Zup(l:List (List V))(p:Nat→Bool)(hs:Sn 5 h N v l)(hl:l.length<1152921504606846976)(hf:∀(j:Nat) (x:List V),l[j]?=some x→∀h' n',Keeps h N h' n'→FnV A.C f [.agg x] h' n' (fun u _ _=>u=.bool (p j))):Fn A.C 140 [v,f] h N (fun u _ _=>u=.int .i64 (Za6 p 0 l.length)):=by
 intro w
 have hlen:=hs.len
 rw[Zad,A.k140 (by simp)]
 simp(disch:=first|(simp;done)|omega|(simp only[Zab,Zac,Ytd];omega)|rfl) [-getElem?_pos,A.b140,hlen]
 refine Zah [(4,5),(8,18)] (fun e r st=>Zaa N st.w=[]∧Keeps h N st.h st.n∧((e=.exit 0∧Za6 p 0 l.length= -1)∨(e=.ret∧r.get 4=some (.int .i64 (Za6 p 0 l.length))))) (fun m r st=>Zaa N st.w=[]∧Keeps h N st.h st.n∧∃k,k+m=l.length∧r.get 8=some (.int .i64 k)∧Za6 p 0 l.length=Za6 p k m) l.length ?_ ?_ ?_
 ·exact⟨by simp,Keeps.refl,0,by omega,by simp,rfl⟩
 ·rintro m r ⟨H,n1,W⟩ hr hf2 ⟨hW,hK,k,hk,h8,hz⟩
  simp only at hW hK
  rw[Zai]
  cases m with
  |zero=>
   have:k=l.length:=by omega
   subst this
   simp only[Za6]at hz
   simp(disch:=first|(simp;done)|omega|(simp only[Zab,Zac,Ytd];omega)|rfl) [-getElem?_pos,A.lb140_0,hr,hf2,h8,hW,hK,hz]
  |succ m=>
   have hlt:k<l.length:=by omega
   obtain⟨c,hc⟩:=Zag hlt
   obtain⟨i,o,cc,e,rw,q1,q2,q3,q4⟩:=hs.at hc
   have q3:=(hK.get _ q2).trans q3
   have hk1:(k:Int)<(l.length:Int):=by omega
   simp only[Za6]at hz
   simp(disch:=first|(simp;done)|omega|(simp only[Zab,Zac,Ytd];omega)|rfl) [-getElem?_pos,A.lb140_0,hr,hf2,h8,hk1,hlt,hlen,q1,q3,q4,hW]
   refine Zg5 (hf k c hc _ _ hK) ?_
   rintro v h2 n2 k2 rfl
   have kk:=hK.trans k2
   cases hp:p k
   ·rw[hp]at hz
    simp(disch:=first|(simp;done)|omega|(simp only[Zab,Zac,Ytd];omega)|rfl) [-getElem?_pos,hr,hf2,h8,hW,kk]
    exact⟨m,by omega,k+1,by omega,by simp,by simpa using hz⟩
   ·rw[hp]at hz
    simp(disch:=first|(simp;done)|omega|(simp only[Zab,Zac,Ytd];omega)|rfl) [-getElem?_pos,hr,hf2,h8,hW,kk]
    simpa using hz.symm
 ·rintro e r ⟨H,n1,W⟩ hr ⟨hW,hK,⟨rfl,hz⟩|⟨rfl,h4⟩⟩
  ·simp only at hW hK
   simp(disch:=first|(simp;done)|omega|(simp only[Zab,Zac,Ytd];omega)|rfl) [-getElem?_pos,hr,hz,Ret,hW,hK]
  ·simp only at hW hK
   simp(disch:=first|(simp;done)|omega|(simp only[Zab,Zac,Ytd];omega)|rfl) [-getElem?_pos,hr,h4,Ret,hW,hK]
noncomputable def A.w170:=A.q Tryz.f170
noncomputable def A.lb170_0:=A.ql A.w170 0 []
noncomputable def A.b170:=(fun x0=>A.qb A.w170 [x0]) A.lb170_0
def A.k170:=@A.kk 170 19 [.tmp 4] A.b170 (by kernel_rfl) rfl
def Ydb(l:List V)(p:Nat→Bool)(hs:Sl h N v l)(hl:l.length<1152921504606846976)(hf:∀(j:Nat) (x:V),l[j]?=some x→∀h' n',Keeps h N h' n'→FnV A.C f [x] h' n' (fun u _ _=>u=.bool (p j))):Fn A.C 170 [v,f] h N (fun u _ _=>u=.int .i64 (Za6 p 0 l.length)):=by
 intro w
 have hlen:=hs.len
 rw[Zad,A.k170 (by simp)]
 simp(disch:=first|(simp;done)|omega|(simp only[Zab,Zac,Ytd];omega)|rfl) [-getElem?_pos,A.b170,hlen]
 refine Zah [(4,5),(8,18)] (fun e r st=>Zaa N st.w=[]∧Keeps h N st.h st.n∧((e=.exit 0∧Za6 p 0 l.length= -1)∨(e=.ret∧r.get 4=some (.int .i64 (Za6 p 0 l.length))))) (fun m r st=>Zaa N st.w=[]∧Keeps h N st.h st.n∧∃k,k+m=l.length∧r.get 8=some (.int .i64 k)∧Za6 p 0 l.length=Za6 p k m) l.length ?_ ?_ ?_
 ·exact⟨by simp,Keeps.refl,0,by omega,by simp,rfl⟩
 ·rintro m r ⟨H,n1,W⟩ hr hf2 ⟨hW,hK,k,hk,h8,hz⟩
  simp only at hW hK
  rw[Zai]
  cases m with
  |zero=>
   have:k=l.length:=by omega
   subst this
   simp only[Za6]at hz
   simp(disch:=first|(simp;done)|omega|(simp only[Zab,Zac,Ytd];omega)|rfl) [-getElem?_pos,A.lb170_0,hr,hf2,h8,hW,hK,hz]
  |succ m=>
   have hlt:k<l.length:=by omega
   obtain⟨c,hc⟩:=Zag hlt
   obtain⟨i,o,cc,e,rw,q1,q2,q3,q4⟩:=hs.at hc
   have q3:=(hK.get _ q2).trans q3
   have hk1:(k:Int)<(l.length:Int):=by omega
   simp only[Za6]at hz
   simp(disch:=first|(simp;done)|omega|(simp only[Zab,Zac,Ytd];omega)|rfl) [-getElem?_pos,A.lb170_0,hr,hf2,h8,hk1,hlt,hlen,q1,q3,q4,hW]
   refine Zg5 (hf k c hc _ _ hK) ?_
   rintro v h2 n2 k2 rfl
   have kk:=hK.trans k2
   cases hp:p k
   ·rw[hp]at hz
    simp(disch:=first|(simp;done)|omega|(simp only[Zab,Zac,Ytd];omega)|rfl) [-getElem?_pos,hr,hf2,h8,hW,kk]
    exact⟨m,by omega,k+1,by omega,by simp,by simpa using hz⟩
   ·rw[hp]at hz
    simp(disch:=first|(simp;done)|omega|(simp only[Zab,Zac,Ytd];omega)|rfl) [-getElem?_pos,hr,hf2,h8,hW,kk]
    simpa using hz.symm
 ·rintro e r ⟨H,n1,W⟩ hr ⟨hW,hK,⟨rfl,hz⟩|⟨rfl,h4⟩⟩
  ·simp only at hW hK
   simp(disch:=first|(simp;done)|omega|(simp only[Zab,Zac,Ytd];omega)|rfl) [-getElem?_pos,hr,hz,Ret,hW,hK]
  ·simp only at hW hK
   simp(disch:=first|(simp;done)|omega|(simp only[Zab,Zac,Ytd];omega)|rfl) [-getElem?_pos,hr,h4,Ret,hW,hK]
noncomputable def A.b116:=A.q Tryz.f116
def A.k116:=@A.kk 116 9 [.tmp 4] A.b116 (by kernel_rfl) rfl
def Zpb(l:List V)(p:Nat→Bool)(hs:Sl h N v l)(hl:l.length<1152921504606846976)(hf:∀(j:Nat) (x:V),l[j]?=some x→∀h' n',Keeps h N h' n'→FnV A.C f [x] h' n' (fun u _ _=>u=.bool (p j))):Fn A.C 116 [v,f] h N (fun u _ _=>u=.bool (decide (0≤Za6 p 0 l.length))):=by
 intro w
 rw[Zad,A.k116 (by simp)]
 simp(disch:=first|(simp;done)|omega|(simp only[Zab,Zac,Ytd];omega)|rfl) [-getElem?_pos,A.b116]
 refine Zaf (Ydb l p hs hl hf) ?_
 rintro v h2 n2 k2 rfl
 simp(disch:=first|(simp;done)|omega|(simp only[Zab,Zac,Ytd];omega)|rfl) [-getElem?_pos,Ret,k2]
noncomputable def A.b74:=A.q Tryz.f74
def A.k74:=@A.kk 74 8 [.tmp 4] A.b74 (by kernel_rfl) rfl
noncomputable def A.b141:=A.q Tryz.f141
def A.k141:=@A.kk 141 8 [.tmp 3] A.b141 (by kernel_rfl) rfl
def Yhj{h:T O}{N:Nat}{s:Stg}{inp:V}{n:Str}{q:Nat}{e:TypeId}{rw:Bool}(hq:h.get q=some (.cells [.str n] e rw))(hlt:q<N)(hi:SlF inp):FnV A.C (.func 141 [] [.ptr q 0]) [.agg (Zce s inp)] h N (fun u _ _=>u=.bool (decide (s.name=n))):=by
 intro w
 rw[Zad,A.k141 (by simp)]
 have d1:¬q=N:=by omega
 have e1:(s.name==n)=decide (s.name=n):=by rw[Bool.eq_iff_iff];simp
 rcases hi with rfl|rfl|⟨_,_,_,_,_,rfl⟩
 all_goals
  simp(disch:=first|(simp;done)|omega|(simp only[Zab,Zac,Ytd];omega)|rfl) [-getElem?_pos,A.b141,Zce,hq,d1,Zam,Ret,Zae,e1]
  exact Keeps.refl.new _
def Zqc{h:T O}{N:Nat}{v:V}{g:List Stg}{n:Str}(hg:Gr h N v g)(hl:g.length<1000000):Fn A.C 74 [v,.str n] h N (fun u _ _=>u=.int .i64 (Zh8 g n)):=by
 intro w
 obtain⟨l,g1,g2,g3⟩:=hg
 rw[Zad,A.k74 (by simp)]
 simp(disch:=first|(simp;done)|omega|(simp only[Zab,Zac,Ytd];omega)|rfl) [-getElem?_pos,A.b74]
 have k0:Keeps h N (h.set N (.cells [.str n] 9 true)) (N+1):=(Keeps.refl.set (Ytf N)).up (Yv1 N)
 refine Zaf (Zup l (fun j=>decide ((g[j]?.map Stg.name)=some n)) (g1.keep k0) (by omega) ?_) ?_
 ·intro j x hx h' n' hk
  have hj:j<g.length:=by rw[←g2];exact Zar hx
  obtain⟨s,hs⟩:=Zag hj
  obtain⟨inp,i1,i2⟩:=g3 j s hs
  rw[hx]at i1
  obtain rfl:x=Zce s inp:=by simpa using i1
  have:=Yhj (s:=s) (inp:=inp) (n:=n) (q:=N) (h:=h') (N:=n') (e:=9) (rw:=true) (by rw[hk.get _ (by omega)];simp) (by have:=hk.le;omega) i2.form
  simpa[hs]using this
 ·rintro v h2 n2 k2 rfl
  rw[g2,Zo6 (n:=n) g 0 (fun j s hs=>by simp[hs])]
  simp(disch:=first|(simp;done)|omega|(simp only[Zab,Zac,Ytd];omega)|rfl) [-getElem?_pos,Ret,Zh8]
  exact k0.trans k2
set_option maxHeartbeats 2000000
noncomputable def A.b227:=A.q Tryz.f227
def A.k227:=@A.kk 227 51 [.tmp 4,.tmp 5] A.b227 (by kernel_rfl) rfl
def Yok{x y:Nat}(hx:x<18446744073709551616)(hy:y<18446744073709551616):addu (addu (mulu (shr64 x 32) (shr64 y 32)) (shr64 (addu (mulu (shr64 x 32) (and32 y)) (shr64 (mulu (and32 x) (and32 y)) 32)) 32)) (shr64 (addu (and32 (addu (mulu (shr64 x 32) (and32 y)) (shr64 (mulu (and32 x) (and32 y)) 32))) (mulu (and32 x) (shr64 y 32))) 32)=hi64 (x*y):=by
 simp only[addu,mulu,shr64,and32,hi64,Nat.reducePow]
 have ex:x=x/4294967296*4294967296+x%4294967296:=by omega
 have ey:y=y/4294967296*4294967296+y%4294967296:=by omega
 have hx0:x%4294967296<4294967296:=Yuo _ (by decide)
 have hy0:y%4294967296<4294967296:=Yuo _ (by decide)
 have hx1:x/4294967296<4294967296:=by omega
 have hy1:y/4294967296<4294967296:=by omega
 generalize x/4294967296=x1 at*
 generalize x%4294967296=x0 at*
 generalize y/4294967296=y1 at*
 generalize y%4294967296=y0 at*
 have a1:x0*y0≤4294967295*4294967295:=Yvo (by omega) (by omega)
 have a2:x1*y0≤4294967295*4294967295:=Yvo (by omega) (by omega)
 have a3:x0*y1≤4294967295*4294967295:=Yvo (by omega) (by omega)
 have a4:x1*y1≤4294967295*4294967295:=Yvo (by omega) (by omega)
 have e:x*y=x1*y1*18446744073709551616+(x1*y0+x0*y1)*4294967296+x0*y0:=by
  subst ex;subst ey
  grind
 rw[e]
 generalize x0*y0=p at*
 generalize x1*y0=q at*
 generalize x0*y1=u at*
 generalize x1*y1=z at*
 omega
def Zj3{h:T O}{N:Nat}{x y:Nat}(hx:x<18446744073709551616)(hy:y<18446744073709551616):Fn A.C 227 [.int .u64 x,.int .u64 y] h N (fun v' h' N'=>h'=h∧N'=N∧v'=.tup [.int .u64 (hi64 (x*y):Nat),.int .u64 (lo64 (x*y):Nat)]):=by
 intro w
 rw[Zad,A.k227 (by simp)]
 simp(disch:=first|(simp;done)|omega|(simp only[Zab,Zac,Ytd];omega)|rfl) [A.b227]
 rw[Yok hx hy]
 exact⟨rfl,Keeps.refl,rfl,rfl,rfl⟩
noncomputable def A.w237:=A.q Tryz.f237
noncomputable def A.lb237_0:=A.ql A.w237 0 []
noncomputable def A.b237:=(fun x0=>A.qb A.w237 [x0]) A.lb237_0
def A.k237:=@A.kk 237 21 [.tmp 2] A.b237 (by kernel_rfl) rfl
def Zf6{h:T O}{N:Nat}{v:V}{l:List Nat}(hs:Sl h N v (dg l))(hl:l.length<1152921504606846976):Fn A.C 237 [v] h N (fun v' h' N'=>Sl h' N' v' (dg (Zgz l))):=by
 intro w
 have hlen:=hs.len
 rw[Zab]at hlen
 rw[Zad,A.k237 (by simp)]
 simp[A.b237,hlen]
 refine Zah [(3,3),(6,17)] (fun e r st=>e=.exit 0∧st=⟨h,N,[]⟩∧∃k,k≤l.length∧r.get 3=some (.int .i64 k)∧Zgz l=l.take k) (fun k r st=>st=⟨h,N,[]⟩∧k≤l.length∧r.get 3=some (.int .i64 k)∧Zgz (l.take k)=Zgz l) l.length ?_ ?_ ?_
 ·exact⟨rfl,Ytf _,by simp,by simp⟩
 ·rintro k r _ hr hf ⟨rfl,hk,h3,ht⟩
  rw[Zai]
  cases k with
  |zero=>
   have:Zgz l=[]:=ht.symm
   simp[A.lb237_0,h3,hf,this]
   exact⟨0,by omega,rfl,.inl rfl⟩
  |succ k=>
   obtain⟨d,hd⟩:∃d,l[k]?=some d:=⟨_,Ytj (by omega)⟩
   obtain⟨i,o,c,e,rw,q1,q2,q3,q4⟩:=hs.at (Za8 hd)
   have e1:l.take (k+1)=l.take k++[d]:=by rw[Yt8,hd];rfl
   have k1:(0:Int)<(k:Int)+1:=by omega
   have k2:(k:Int)<(l.length:Int):=by omega
   by_cases h0:d=0
   ·subst h0
    rw[e1,Zoi]at ht
    simp(disch:=first|(simp;done)|omega|(simp only[Zab,Zac,Ytd];omega)|rfl) [A.lb237_0,h3,hr,hf,k1,k2,hlen,q1,q3,q4,Zae]
    exact⟨k,by omega,by omega,rfl,ht⟩
   ·rw[e1,Zoj h0]at ht
    have hz:((d:Int)==0)=false:=by simp;omega
    simp(disch:=first|(simp;done)|omega|(simp only[Zab,Zac,Ytd];omega)|rfl) [A.lb237_0,h3,hr,hf,k1,k2,hlen,q1,q3,q4,Zae,hz]
    exact⟨k+1,hk,rfl,by rw[e1];exact ht.symm⟩
 ·rintro _ r _ hr ⟨rfl,rfl,k,hk,h3,ht⟩
  simp[hr,h3,Zcn,evOpt]
  obtain⟨v',e1,e2⟩:=Zjs (w:=[]) hs (lo:=0) (hi:=k) (Yv0 _) (by rw[Zab];exact hk) none (some (.int .i64 k)) (.inr ⟨rfl,rfl⟩) (.inl rfl)
  rw[e1]
  simp[Ret]
  refine⟨Keeps.refl,?_⟩
  rw[ht,show dg (l.take k)=(dg l).take k by simp[dg]]
  exact e2
end Go.Mx
