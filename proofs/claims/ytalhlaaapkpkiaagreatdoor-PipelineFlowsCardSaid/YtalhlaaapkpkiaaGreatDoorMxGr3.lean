/-Copies of graphs-/
import Derived.Test.YtalhlaaapkpkiaaGreatDoorMxUtf
import Derived.Test.YtalhlaaapkpkiaaGreatDoorProg
set_option linter.all false
namespace Go.Mx
open Go
variable {N:Nat} {h:T O} {l:List V} {v:V}
def Cp(h:T O)(N:Nat)(v:V)(l:List V):Prop:=∃j c,v=.slice j 0 l.length c 1∧j<N∧h.get j=some (.cells l 9 true)∧∀k,c=some k→l.length≤k
def Cp.keep{h':T O}{N':Nat}(s:Cp h N v l)(k:Keeps h N h' N'):Cp h' N' v l:=by
 obtain⟨j,c,h1,h2,h3,h4⟩:=s
 exact⟨j,c,h1,Yti h2 k.le,(k.get j h2).trans h3,h4⟩
def Cp.sl(s:Cp h N v l):Sl h N v l:=by
 obtain⟨j,c,h1,h2,h3,h4⟩:=s
 rw[h1];exact Sl.row h2 h3 rfl h4
def Yat{w:List Nat}(s:Sl h N v l):Za0 ⟨h,N,w⟩ 1 v=some (l.length,l):=by
 rcases s with⟨rfl,rfl|rfl⟩|⟨i,o,cp,c,e,rw,rfl,h2,h3,h4,h5,h6⟩
 ·rfl
 ·rfl
 ·simp only[Za0,if_true,St.row,h3,Yv9]
  have:slc c o l.length=some l:=by
   unfold slc
   rw[Ys8 h5]
   congr 1
   apply Yt4
   intro j
   rw[Ytk]
   by_cases hj:j<l.length
   ·rw[Ys8 hj,Ytg];exact h4 j hj
   ·rw[Ys5 hj,Ytn (by omega)]
  rw[this]
def Zvd{i:Nat}{w:List Nat}(hr:h.get i=some (.cells [] 9 true))(hi:i<N)(hs:Sl h N v l)(hl:l.length<100000):
  ∃v' h' n',Zbi ⟨h,N,w⟩ 1 16 9 (.slice i 0 0 (some 0) 1) v=some (v',⟨h',n',w⟩)∧Keeps h N h' n'∧Cp h' n' v' l:=by
 by_cases h0:l.length=0
 ·have:l=[]:=Ytl h0
  subst this
  refine⟨.slice i 0 0 (some 0) 1,h,N,?_,Keeps.refl,i,some 0,rfl,hi,hr,fun k hk=>by simp⟩
  simp[Zbi,Yat hs]
 ·refine⟨.slice N 0 l.length none 1,h.set N (.cells l 9 true),N+1,?_,Keeps.refl.new _,N,none,rfl,by omega,by rw[T.get_set];simp,fun k hk=>by cases hk⟩
  have hb:¬(Zca<2*(0+l.length)*16):=by unfold Zca;omega
  have hne:l≠[]:=fun hc=>h0 (by rw[hc];rfl)
  simp[Zbi,Yat hs,hb,St.row,hr,hne,slc,St.alloc]
  simp[Zca];omega
def PgA(h:T O)(N0 N:Nat)(u:V)(g:List Stg)(k:Nat):Prop:=∃l:List (List V),Own 5 126 N0 h N u l∧l.length=k∧∀(j:Nat) (s:Stg),j<k→g[j]?=some s→∃inp,l[j]?=some (Zb2 s inp)∧Cp h N inp (strs s.inputs)
def PgA.keep{h':T O}{N0 N':Nat}{u:V}{g:List Stg}{k:Nat}(s:PgA h N0 N u g k)(kk:Keeps h N h' N'):PgA h' N0 N' u g k:=by
 obtain⟨l,h1,h2,h3⟩:=s
 refine⟨l,h1.keep kk,h2,fun j s hj hs=>?_⟩
 obtain⟨inp,h4,h5⟩:=h3 j s hj hs
 exact⟨inp,h4,h5.keep kk⟩
def Sl.setInt{h:T O}{N:Nat}{v:V}{l:List Int}{i:Nat}{c0 c1:List V}{e0 e1:TypeId}{w0 w1:Bool}(s:Sl h N v (dI l))(hr:h.get i=some (.cells c0 e0 w0))(hn:∀x∈c0,∀k n,x≠.int k n)(hc:c1.length=c0.length):Sl (h.set i (.cells c1 e1 w1)) N v (dI l):=by
 rcases s with s|⟨j,o,cp,c,e,rw,h1,h2,h3,h4,h5,h6⟩
 ·exact .inl s
 ·by_cases hj:j=i
  ·subst hj
   rw[hr]at h3
   simp only[Ys3,O.cells.injEq]at h3
   obtain⟨rfl,rfl,rfl⟩:=h3
   cases l with
   |nil=>exact .inr ⟨j,o,cp,c1,e1,w1,h1,h2,by rw[T.get_set];simp,fun k hk=>by simp[dI]at hk,by rw[hc];exact h5,h6⟩
   |cons d l=>
    have:=h4 0 (by simp[dI])
    simp only[dI,Yuq,Yuy]at this
    exact absurd rfl (hn _ (Ys9 this) .i64 d)
  ·exact .inr ⟨j,o,cp,c,e,rw,h1,h2,by rw[T.get_set,Ys5 hj];exact h3,h4,h5,h6⟩
open Go Go.Proofs
set_option maxRecDepth 1000000
noncomputable abbrev A.F(n:Nat):=Zlu Tryz.prog n
def mv(a b:Nat):Za9:=⟨some a,.mov (.tmp b),none⟩
def mc(a:Nat)(n:Int):Za9:=⟨some a,.mov (.const (.int .i64 n)),none⟩
def ia(a z x i:Nat):Za9:=⟨some a,.iaddrSl z (.tmp x) (.tmp i),none⟩
def ld(a x:Nat):Za9:=⟨some a,.load none (.tmp x),none⟩
def xt(a x i:Nat):Za9:=⟨some a,.extract (.tmp x) i,none⟩
def bi(a:Nat)(o:BinOp)(x y:Nat):Za9:=⟨some a,.bin o (.node []) false (.tmp x) (.tmp y),none⟩
def bc(a:Nat)(o:BinOp)(x:Nat)(n:Int):Za9:=⟨some a,.bin o (.node []) false (.tmp x) (.const (.int .i64 n)),none⟩
def ln(a x:Nat):Za9:=⟨some a,.len 1 (.tmp x),none⟩
def so(a x:Nat):Za9:=⟨none,.store 1 (.tmp a) (.tmp x),none⟩
def c1(a f x:Nat):Za9:=⟨some a,.call (.const (.func f [] [])) [.tmp x],none⟩
def c2(a f x y:Nat):Za9:=⟨some a,.call (.const (.func f [] [])) [.tmp x,.tmp y],none⟩
def lN(a n x:Nat):Za9:=⟨some a,.load (some n) (.tmp x),none⟩
def fa(a o x:Nat):Za9:=⟨some a,.faddr o (.tmp x),none⟩
def pf(a x y:Nat):Za9:=⟨some a,.pick (.tmp x) (.tmp y) (.const (.bool false)),none⟩
def pt(a x y:Nat):Za9:=⟨some a,.pick (.tmp x) (.const (.bool true)) (.tmp y),none⟩
def ei(a x:Nat)(n:Int):Za9:=⟨some a,.bin .eql (.prim .int) true (.tmp x) (.const (.int .i64 n)),none⟩
def ni(a x:Nat)(n:Int):Za9:=⟨some a,.bin .neq (.prim .int) true (.tmp x) (.const (.int .i64 n)),none⟩
def mN(a:Nat):Za9:=⟨some a,.mov (.const .nilslice),none⟩
def bx(a e x:Nat):Za9:=⟨some a,.box e (.tmp x),none⟩
def mg(a x g:Nat):Za9:=⟨some a,.mov (.tmp x),some (g,true)⟩
def mh(a x g:Nat):Za9:=⟨some a,.mov (.tmp x),some (g,false)⟩
def sr(l:List Za9)(c:Zav):Zav:=.seq (.reg l) c
def cd(x:Nat)(a b:Zav):Zav:=.cond (.tmp x) a b
def ge(a:Nat)(o:MOp):Za9:=⟨some a,o,none⟩
def gn(o:MOp):Za9:=⟨none,o,none⟩
def gy(a g:Nat)(o:MOp):Za9:=⟨some a,o,some (g,true)⟩
def gz(a g:Nat)(o:MOp):Za9:=⟨some a,o,some (g,false)⟩
abbrev tq(x:Nat):Src:=.tmp x
abbrev kq(n:Int):Src:=.const (.int .i64 n)
abbrev fq(f:Nat):Src:=.const (.func f [] [])
attribute [simp] Yuy Yvd mv mc ia ld xt bi bc ln so c1 c2 lN fa pf pt ei ni mN bx mg mh sr cd ge gn gy gz
def A.p10:O:=.cells (([1,10,100,1000,10000,100000,1000000,10000000,100000000,1000000000,10000000000,100000000000,1000000000000,10000000000000,100000000000000,1000000000000000,10000000000000000,100000000000000000,1000000000000000000,10000000000000000000]:List Int).map fun z=>.int .u64 z) 338 false
def A.TB:List (Nat×O):=[(5,A.p10)]
noncomputable def A.C:Cx:=⟨Zx5 A.TB [⟨8,[],.bool true⟩],Zlu Tryz.prog⟩
def A.t:A.C.tbl=Zlu Tryz.prog:=rfl
def A.x0{f:Nat}{a c args:List V}{st:St}(h:Nat.beq 8 f=false):A.C.x (.func f a c) args st=none:=by
 show Zx5 A.TB [⟨8,[],.bool true⟩] (.func f a c) args st=none
 unfold Zx5
 split
 ·rename_i heq
  simp only[V.func.injEq]at heq
  obtain⟨rfl,rfl,rfl⟩:=heq
  simp only[Zx4,h]
 ·rfl
noncomputable def Yq3(P:Program)(fn:Func):Zav:=match fn.body with
 |some c=>Zcx P c
 |none=>.skip
def Zlh:Zav→List Zav
 |.seq a b=>Zlh a++Zlh b
 |.cond _ a b=>Zlh a++Zlh b
 |.block _ a=>Zlh a
 |.scope a=>Zlh a
 |.loop a=>a::Zlh a
 |_=>[]
def Zsg:List Zav→Zav→Zav×List Zav
 |ls,.seq a b=>match Zsg ls a with
  |(a,ls)=>match Zsg ls b with
   |(b,ls)=>(.seq a b,ls)
 |ls,.cond s a b=>match Zsg ls a with
  |(a,ls)=>match Zsg ls b with
   |(b,ls)=>(.cond s a b,ls)
 |ls,.block k a=>match Zsg ls a with
  |(a,ls)=>(.block k a,ls)
 |ls,.scope a=>match Zsg ls a with
  |(a,ls)=>(.scope a,ls)
 |l::ls,.loop _=>(.loop l,ls)
 |ls,c=>(c,ls)
@[simp] noncomputable def A.q (f:Func) {b:Zav} (_h:Yq3 Tryz.prog f=b:=by conv=>lhs;cbv):Zav:=b
@[simp] noncomputable def A.ql (w:Zav) (i:Nat) (ls:List Zav) {b:Zav} (_h:(Zsg ls ((Zlh w)[i]?.getD .skip)).1=b:=by conv=>lhs;cbv):Zav:=b
@[simp] noncomputable def A.qb (w:Zav) (ls:List Zav) {b:Zav} (_h:(Zsg ls w).1=b:=by conv=>lhs;cbv):Zav:=b
def A.kk{n k:Nat}{res:List Ym6}{b:Zav}(hc:Zlu Tryz.prog n=some ⟨k,res,b⟩)(hx:Nat.beq 8 n=false){K:List Kf}{Q:Rs→Prop}{f c args:List V}{st:St}(h:(f++args++c).length≤k):Run A.C K (Zqw (A.C.call (.func n f c) args st)) Q↔Run A.C (.fin res st::K) (exR (A.C.code none b ⟨Zej .nil 0 (f++args++c),k,[]⟩ ⟨st.h,st.n,[]⟩)) Q:=Yft (A.x0 (f:=n) hx) (mf:=⟨k,res,b⟩) (by rw[A.t];exact hc) h
def A.known{h:T O}{N:Nat}{w:List Nat}(hp:h.get 5=some A.p10):A.C.call (.func 8 [] []) [] ⟨h,N,w⟩=some (.bool true,⟨h,N,w⟩):=by
 have hq:oEq (h.get 5) A.p10=true:=by rw[hp];decide+kernel
 have hi:Zld ⟨h,N,w⟩ A.TB=true:=by
  show (match oEq (h.get 5) A.p10 with|true=>true|false=>false)=true
  rw[hq]
 have hx:A.C.x (.func 8 [] []) [] ⟨h,N,w⟩=some (.bool true,⟨h,N,w⟩):=by
  show (match Zld ⟨h,N,w⟩ A.TB with|true=>some (V.bool true,(⟨h,N,w⟩:St))|false=>none)=_
  rw[hi]
 rw[Cx.call_eq]
 unfold Zee
 rw[hx]
noncomputable def A.b61:=A.q Tryz.f61
def A.k61:=@A.kk 61 7 [.tmp 4] A.b61 (by kernel_rfl) rfl
noncomputable def A.b138:=A.q Tryz.f138
def A.k138:=@A.kk 138 7 [.tmp 4] A.b138 (by kernel_rfl) rfl
noncomputable def A.b67:=A.q Tryz.f67
def A.k67:=@A.kk 67 16 [.tmp 6] A.b67 (by kernel_rfl) rfl
noncomputable def A.b181:=A.q Tryz.f181
def A.k181:=@A.kk 181 17 [.tmp 2] A.b181 (by kernel_rfl) rfl
def Zch{b:Bool}{e:Int}{st:St}:A.C.call (.func 61 [] []) [.bool b,.int .i64 e] st=some (.int .i64 (if b=true then e else 0),st):=by
 apply Call.eq
 rw[Zae,A.k61 (by simp)]
 cases b<;>simp[A.b61]
def Zd9{b:Bool}{e:Int}{st:St}:A.C.call (.func 138 [] []) [.bool b,.int .i64 e] st=some (.int .i64 (if b=true then e else 0),st):=by
 apply Call.eq
 rw[Zae,A.k138 (by simp)]
 cases b<;>simp[A.b138]
def Zgt{x lo hi:Int}{st:St}:A.C.call (.func 67 [] []) [.int .i64 x,.int .i64 lo,.int .i64 hi] st=some (.int .i64 (if x<lo∨hi<x then 3 else 0),st):=by
 apply Call.eq
 rw[Zae,A.k67 (by simp)]
 by_cases h1:x<lo
 ·simp[A.b67,h1,Zch]
 ·by_cases h2:hi<x<;>simp[A.b67,h1,h2,Zch]
def Zgd{x:Int}{st:St}:A.C.call (.func 181 [] []) [.int .i32 x] st=some (.bool (Zwp x),st):=by
 apply Call.eq
 rw[Zae,A.k181 (by simp)]
 by_cases h1:97≤x<;>by_cases h2:x≤122<;>by_cases h3:65≤x<;>by_cases h4:x≤90<;>simp[A.b181,h1,h2,h3,h4,Zwp]
variable {N i:Nat} {a0 a1:Int} {h:T O} {w:List Nat}
noncomputable def A.w38:=A.q Tryz.f38
noncomputable def A.lb38_0:=A.ql A.w38 0 []
noncomputable def A.b38:=(fun x0=>A.qb A.w38 [x0]) A.lb38_0
def A.k38:=@A.kk 38 15 [.tmp 2] A.b38 (by kernel_rfl) rfl
noncomputable def A.w137:=A.q Tryz.f137
noncomputable def A.lb137_0:=A.ql A.w137 0 []
noncomputable def A.b137:=(fun x0=>A.qb A.w137 [x0]) A.lb137_0
def A.k137:=@A.kk 137 15 [.tmp 2] A.b137 (by kernel_rfl) rfl
def Zqi{v:V}{l:List Int}(hs:Sl h N v (dI l))(hl:l.length<1000):A.C.call (.func 38 [] []) [v] ⟨h,N,w⟩=some (.int .i64 (Zam l),⟨h,N,w⟩):=by
 apply Call.eq
 have hlen:=hs.len
 rw[Zas]at hlen
 rw[Zae,A.k38 (by simp)]
 simp[A.b38,hlen]
 refine Zah [(2,2),(4,4),(7,14)] (fun e r st=>st=⟨h,N,[]⟩∧((e=.exit 0∧Zam l=0)∨(e=.ret∧r.get 2=some (.int .i64 (Zam l))))) (fun m r st=>st=⟨h,N,[]⟩∧∃k,m=l.length-k∧k≤l.length∧r.get 7=some (.int .i64 k)∧Zam l=Zam (l.drop k)) l.length ?_ ?_ ?_
 ·exact⟨rfl,0,by omega,by omega,by simp,by simp⟩
 ·rintro m r _ hr hf ⟨rfl,k,rfl,hk,h7,hz⟩
  rw[Zai]
  by_cases hlt:k<l.length
  ·obtain⟨c,hc⟩:=Zag hlt
   obtain⟨i,o,cc,e,rw,q1,q2,q3,q4⟩:=hs.at (Zbf hc)
   rw[Zap hc,Zam]at hz
   have hk1:(k:Int)<(l.length:Int):=by omega
   by_cases h0:c=0
   ·rw[Ys8 h0]at hz
    simp(disch:=first|(simp;done)|omega|(simp only[Zaa,Zab,Ys4];omega)|rfl) [A.lb38_0,hr,hf,h7,hk1,hlt,hlen,q1,q3,q4,Zad,h0]
    exact⟨_,by omega,k+1,rfl,by omega,by simp,hz⟩
   ·rw[Ys5 h0]at hz
    simp[A.lb38_0,hr,hf,h7,hk1,hlt,hlen,q1,q3,q4,Zad,h0,hz]
  ·have:l.drop k=[]:=Yui (by omega)
   rw[this,Zam]at hz
   have:k=l.length:=by omega
   subst this
   simp[A.lb38_0,hr,hf,h7,hlen,hz]
 ·rintro _ r _ hr ⟨rfl,⟨rfl,hz⟩|⟨rfl,h2⟩⟩
  ·simp[hr,hz]
  ·simp[hr,h2]
def Yb0{v:V}{l:List Int}(hs:Sl h N v (dI l))(hl:l.length<1000):A.C.call (.func 137 [] []) [v] ⟨h,N,w⟩=some (.int .i64 (Zam l),⟨h,N,w⟩):=by
 apply Call.eq
 have hlen:=hs.len
 rw[Zas]at hlen
 rw[Zae,A.k137 (by simp)]
 simp[A.b137,hlen]
 refine Zah [(2,2),(4,4),(7,14)] (fun e r st=>st=⟨h,N,[]⟩∧((e=.exit 0∧Zam l=0)∨(e=.ret∧r.get 2=some (.int .i64 (Zam l))))) (fun m r st=>st=⟨h,N,[]⟩∧∃k,m=l.length-k∧k≤l.length∧r.get 7=some (.int .i64 k)∧Zam l=Zam (l.drop k)) l.length ?_ ?_ ?_
 ·exact⟨rfl,0,by omega,by omega,by simp,by simp⟩
 ·rintro m r _ hr hf ⟨rfl,k,rfl,hk,h7,hz⟩
  rw[Zai]
  by_cases hlt:k<l.length
  ·obtain⟨c,hc⟩:=Zag hlt
   obtain⟨i,o,cc,e,rw,q1,q2,q3,q4⟩:=hs.at (Zbf hc)
   rw[Zap hc,Zam]at hz
   have hk1:(k:Int)<(l.length:Int):=by omega
   by_cases h0:c=0
   ·rw[Ys8 h0]at hz
    simp(disch:=first|(simp;done)|omega|(simp only[Zaa,Zab,Ys4];omega)|rfl) [A.lb137_0,hr,hf,h7,hk1,hlt,hlen,q1,q3,q4,Zad,h0]
    exact⟨_,by omega,k+1,rfl,by omega,by simp,hz⟩
   ·rw[Ys5 h0]at hz
    simp[A.lb137_0,hr,hf,h7,hk1,hlt,hlen,q1,q3,q4,Zad,h0,hz]
  ·have:l.drop k=[]:=Yui (by omega)
   rw[this,Zam]at hz
   have:k=l.length:=by omega
   subst this
   simp[A.lb137_0,hr,hf,h7,hlen,hz]
 ·rintro _ r _ hr ⟨rfl,⟨rfl,hz⟩|⟨rfl,h2⟩⟩
  ·simp[hr,hz]
  ·simp[hr,h2]
def Ziq(hi:i<N):A.C.call (.func 137 [] []) [.slice i 0 2 (some 2) 1] ⟨h.set i (.cells [.int .i64 a0,.int .i64 a1] 30 true),N,w⟩=some (.int .i64 (Zam [a0,a1]),⟨h.set i (.cells [.int .i64 a0,.int .i64 a1] 30 true),N,w⟩):=
 Yb0 (l:=[a0,a1]) (Sl.row (e:=30) (rw:=true) (cp:=some 2) hi (by simp[dI]) rfl (by simp)) (by simp)
def Zp5(hi:i<N):A.C.call (.func 38 [] []) [.slice i 0 2 (some 2) 1] ⟨h.set i (.cells [.int .i64 a0,.int .i64 a1] 30 true),N,w⟩=some (.int .i64 (Zam [a0,a1]),⟨h.set i (.cells [.int .i64 a0,.int .i64 a1] 30 true),N,w⟩):=
 Zqi (l:=[a0,a1]) (Sl.row (e:=30) (rw:=true) (cp:=some 2) hi (by simp[dI]) rfl (by simp)) (by simp)
def Zp4{a2 a3 a4:Int}(hi:i<N):A.C.call (.func 38 [] []) [.slice i 0 5 (some 5) 1] ⟨h.set i (.cells [.int .i64 a0,.int .i64 a1,.int .i64 a2,.int .i64 a3,.int .i64 a4] 30 true),N,w⟩=some (.int .i64 (Zam [a0,a1,a2,a3,a4]),⟨h.set i (.cells [.int .i64 a0,.int .i64 a1,.int .i64 a2,.int .i64 a3,.int .i64 a4] 30 true),N,w⟩):=
 Zqi (l:=[a0,a1,a2,a3,a4]) (Sl.row (e:=30) (rw:=true) (cp:=some 5) hi (by simp[dI]) rfl (by simp)) (by simp)
def Zp3{a2 a3 a4 a5 a6 a7:Int}(hi:i<N):A.C.call (.func 38 [] []) [.slice i 0 8 (some 8) 1] ⟨h.set i (.cells [.int .i64 a0,.int .i64 a1,.int .i64 a2,.int .i64 a3,.int .i64 a4,.int .i64 a5,.int .i64 a6,.int .i64 a7] 30 true),N,w⟩=some (.int .i64 (Zam [a0,a1,a2,a3,a4,a5,a6,a7]),⟨h.set i (.cells [.int .i64 a0,.int .i64 a1,.int .i64 a2,.int .i64 a3,.int .i64 a4,.int .i64 a5,.int .i64 a6,.int .i64 a7] 30 true),N,w⟩):=
 Zqi (l:=[a0,a1,a2,a3,a4,a5,a6,a7]) (Sl.row (e:=30) (rw:=true) (cp:=some 8) hi (by simp[dI]) rfl (by simp)) (by simp)
def A.b80:Zav:=sr [ge 0 (.mov (.const .nilmap))]
 (sr [ge 1 (.mkmap),ge 2 (.build [.int .i64 0,.int .i64 0] [(0,1,(kq 0)),(1,1,(kq 0))]),ge 3 (.build [.bool false,.int .i64 0,.int .i64 0,.nilfunc] [(0,1,(.const (.bool false))),(1,2,(tq 2)),(3,1,(fq 143))]),gn (.mapset .str (tq 1) (.const (.str [102,114,97,109,101])) (tq 3)),ge 4 (.build [.int .i64 0,.int .i64 0] [(0,1,(kq 1)),(1,1,(kq 16))]),ge 5 (.build [.bool false,.int .i64 0,.int .i64 0,.nilfunc] [(0,1,(.const (.bool false))),(1,2,(tq 4)),(3,1,(fq 144))]),gn (.mapset .str (tq 1) (.const (.str [97,100,100])) (tq 5)),ge 6 (.build [.int .i64 0,.int .i64 0] [(0,1,(kq 1)),(1,1,(kq 1))]),ge 7 (.build [.bool false,.int .i64 0,.int .i64 0,.nilfunc] [(0,1,(.const (.bool true))),(1,2,(tq 6)),(3,1,(fq 146))]),gn (.mapset .str (tq 1) (.const (.str [115,99,97,108,101])) (tq 7)),ge 8 (.build [.int .i64 0,.int .i64 0] [(0,1,(kq 1)),(1,1,(kq 16))]),ge 9 (.build [.bool false,.int .i64 0,.int .i64 0,.nilfunc] [(0,1,(.const (.bool false))),(1,2,(tq 8)),(3,1,(fq 148))]),gn (.mapset .str (tq 1) (.const (.str [109,97,120])) (tq 9)),ge 10 (.build [.int .i64 0,.int .i64 0] [(0,1,(kq 1)),(1,1,(kq 1))]),ge 11 (.build [.bool false,.int .i64 0,.int .i64 0,.nilfunc] [(0,1,(.const (.bool false))),(1,2,(tq 10)),(3,1,(fq 151))]),gn (.mapset .str (tq 1) (.const (.str [100,101,108,97,121])) (tq 11)),ge 12 (.build [.int .i64 0,.int .i64 0] [(0,1,(kq 1)),(1,1,(kq 1))]),ge 13 (.build [.bool false,.int .i64 0,.int .i64 0,.nilfunc] [(0,1,(.const (.bool true))),(1,2,(tq 12)),(3,1,(fq 152))]),gn (.mapset .str (tq 1) (.const (.str [115,117,109])) (tq 13)),mv 14 1,mv 0 14]
 (.ret))
def A.k80:=@A.kk 80 15 [.tmp 0] A.b80 (by kernel_rfl) rfl
def Yiv:List (V×V):=[(.str [102,114,97,109,101],.agg [.bool false,.int .i64 0,.int .i64 0,.func 143 [] []]),(.str [97,100,100],.agg [.bool false,.int .i64 1,.int .i64 16,.func 144 [] []]),(.str [115,99,97,108,101],.agg [.bool true,.int .i64 1,.int .i64 1,.func 146 [] []]),(.str [109,97,120],.agg [.bool false,.int .i64 1,.int .i64 16,.func 148 [] []]),(.str [100,101,108,97,121],.agg [.bool false,.int .i64 1,.int .i64 1,.func 151 [] []]),(.str [115,117,109],.agg [.bool true,.int .i64 1,.int .i64 1,.func 152 [] []])]
def Yiu{h:T O}{N:Nat}:Fn A.C 80 [] h N (fun v h' n'=>∃i,N≤i∧i<n'∧v=.map i∧h'.get i=some (.map Yiv)):=by
 intro w
 rw[Zae,A.k80 (by simp)]
 simp(disch:=first|(simp;done)|omega|(simp only[Zaa,Zab,Ys4];omega)|rfl) [-getElem?_pos,A.b80,splice,findV,Zy2,Ret,Yiv]
 refine⟨?_,N,Ys6 _,by omega,rfl,by simp⟩
 (refine Keeps.up (n1:=N) ?_ (by omega);repeat (refine Keeps.set (by omega) ?_));exact Keeps.refl
def Yf7{st:St}(s:Str):∃f,(f=.nilfunc∨∃k,f=.func k [] [])∧Ycu st (.agg [.bool false,.int .i64 0,.int .i64 0,.nilfunc]) true (findV .str (.str s) Yiv 0)=some (.tup [.agg [.bool ((opOf s).getD ⟨false,0,0⟩).factor,.int .i64 (((opOf s).getD ⟨false,0,0⟩).lo:Nat),.int .i64 (((opOf s).getD ⟨false,0,0⟩).hi:Nat),f],.bool (opOf s).isSome],st):=by
 unfold opOf Yiv
 by_cases h1:s=[102,114,97,109,101]
 ·subst h1;exact⟨_,.inr ⟨_,rfl⟩,rfl⟩
 by_cases h2:s=[97,100,100]
 ·subst h2;exact⟨_,.inr ⟨_,rfl⟩,rfl⟩
 by_cases h3:s=[115,99,97,108,101]
 ·subst h3;exact⟨_,.inr ⟨_,rfl⟩,rfl⟩
 by_cases h4:s=[109,97,120]
 ·subst h4;exact⟨_,.inr ⟨_,rfl⟩,rfl⟩
 by_cases h5:s=[100,101,108,97,121]
 ·subst h5;exact⟨_,.inr ⟨_,rfl⟩,rfl⟩
 by_cases h6:s=[115,117,109]
 ·subst h6;exact⟨_,.inr ⟨_,rfl⟩,rfl⟩
 have e1:(s==[102,114,97,109,101])=false:=by simp[h1]
 have e2:(s==[97,100,100])=false:=by simp[h2]
 have e3:(s==[115,99,97,108,101])=false:=by simp[h3]
 have e4:(s==[109,97,120])=false:=by simp[h4]
 have e5:(s==[100,101,108,97,121])=false:=by simp[h5]
 have e6:(s==[115,117,109])=false:=by simp[h6]
 refine⟨.nilfunc,.inl rfl,?_⟩
 simp only[findV,Zy2,e1,e2,e3,e4,e5,e6,h1,h2,h3,h4,h5,h6,if_false]
 rfl
variable {N:Nat} {f v:V} {h:T O}
noncomputable def A.w155:=A.q Tryz.f155
noncomputable def A.lb155_0:=A.ql A.w155 0 []
noncomputable def A.b155:=(fun x0=>A.qb A.w155 [x0]) A.lb155_0
def A.k155:=@A.kk 155 19 [.tmp 4] A.b155 (by kernel_rfl) rfl
def Zuu(l:List (List V))(p:Nat→Bool)(hs:Sn 5 h N v l)(hl:l.length<1152921504606846976)(hf:∀(j:Nat) (x:List V),l[j]?=some x→∀h' n',Keeps h N h' n'→FnV A.C f [.agg x] h' n' (fun u _ _=>u=.bool (p j))):Fn A.C 155 [v,f] h N (fun u _ _=>u=.int .i64 (Zcl p 0 l.length)):=by
 intro w
 have hlen:=hs.len
 rw[Zae,A.k155 (by simp)]
 simp(disch:=first|(simp;done)|omega|(simp only[Zaa,Zab,Ys4];omega)|rfl) [-getElem?_pos,A.b155,hlen]
 refine Zah [(4,5),(8,18)] (fun e r st=>Zac N st.w=[]∧Keeps h N st.h st.n∧((e=.exit 0∧Zcl p 0 l.length= -1)∨(e=.ret∧r.get 4=some (.int .i64 (Zcl p 0 l.length))))) (fun m r st=>Zac N st.w=[]∧Keeps h N st.h st.n∧∃k,k+m=l.length∧r.get 8=some (.int .i64 k)∧Zcl p 0 l.length=Zcl p k m) l.length ?_ ?_ ?_
 ·exact⟨by simp,Keeps.refl,0,by omega,by simp,rfl⟩
 ·rintro m r ⟨H,n1,W⟩ hr hf2 ⟨hW,hK,k,hk,h8,hz⟩
  simp only at hW hK
  rw[Zai]
  cases m with
  |zero=>
   have:k=l.length:=by omega
   subst this
   simp only[Zcl]at hz
   simp(disch:=first|(simp;done)|omega|(simp only[Zaa,Zab,Ys4];omega)|rfl) [-getElem?_pos,A.lb155_0,hr,hf2,h8,hW,hK,hz]
  |succ m=>
   have hlt:k<l.length:=by omega
   obtain⟨c,hc⟩:=Zag hlt
   obtain⟨i,o,cc,e,rw,q1,q2,q3,q4⟩:=hs.at hc
   have q3:=(hK.get _ q2).trans q3
   have hk1:(k:Int)<(l.length:Int):=by omega
   simp only[Zcl]at hz
   simp(disch:=first|(simp;done)|omega|(simp only[Zaa,Zab,Ys4];omega)|rfl) [-getElem?_pos,A.lb155_0,hr,hf2,h8,hk1,hlt,hlen,q1,q3,q4,hW]
   refine Zgz (hf k c hc _ _ hK) ?_
   rintro v h2 n2 k2 rfl
   have kk:=hK.trans k2
   cases hp:p k
   ·rw[hp]at hz
    simp(disch:=first|(simp;done)|omega|(simp only[Zaa,Zab,Ys4];omega)|rfl) [-getElem?_pos,hr,hf2,h8,hW,kk]
    exact⟨m,by omega,k+1,by omega,by simp,by simpa using hz⟩
   ·rw[hp]at hz
    simp(disch:=first|(simp;done)|omega|(simp only[Zaa,Zab,Ys4];omega)|rfl) [-getElem?_pos,hr,hf2,h8,hW,kk]
    simpa using hz.symm
 ·rintro e r ⟨H,n1,W⟩ hr ⟨hW,hK,⟨rfl,hz⟩|⟨rfl,h4⟩⟩
  ·simp only at hW hK
   simp(disch:=first|(simp;done)|omega|(simp only[Zaa,Zab,Ys4];omega)|rfl) [-getElem?_pos,hr,hz,Ret,hW,hK]
  ·simp only at hW hK
   simp(disch:=first|(simp;done)|omega|(simp only[Zaa,Zab,Ys4];omega)|rfl) [-getElem?_pos,hr,h4,Ret,hW,hK]
noncomputable def A.w180:=A.q Tryz.f180
noncomputable def A.lb180_0:=A.ql A.w180 0 []
noncomputable def A.b180:=(fun x0=>A.qb A.w180 [x0]) A.lb180_0
def A.k180:=@A.kk 180 19 [.tmp 4] A.b180 (by kernel_rfl) rfl
def Ydc(l:List V)(p:Nat→Bool)(hs:Sl h N v l)(hl:l.length<1152921504606846976)(hf:∀(j:Nat) (x:V),l[j]?=some x→∀h' n',Keeps h N h' n'→FnV A.C f [x] h' n' (fun u _ _=>u=.bool (p j))):Fn A.C 180 [v,f] h N (fun u _ _=>u=.int .i64 (Zcl p 0 l.length)):=by
 intro w
 have hlen:=hs.len
 rw[Zae,A.k180 (by simp)]
 simp(disch:=first|(simp;done)|omega|(simp only[Zaa,Zab,Ys4];omega)|rfl) [-getElem?_pos,A.b180,hlen]
 refine Zah [(4,5),(8,18)] (fun e r st=>Zac N st.w=[]∧Keeps h N st.h st.n∧((e=.exit 0∧Zcl p 0 l.length= -1)∨(e=.ret∧r.get 4=some (.int .i64 (Zcl p 0 l.length))))) (fun m r st=>Zac N st.w=[]∧Keeps h N st.h st.n∧∃k,k+m=l.length∧r.get 8=some (.int .i64 k)∧Zcl p 0 l.length=Zcl p k m) l.length ?_ ?_ ?_
 ·exact⟨by simp,Keeps.refl,0,by omega,by simp,rfl⟩
 ·rintro m r ⟨H,n1,W⟩ hr hf2 ⟨hW,hK,k,hk,h8,hz⟩
  simp only at hW hK
  rw[Zai]
  cases m with
  |zero=>
   have:k=l.length:=by omega
   subst this
   simp only[Zcl]at hz
   simp(disch:=first|(simp;done)|omega|(simp only[Zaa,Zab,Ys4];omega)|rfl) [-getElem?_pos,A.lb180_0,hr,hf2,h8,hW,hK,hz]
  |succ m=>
   have hlt:k<l.length:=by omega
   obtain⟨c,hc⟩:=Zag hlt
   obtain⟨i,o,cc,e,rw,q1,q2,q3,q4⟩:=hs.at hc
   have q3:=(hK.get _ q2).trans q3
   have hk1:(k:Int)<(l.length:Int):=by omega
   simp only[Zcl]at hz
   simp(disch:=first|(simp;done)|omega|(simp only[Zaa,Zab,Ys4];omega)|rfl) [-getElem?_pos,A.lb180_0,hr,hf2,h8,hk1,hlt,hlen,q1,q3,q4,hW]
   refine Zgz (hf k c hc _ _ hK) ?_
   rintro v h2 n2 k2 rfl
   have kk:=hK.trans k2
   cases hp:p k
   ·rw[hp]at hz
    simp(disch:=first|(simp;done)|omega|(simp only[Zaa,Zab,Ys4];omega)|rfl) [-getElem?_pos,hr,hf2,h8,hW,kk]
    exact⟨m,by omega,k+1,by omega,by simp,by simpa using hz⟩
   ·rw[hp]at hz
    simp(disch:=first|(simp;done)|omega|(simp only[Zaa,Zab,Ys4];omega)|rfl) [-getElem?_pos,hr,hf2,h8,hW,kk]
    simpa using hz.symm
 ·rintro e r ⟨H,n1,W⟩ hr ⟨hW,hK,⟨rfl,hz⟩|⟨rfl,h4⟩⟩
  ·simp only at hW hK
   simp(disch:=first|(simp;done)|omega|(simp only[Zaa,Zab,Ys4];omega)|rfl) [-getElem?_pos,hr,hz,Ret,hW,hK]
  ·simp only at hW hK
   simp(disch:=first|(simp;done)|omega|(simp only[Zaa,Zab,Ys4];omega)|rfl) [-getElem?_pos,hr,h4,Ret,hW,hK]
noncomputable def A.b131:=A.q Tryz.f131
def A.k131:=@A.kk 131 9 [.tmp 4] A.b131 (by kernel_rfl) rfl
def Zpi(l:List V)(p:Nat→Bool)(hs:Sl h N v l)(hl:l.length<1152921504606846976)(hf:∀(j:Nat) (x:V),l[j]?=some x→∀h' n',Keeps h N h' n'→FnV A.C f [x] h' n' (fun u _ _=>u=.bool (p j))):Fn A.C 131 [v,f] h N (fun u _ _=>u=.bool (decide (0≤Zcl p 0 l.length))):=by
 intro w
 rw[Zae,A.k131 (by simp)]
 simp(disch:=first|(simp;done)|omega|(simp only[Zaa,Zab,Ys4];omega)|rfl) [-getElem?_pos,A.b131]
 refine Zaf (Ydc l p hs hl hf) ?_
 rintro v h2 n2 k2 rfl
 simp(disch:=first|(simp;done)|omega|(simp only[Zaa,Zab,Ys4];omega)|rfl) [-getElem?_pos,Ret,k2]
noncomputable def A.b85:=A.q Tryz.f85
def A.k85:=@A.kk 85 8 [.tmp 4] A.b85 (by kernel_rfl) rfl
noncomputable def A.b156:=A.q Tryz.f156
def A.k156:=@A.kk 156 8 [.tmp 3] A.b156 (by kernel_rfl) rfl
def Yhf{h:T O}{N:Nat}{s:Stg}{inp:V}{n:Str}{q:Nat}{e:TypeId}{rw:Bool}(hq:h.get q=some (.cells [.str n] e rw))(hlt:q<N)(hi:SlF inp):FnV A.C (.func 156 [] [.ptr q 0]) [.agg (Zb2 s inp)] h N (fun u _ _=>u=.bool (decide (s.name=n))):=by
 intro w
 rw[Zae,A.k156 (by simp)]
 have d1:¬q=N:=by omega
 have e1:(s.name==n)=decide (s.name=n):=by rw[Bool.eq_iff_iff];simp
 rcases hi with rfl|rfl|⟨_,_,_,_,_,rfl⟩
 all_goals
  simp(disch:=first|(simp;done)|omega|(simp only[Zaa,Zab,Ys4];omega)|rfl) [-getElem?_pos,A.b156,Zb2,hq,d1,Zal,Ret,Zad,e1]
  exact Keeps.refl.new _
def Zqj{h:T O}{N:Nat}{v:V}{g:List Stg}{n:Str}(hg:Gr h N v g)(hl:g.length<1000000):Fn A.C 85 [v,.str n] h N (fun u _ _=>u=.int .i64 (Zh4 g n)):=by
 intro w
 obtain⟨l,g1,g2,g3⟩:=hg
 rw[Zae,A.k85 (by simp)]
 simp(disch:=first|(simp;done)|omega|(simp only[Zaa,Zab,Ys4];omega)|rfl) [-getElem?_pos,A.b85]
 have k0:Keeps h N (h.set N (.cells [.str n] 9 true)) (N+1):=(Keeps.refl.set (Ys6 N)).up (Yvz N)
 refine Zaf (Zuu l (fun j=>decide ((g[j]?.map Stg.name)=some n)) (g1.keep k0) (by omega) ?_) ?_
 ·intro j x hx h' n' hk
  have hj:j<g.length:=by rw[←g2];exact Zat hx
  obtain⟨s,hs⟩:=Zag hj
  obtain⟨inp,i1,i2⟩:=g3 j s hs
  rw[hx]at i1
  obtain rfl:x=Zb2 s inp:=by simpa using i1
  have:=Yhf (s:=s) (inp:=inp) (n:=n) (q:=N) (h:=h') (N:=n') (e:=9) (rw:=true) (by rw[hk.get _ (by omega)];simp) (by have:=hk.le;omega) i2.form
  simpa[hs]using this
 ·rintro v h2 n2 k2 rfl
  rw[g2,Zpe (n:=n) g 0 (fun j s hs=>by simp[hs])]
  simp(disch:=first|(simp;done)|omega|(simp only[Zaa,Zab,Ys4];omega)|rfl) [-getElem?_pos,Ret,Zh4]
  exact k0.trans k2
set_option maxHeartbeats 2000000
noncomputable def A.b225:=A.q Tryz.f225
def A.k225:=@A.kk 225 51 [.tmp 4,.tmp 5] A.b225 (by kernel_rfl) rfl
def Yn8{x y:Nat}(hx:x<18446744073709551616)(hy:y<18446744073709551616):addu (addu (mulu (shr64 x 32) (shr64 y 32)) (shr64 (addu (mulu (shr64 x 32) (and32 y)) (shr64 (mulu (and32 x) (and32 y)) 32)) 32)) (shr64 (addu (and32 (addu (mulu (shr64 x 32) (and32 y)) (shr64 (mulu (and32 x) (and32 y)) 32))) (mulu (and32 x) (shr64 y 32))) 32)=hi64 (x*y):=by
 simp only[addu,mulu,shr64,and32,hi64,Nat.reducePow]
 have ex:x=x/4294967296*4294967296+x%4294967296:=by omega
 have ey:y=y/4294967296*4294967296+y%4294967296:=by omega
 have hx0:x%4294967296<4294967296:=Yuf _ (by decide)
 have hy0:y%4294967296<4294967296:=Yuf _ (by decide)
 have hx1:x/4294967296<4294967296:=by omega
 have hy1:y/4294967296<4294967296:=by omega
 generalize x/4294967296=x1 at*
 generalize x%4294967296=x0 at*
 generalize y/4294967296=y1 at*
 generalize y%4294967296=y0 at*
 have a1:x0*y0≤4294967295*4294967295:=Yvf (by omega) (by omega)
 have a2:x1*y0≤4294967295*4294967295:=Yvf (by omega) (by omega)
 have a3:x0*y1≤4294967295*4294967295:=Yvf (by omega) (by omega)
 have a4:x1*y1≤4294967295*4294967295:=Yvf (by omega) (by omega)
 have e:x*y=x1*y1*18446744073709551616+(x1*y0+x0*y1)*4294967296+x0*y0:=by
  subst ex;subst ey
  grind
 rw[e]
 generalize x0*y0=p at*
 generalize x1*y0=q at*
 generalize x0*y1=u at*
 generalize x1*y1=z at*
 omega
def Zju{h:T O}{N:Nat}{x y:Nat}(hx:x<18446744073709551616)(hy:y<18446744073709551616):Fn A.C 225 [.int .u64 x,.int .u64 y] h N (fun v' h' N'=>h'=h∧N'=N∧v'=.tup [.int .u64 (hi64 (x*y):Nat),.int .u64 (lo64 (x*y):Nat)]):=by
 intro w
 rw[Zae,A.k225 (by simp)]
 simp(disch:=first|(simp;done)|omega|(simp only[Zaa,Zab,Ys4];omega)|rfl) [A.b225]
 rw[Yn8 hx hy]
 exact⟨rfl,Keeps.refl,rfl,rfl,rfl⟩
noncomputable def A.w235:=A.q Tryz.f235
noncomputable def A.lb235_0:=A.ql A.w235 0 []
noncomputable def A.b235:=(fun x0=>A.qb A.w235 [x0]) A.lb235_0
def A.k235:=@A.kk 235 21 [.tmp 2] A.b235 (by kernel_rfl) rfl
def Zfz{h:T O}{N:Nat}{v:V}{l:List Nat}(hs:Sl h N v (dg l))(hl:l.length<1152921504606846976):Fn A.C 235 [v] h N (fun v' h' N'=>Sl h' N' v' (dg (Zgs l))):=by
 intro w
 have hlen:=hs.len
 rw[Zaa]at hlen
 rw[Zae,A.k235 (by simp)]
 simp[A.b235,hlen]
 refine Zah [(3,3),(6,17)] (fun e r st=>e=.exit 0∧st=⟨h,N,[]⟩∧∃k,k≤l.length∧r.get 3=some (.int .i64 k)∧Zgs l=l.take k) (fun k r st=>st=⟨h,N,[]⟩∧k≤l.length∧r.get 3=some (.int .i64 k)∧Zgs (l.take k)=Zgs l) l.length ?_ ?_ ?_
 ·exact⟨rfl,Ys6 _,by simp,by simp⟩
 ·rintro k r _ hr hf ⟨rfl,hk,h3,ht⟩
  rw[Zai]
  cases k with
  |zero=>
   have:Zgs l=[]:=ht.symm
   simp[A.lb235_0,h3,hf,this]
   exact⟨0,by omega,rfl,.inl rfl⟩
  |succ k=>
   obtain⟨d,hd⟩:∃d,l[k]?=some d:=⟨_,Yta (by omega)⟩
   obtain⟨i,o,c,e,rw,q1,q2,q3,q4⟩:=hs.at (Za5 hd)
   have e1:l.take (k+1)=l.take k++[d]:=by rw[Yug,hd];rfl
   have k1:(0:Int)<(k:Int)+1:=by omega
   have k2:(k:Int)<(l.length:Int):=by omega
   by_cases h0:d=0
   ·subst h0
    rw[e1,Zop]at ht
    simp(disch:=first|(simp;done)|omega|(simp only[Zaa,Zab,Ys4];omega)|rfl) [A.lb235_0,h3,hr,hf,k1,k2,hlen,q1,q3,q4,Zad]
    exact⟨k,by omega,by omega,rfl,ht⟩
   ·rw[e1,Zoq h0]at ht
    have hz:((d:Int)==0)=false:=by simp;omega
    simp(disch:=first|(simp;done)|omega|(simp only[Zaa,Zab,Ys4];omega)|rfl) [A.lb235_0,h3,hr,hf,k1,k2,hlen,q1,q3,q4,Zad,hz]
    exact⟨k+1,hk,rfl,by rw[e1];exact ht.symm⟩
 ·rintro _ r _ hr ⟨rfl,rfl,k,hk,h3,ht⟩
  simp[hr,h3,Zb0,evOpt]
  obtain⟨v',e1,e2⟩:=Zgy (w:=[]) hs (lo:=0) (hi:=k) (Yvy _) (by rw[Zaa];exact hk) none (some (.int .i64 k)) (.inr ⟨rfl,rfl⟩) (.inl rfl)
  rw[e1]
  simp[Ret]
  refine⟨Keeps.refl,?_⟩
  rw[ht,show dg (l.take k)=(dg l).take k by simp[dg]]
  exact e2
end Go.Mx
