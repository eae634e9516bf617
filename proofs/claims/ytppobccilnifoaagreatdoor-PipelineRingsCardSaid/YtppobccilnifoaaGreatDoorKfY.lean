/-
  The statement PipelineRings: for all numbers and calls the law returns true, and its arguments read behind the call as before. No condition beside the card's own.
-/
import Derived.Test.YtppobccilnifoaaGreatDoorCards
import Derived.Test.YtppobccilnifoaaGreatDoorTie
import Derived.WalkKit
import Derived.ProofKit
import Derived.OpenShut
import Derived.Deep.DeepHandedRow
import Derived.Deep.DeepWitnessRowRef
import Derived.Lib.LaidTab
import Derived.Lib.LaidIn
import Derived.Carry
import Derived.ChangeArms
import Derived.Test.YtppobccilnifoaaGreatDoorAwOk
import Derived.Deep.Slices
set_option linter.all false
namespace Go.Proofs.YtppobccilnifoaaGreatDoor
open Go Go.ChangeShapes Go.WideShapes Go.ChangeAt Go.RowKit
open Go.Deep
set_option maxRecDepth 1000000
theorem own:ownKnob Tryz.prog.godebug=none:=by kernel_rfl
theorem laidOut:laidOutB Tryz.prog=true:=by kernel_rfl
theorem cells47:Tryz.prog.cellsOf 47=1:=by kernel_rfl
theorem cells3:Tryz.prog.cellsOf 3=1:=by kernel_rfl
theorem cells66:Tryz.prog.cellsOf 66=1:=by kernel_rfl
theorem cells68:Tryz.prog.cellsOf 68=3:=by kernel_rfl
theorem cells94:Tryz.prog.cellsOf 94=5:=by kernel_rfl
theorem zero9:((begin Tryz.prog (fun _ _=>0) default).world.heap[9]?).bind Obj.row?=some ((((begin Tryz.prog (fun _ _=>0) default).world.heap[9]?).bind Obj.row?).getD (#[],0)):=by kernel_rfl
theorem globals_lt{W:World}(h:W.ShapedOpen Tryz.prog):10≤W.heap.size:=by
 obtain⟨cs,h1,_⟩:=h.1 9 _ _ (by rw[Go.Mx.A.globals];decide) zero9
 rcases Nat.lt_or_ge 9 W.heap.size with h2|h2
 ·omega
 ·rw[Array.getElem?_eq_none h2]at h1;cases h1
theorem add_add(a:Addr)(x y:Nat):(a.add x).add y=a.add (x+y):=by
 unfold Addr.add
 by_cases hx:x=0
 ·subst hx;simp
 ·by_cases hy:y=0
  ·subst hy;simp[hx]
  ·simp[hx,hy,Nat.add_assoc]
open Go.Mx in
theorem open_inp{H:Type}{enc:TypeId×Value→H}{W:World}{fuel:Nat}{c:Value}{x:DataW H×List MemPlace}
  (h:DataW.trod enc Tryz.prog W 0 (fun _=>true) true fuel 66 [c]=some x):∃i:InpV,c=i.val∧i.ok W∧i.strs.length<9223372036854775808:=by
 rcases open_slice1 Tryz.underlying66 cells47 h with⟨hc,_⟩|⟨a,len,cap,m,n,Vf,D,Pl,hc,_,hl,hmx,hm,_,hx⟩
 ·have hc':c=.slice none 0 0:=by simpa using hc
  exact⟨.nil,hc',trivial,by simp[InpV.strs]⟩
 ·simp only[if_true]at hm
  subst hm
  have hc':c=.slice (some a) len m:=by simpa using hc
  rcases Nat.eq_zero_or_pos m with h0|h0
  ·subst h0
   have:len=0:=by omega
   subst this
   exact⟨.emp a,hc',trivial,by simp[InpV.strs]⟩
  ·refine⟨.sl a len m fun i=>match Vf i with|.string s=>s|_=>⟨#[]⟩,hc',⟨hl,h0,fun i hi=>?_⟩,by simp only[InpV.strs,List.length_map,List.length_range];unfold maxLen at hmx;omega⟩
   obtain⟨g1,g2⟩:=hx i hi
   obtain⟨s,e0,_⟩:=DataW.trod_string Tryz.underlying47 g2
   simp only[List.cons.injEq,and_true]at e0
   rw[g1]
   simp only[e0]
open Go.Mx in
theorem open_rec{H:Type}{enc:TypeId×Value→H}{W:World}{fuel:Nat}{cs:List Value}{x:DataW H×List MemPlace}
  (h:DataW.trod enc Tryz.prog W 0 (fun _=>true) true fuel 68 cs=some x):∃s:RcV,(∀t,t<3→cs[t]?=some (s.cell t))∧s.vs.ok W∧s.vs.strs.length<9223372036854775808:=by
 obtain⟨xs,n,_,rfl,hl,hlen,hf⟩:=DataW.trod_struct Tryz.underlying68 h
 rw[cells68]at hl
 match cs,hl with
 |[c0,c1,c2],_=>
  match xs,hlen with
  |[y0,y1,y2],_=>
   have h0:=hf 0 _ rfl
   have h1:=hf 1 _ rfl
   have h2:=hf 2 _ rfl
   simp[cells3,cells66]at h0 h1 h2
   obtain⟨m0,e0,_⟩:=DataW.trod_int Tryz.underlying3 h0
   obtain⟨m1,e1,_⟩:=DataW.trod_int Tryz.underlying3 h1
   obtain⟨i2,e2,ok⟩:=open_inp h2
   simp only[List.cons.injEq,and_true]at e0 e1
   refine⟨⟨m0,m1,i2⟩,fun t ht=>?_,ok⟩
   have:t=0∨t=1∨t=2:=by omega
   rcases this with rfl|rfl|rfl<;>simp[RcV.cell,e0,e1,e2]
open Go.Mx in
theorem open_call{H:Type}{enc:TypeId×Value→H}{W:World}{fuel:Nat}{cs:List Value}{x:DataW H×List MemPlace}
  (h:DataW.trod enc Tryz.prog W 0 (fun _=>true) true fuel 94 cs=some x):∃s:ClV,(∀t,t<5→cs[t]?=some (s.cell t))∧s.vs.ok W∧s.vs.strs.length<9223372036854775808:=by
 obtain⟨xs,n,_,rfl,hl,hlen,hf⟩:=DataW.trod_struct Tryz.underlying94 h
 rw[cells94]at hl
 match cs,hl with
 |[c0,c1,c2,c3,c4],_=>
  match xs,hlen with
  |[y0,y1,y2],_=>
   have h0:=hf 0 _ rfl
   have h1:=hf 1 _ rfl
   have h2:=hf 2 _ rfl
   simp[cells3,cells68]at h0 h1 h2
   obtain⟨m0,e0,_⟩:=DataW.trod_int Tryz.underlying3 h0
   obtain⟨r,e1,ok⟩:=open_rec h1
   obtain⟨m2,e2,_⟩:=DataW.trod_int Tryz.underlying3 h2
   simp only[List.cons.injEq,and_true]at e0 e2
   have f0:=e1 0 (by decide)
   have f1:=e1 1 (by decide)
   have f2:=e1 2 (by decide)
   simp[RcV.cell]at f0 f1 f2
   refine⟨⟨m0,r.f,r.t,r.vs,m2⟩,fun t ht=>?_,ok⟩
   have:t=0∨t=1∨t=2∨t=3∨t=4:=by omega
   rcases this with rfl|rfl|rfl|rfl|rfl<;>simp[ClV.cell,e0,e2,f0,f1,f2]
open Go.Mx in
theorem rings_calls{H:Type}{enc:TypeId×Value→H}{W:World}{a:Option Addr}{len cap fuel:Nat}{x:DataW H×List MemPlace}{b:Int}(hW:10≤W.heap.size)
  (h:DataW.trod enc Tryz.prog W 0 (fun _=>true) true fuel 92 (Value.slice a len cap).cells.toList=some x):
  Calls Tryz.prog 6 #[.int .i64 b,.slice a len cap] W fun e W'=>e=.returned (.bool true)∧RowKit.Below W.heap.size W W':=by
 have hG:Tryz.prog.globals.size≤W.heap.size:=by rw[A.globals];exact hW
 have hret:∀(μ:Mu) z,VR μ (.bool true) z→z=.bool true:=fun μ z hz=>by simpa[VR]using hz
 have hnone:∀(args:List V) (st:St),A.C.x (.func 6 [] []) args st=none:=fun args st=>A.x0 (by decide)
 have vrs:∀(μ:Mu) (v:V) (y:Value),VR μ v y→VRs μ [.int .i64 b,v] [.int .i64 b,y]:=fun μ v y hv=>
  VRs_cons.2 ⟨_,_,rfl,by simp[VR],VRs_cons.2 ⟨_,[],rfl,hv,by simp[VRs]⟩⟩
 rcases open_slice Tryz.underlying92 h with⟨hc,_⟩|⟨a',len',cap',m,n,D,Pl,hc,_,hl,hmx,hm,_,hx⟩
 ·have hc':Value.slice a len cap=.slice none 0 0:=by simpa[Value.cells]using hc
  rw[hc']
  exact Cx.calls (S:=base Tryz.prog.globals.size) A.progOk A.xOk A.c6 A.c6 (hnone _) (rings_fn (l:=[]) ⟨[],Sn.nil,rfl,fun j s hs=>by simp at hs⟩ (by simp) (fun s hs=>by simp at hs)) (base_hrel hG) rfl (vrs _ _ _ (by simp[VR])) hret
 ·have hc':Value.slice a len cap=.slice (some a') len' cap':=by simpa[Value.cells]using hc
  rw[hc']
  simp only[if_true]at hm
  subst hm
  rw[cells94]at hx
  rcases Nat.eq_zero_or_pos m with h0|h0
  ·subst h0
   have:len'=0:=by omega
   subst this
   exact Cx.calls (S:=base Tryz.prog.globals.size) A.progOk A.xOk A.c6 A.c6 (hnone _) (rings_fn (l:=[]) (v:=.empty) ⟨[],.inl ⟨rfl,.inr rfl⟩,rfl,fun j s hs=>by simp at hs⟩ (by simp) (fun s hs=>by simp at hs)) (base_hrel hG) rfl (vrs _ _ _ (by simp[VR])) hret
  ·have hst:∀i,∃s:ClV,i<m→(∀t,t<5→W.cell? (a'.add (i*5+t))=some (s.cell t))∧s.vs.ok W∧s.vs.strs.length<9223372036854775808:=fun i=>by
    by_cases hi:i<m
    ·obtain⟨cs',g1,g2⟩:=hx i hi
     obtain⟨s,q1,q2⟩:=open_call g2
     obtain⟨_,_,g3⟩:=World.cells?_some g1
     exact⟨s,fun _=>⟨fun t ht=>by rw[←add_add,g3 t ht];exact q1 t ht,q2⟩⟩
    ·exact⟨⟨0,0,0,.nil,0⟩,fun h=>absurd h hi⟩
   obtain⟨F,hF⟩:=Classical.axiomOfChoice hst
   obtain⟨S,μ,v,q1,q2,q3,q4⟩:=cls_hrel hG (F:=F) hl h0 (fun j hj=>by
    have:=(hF (j/5) (by omega)).1 (j%5) (Nat.mod_lt _ (by decide))
    rw[show j/5*5+j%5=j by omega]at this
    exact this) (fun i hi=>(hF i hi).2.1)
   refine Cx.calls (S:=S) A.progOk A.xOk A.c6 A.c6 (hnone _) (rings_fn q4 (by simp only[List.length_map,List.length_range];unfold maxLen at hmx;omega) (fun s hs=>?_)) q1 q2 (vrs _ _ _ q3) hret
   obtain⟨i,hi,rfl⟩:=List.mem_map.1 hs
   have hi':i<m:=by have:=List.mem_range.1 hi;omega
   exact(hF i hi').2.2
def lits:DataW Unit→List Value
 |.agg l=>l.filterMap fun d=>match d with
  |.lit (.int k n)=>some (.int k n)
  |_=>none
 |_=>[]
def lits2:DataW Unit→List Value
 |.agg l=>l.flatMap lits
 |_=>[]
noncomputable def laidWorld(os:Os):World:=
 let N:=(World.settled Tryz.prog os).heap.size
 let w0:=World.holding Tryz.prog os ⟨#[.cells #[.string ⟨#[105,110,118,97,108,105,100,32,115,121,110,116,97,120]⟩] 375,.cells #[.string ⟨#[118,97,108,117,101,32,111,117,116,32,111,102,32,114,97,110,103,101]⟩] 375],#[],[]⟩
 let put (h:Array Obj) (g:Nat) (cs:Array Value):Array Obj:=h.modify g fun
  |.cells _ t frozen=>.cells cs t frozen
  |o=>o
 let h0:=put (put w0.heap 3 #[.iface 373 (.pointer (some ⟨N,0,none⟩))]) 4 #[.iface 373 (.pointer (some ⟨N+1,0,none⟩))]
 let h1:=put h0 5 (lits Rows.laid_internal_strconv_uint64pow10).toArray
 let h2:=put h1 6 (lits Rows.laid_unicode_utf8_first).toArray
 let h3:=put h2 7 (lits2 Rows.laid_unicode_utf8_acceptRanges).toArray
 let h4:=put h3 8 (lits Rows.laid_math_bits_deBruijn32tab).toArray
 let h5:=put h4 9 (lits Rows.laid_math_bits_deBruijn64tab).toArray
 {w0 with heap:=h5}
noncomputable abbrev N0:Nat:=(World.settled Tryz.prog default).heap.size
abbrev wit:Array Value:=#[.int .i64 0,.slice none 0 0]
theorem laid_met(os:Os):laidMet Tryz.prog Rows.pipelineRingsRow.laid ((laidWorld os).forCall (fun _ _=>0) ⟨#[],wit,[]⟩).memory:=
 (LaidIn.of_run [8,9,5,7,4,N0+1,3,N0,6] 8 (by kernel_rfl) (by kernel_rfl) (by kernel_rfl) (by kernel_rfl)).met
theorem witness_row(os:Os){H:Type}(enc:TypeId×Value→H):
  (OpenSpec.ofChange Rows.pipelineRingsSpec).preRow enc Tryz.prog Tryz.f6 Rows.pipelineRingsRow.domain false Rows.pipelineRingsRow.laid ((laidWorld os).forCall (fun _ _=>0) ⟨#[],wit,[]⟩).memory wit:=by
 have hw:(DataW.whole enc Tryz.prog ((laidWorld os).forCall (fun _ _=>0) ⟨#[],wit,[]⟩).memory Tryz.f6.params.toList Rows.pipelineRingsSpec.vars false wit.toList 8).map (fun x=>(x.1,x.2.1))=
   some ([.lit (.int .i64 0),.nil],[]):=by kernel_rfl
 obtain⟨⟨x1,x2,x3⟩,hx,hx1⟩:=Option.map_eq_some_iff.1 hw
 simp only[Prod.mk.injEq]at hx1
 obtain⟨rfl,rfl⟩:=hx1
 exact OpenSpec.preRow_of_cond 8 hx (by kernel_rfl) (fun k hk=>by cases hk) (by kernel_rfl) (laid_met os)
theorem lifted(os:Os)(started:os.Started)(H:Type)(enc:TypeId×Value→H)(F:Stop.Interp):
  ReturnsInHanded {} Tryz.checked os 6 .any ((OpenSpec.ofChange Rows.pipelineRingsSpec).preRow enc Tryz.prog Tryz.f6 Rows.pipelineRingsRow.domain false Rows.pipelineRingsRow.laid) (((OpenSpec.ofChange Rows.pipelineRingsSpec).at F).post enc Tryz.prog Tryz.f6 false true false false):=by
 refine returnsInHanded_of_row (C:=Tryz.checked) (s:=OpenSpec.ofChange Rows.pipelineRingsSpec) own started (by kernel_rfl) Tryz.func6
  (witness_row_atRef (enc:=enc) (C:=Tryz.checked) false (laidWorld os) wit rfl (by kernel_rfl) (by kernel_rfl) (by kernel_rfl) (witness_row os enc)) ?_
 intro W base args ds gs before hval0 hW _ _ _ _ hsh _
 have hval:∀(j:Nat) t v,Tryz.f6.params[j]?=some t→args[j]?=some v→Value.okWide Tryz.prog W .any base t v:=hval0
 have hW':=hW
 obtain⟨p,q,hA0,hV0,rfl,_,_⟩:=hW
 have hA:DataW.TrodAll enc Tryz.prog W 0 (fun _=>true) true Tryz.f6.params.toList args.toList ds p:=hA0
 rw[Tryz.params6]at hA hval
 obtain⟨v0,v1,d0,d1,p0,p1,rfl,rfl,rfl,h0,h1⟩:=trodAll_two hA
 obtain⟨rfl,rfl⟩:=trodVars_none hV0
 have h1k:=h1
 obtain⟨n0,rfl⟩:=okWide_int Tryz.underlying3 (hval 0 3 v0 rfl rfl)
 obtain⟨a0,lt,ct,rfl⟩:=okWide_slice Tryz.underlying92 (hval 1 92 v1 rfl rfl)
 obtain⟨fuel,hf⟩:=h1
 clear hA0 hV0 hval0
 simp only[List.append_nil]at hW'
 have hlt:∀x∈p0++p1,x.block<W.heap.size:=fun x hx=>by simpa using hW'.lt x hx
 refine(rings_calls (b:=n0) (globals_lt hsh) hf).mono ?_
 rintro e W' ⟨rfl,bel⟩
 have e1:((OpenSpec.ofChange Rows.pipelineRingsSpec).at F).fn H ([d0,d1]++[])={results:=[.lit (.bool true)],args:=[d0,d1]}:=rfl
 refine⟨_,rfl,_,_,_,[],p0++p1,[],hW',?_,?_,?_,bel.frame _,fun h=>by cases h⟩
 ·rw[e1];exact trodAll_mk1 (shut_bool Tryz.underlying4 true)
 ·rw[e1];exact trodAll_mk2 (Below.trod laidOut (by kernel_rfl) (of_decide_eq_true (by kernel_rfl)) h0 bel fun x hx=>hlt x (by simp[hx])) (Below.trod laidOut (by kernel_rfl) (of_decide_eq_true (by kernel_rfl)) h1k bel fun x hx=>hlt x (by simp[hx]))
 ·rw[e1];rfl
end Go.Proofs.YtppobccilnifoaaGreatDoor
