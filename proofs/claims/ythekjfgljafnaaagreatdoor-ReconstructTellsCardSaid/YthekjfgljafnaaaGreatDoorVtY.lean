/-The statement ReconstructTells: for all inputs the law returns true, and its arguments read behind the call as before. No condition beside the card's own.-/
import Derived.Test.YthekjfgljafnaaaGreatDoorCards
import Derived.Test.YthekjfgljafnaaaGreatDoorTie
import Derived.WalkKit
import Derived.ProofKit
import Derived.OpenShut
import Derived.Deep.DeepHandedRow
import Derived.Deep.DeepWitnessRowRef
import Derived.Lib.LaidTab
import Derived.Lib.LaidIn
import Derived.Carry
import Derived.ChangeArms
import Derived.Test.YthekjfgljafnaaaGreatDoorAwOk
import Derived.Deep.Slices
set_option linter.all false
namespace Go.Proofs.YthekjfgljafnaaaGreatDoor
open Go Go.ChangeShapes Go.WideShapes Go.ChangeAt Go.RowKit
open Go.Deep
set_option maxRecDepth 1000000
theorem own:ownKnob Tryz.prog.godebug=none:=by kernel_rfl
theorem laidOut:laidOutB Tryz.prog=true:=by kernel_rfl
theorem cells25:Tryz.prog.cellsOf 25=1:=by kernel_rfl
theorem cells37:Tryz.prog.cellsOf 37=1:=by kernel_rfl
theorem z_last:((begin Tryz.prog (fun _ _=>0) default).world.heap[9]?).bind Obj.row?=some ((((begin Tryz.prog (fun _ _=>0) default).world.heap[9]?).bind Obj.row?).getD (#[],0)):=by kernel_rfl
theorem globals_lt{W:World}(h:W.ShapedOpen Tryz.prog):10≤W.heap.size:=by
 obtain⟨cs,h1,_⟩:=h.1 9 _ _ (by rw[Go.Mx.A.globals];decide) z_last
 rcases Nat.lt_or_ge 9 W.heap.size with h2|h2
 ·omega
 ·rw[Array.getElem?_eq_none h2]at h1;cases h1
def p10Z:List Int:=[1,10,100,1000,10000,100000,1000000,10000000,100000000,1000000000,10000000000,100000000000,1000000000000,10000000000000,100000000000000,1000000000000000,10000000000000000,100000000000000000,1000000000000000000,10000000000000000000]
theorem z_p10:((begin Tryz.prog (fun _ _=>0) default).world.heap[5]?).bind Obj.row?=some ((Array.replicate 20 (.int .u64 0):Array Value),277):=by kernel_rfl
theorem g_p10:Tryz.prog.globalNamed "internal/strconv.uint64pow10" =some 5:=by kernel_rfl
theorem t_p10:(Tryz.prog.globals[5]?).map (·.type)=some 277:=by kernel_rfl
theorem c_p10:Tryz.prog.cellsOf 277=20:=by kernel_rfl
theorem c_u64:Tryz.prog.cellsOf 205=1:=by kernel_rfl
theorem f_p10:(Rows.reconstructTellsRow.laid.filter fun x=>x.2.handleName?.isNone).filter (fun x=>x.1== "internal/strconv.uint64pow10")=[("internal/strconv.uint64pow10",Lib.tabData .u64 p10Z)]:=by rfl
theorem tabs{W:World}(hl:laidMet Tryz.prog (Rows.reconstructTellsRow.laid.filter fun x=>x.2.handleName?.isNone) W)(hs:W.ShapedOpen Tryz.prog):Go.Mx.TabsIn Tryz.prog W Go.Mx.A.TB:=
 Go.Mx.tabs_of_laid (k:=.u64) (zs:=p10Z) g_p10 t_p10 Tryz.underlying277 Tryz.underlying205 c_u64 c_p10 f_p10 (by rw[Go.Mx.A.globals];decide) z_p10 hl hs
open Go.Mx in
theorem law_calls{H:Type}{enc:TypeId×Value→H}{W:World}{a0:Option Addr}{l0 c0 f0:Nat}{x0:DataW H×List MemPlace}(hW:10≤W.heap.size)(ht:TabsIn Tryz.prog W A.TB)(h0:DataW.trod enc Tryz.prog W 0 (fun _=>true) true f0 22 (Value.slice a0 l0 c0).cells.toList=some x0):
  Calls Tryz.prog 3 #[.slice a0 l0 c0] W fun e W'=>e=.returned (.bool true)∧RowKit.Below W.heap.size W W':=by
 obtain⟨m0,e0,ok0,la0,lb0⟩:=Go.Mx.open_mat Tryz.underlying22 Tryz.underlying25 Tryz.underlying37 cells25 cells37 (show DataW.trod enc Tryz.prog W 0 (fun _=>true) true f0 22 [Value.slice a0 l0 c0]=some x0 from h0)
 obtain⟨μ0,s0⟩:=Yl6 A.globals hW (tb:=A.TB) (by decide+kernel) ht
 obtain⟨μ1,S1,u0,s1,g1,r0,q0⟩:=s0.mat ok0
 have r0':=r0
 have q0':MtS S1.h S1.n u0 m0.rows:=q0
 have hP:P10 S1.h S1.n:=P10.keep (show P10 (Zti 10 A.TB).h (Zti 10 A.TB).n from ⟨by decide,Ylm rfl⟩) g1.keep
 exact Cx.calls (S:=S1) A.progOk A.xOk A.c3 A.c3 (fun st=>A.x0 (by decide)) (Ygh q0' hP la0 lb0) s1.hr s1.w (Za8.2 ⟨_,_,rfl,(e0▸r0'),by simp[VRs]⟩) fun μ z hz=>by simpa[VR]using hz
def lits:DataW Unit→List Value
 |.agg l=>l.filterMap fun d=>match d with
  |.lit (.int k n)=>some (.int k n)
  |_=>none
 |_=>[]
def lits2:DataW Unit→List Value
 |.agg l=>l.flatMap lits
 |_=>[]
noncomputable def laidWorld(os:Os):World:=
 let N:=(World.settled Tryz.prog os).heap.size
 let w0:=World.holding Tryz.prog os ⟨#[.cells #[.string ⟨#[118,97,108,117,101,32,111,117,116,32,111,102,32,114,97,110,103,101]⟩] 286,.cells #[.string ⟨#[105,110,118,97,108,105,100,32,115,121,110,116,97,120]⟩] 286],#[],[]⟩
 let put (h:Array Obj) (g:Nat) (cs:Array Value):Array Obj:=h.modify g fun
  |.cells _ t frozen=>.cells cs t frozen
  |o=>o
 let h8:=put w0.heap 8 (lits Rows.laid_math_bits_deBruijn32tab).toArray
 let h9:=put h8 9 (lits Rows.laid_math_bits_deBruijn64tab).toArray
 let h5:=put h9 5 (lits Rows.laid_internal_strconv_uint64pow10).toArray
 let h7:=put h5 7 (lits2 Rows.laid_unicode_utf8_acceptRanges).toArray
 let h4:=put h7 4 #[.iface 284 (.pointer (some ⟨N+0,0,none⟩))]
 let h3:=put h4 3 #[.iface 284 (.pointer (some ⟨N+1,0,none⟩))]
 let h6:=put h3 6 (lits Rows.laid_unicode_utf8_first).toArray
 {w0 with heap:=h6}
noncomputable abbrev N0:Nat:=(World.settled Tryz.prog default).heap.size
abbrev wit:Array Value:=#[.slice none 0 0]
theorem laid_met(os:Os):laidMet Tryz.prog Rows.reconstructTellsRow.laid ((laidWorld os).forCall (fun _ _=>0) ⟨#[],wit,[]⟩).memory:=
 (LaidIn.of_run [8,9,5,7,4,N0,3,N0+1,6] 8 (by kernel_rfl) (by kernel_rfl) (by kernel_rfl) (by kernel_rfl)).met
theorem witness_row(os:Os){H:Type}(enc:TypeId×Value→H):
  (OpenSpec.ofChange Rows.reconstructTellsSpec).preRow enc Tryz.prog Tryz.f3 Rows.reconstructTellsRow.domain false Rows.reconstructTellsRow.laid ((laidWorld os).forCall (fun _ _=>0) ⟨#[],wit,[]⟩).memory wit:=by
 have hw:(DataW.whole enc Tryz.prog ((laidWorld os).forCall (fun _ _=>0) ⟨#[],wit,[]⟩).memory Tryz.f3.params.toList Rows.reconstructTellsSpec.vars false wit.toList 8).map (fun x=>(x.1,x.2.1))=
   some ([.nil],[]):=by kernel_rfl
 obtain⟨⟨x1,x2,x3⟩,hx,hx1⟩:=Option.map_eq_some_iff.1 hw
 simp only[Prod.mk.injEq]at hx1
 obtain⟨rfl,rfl⟩:=hx1
 exact OpenSpec.preRow_of_cond 8 hx (by kernel_rfl) (fun k hk=>by cases hk) (by kernel_rfl) (laid_met os)
theorem lifted(os:Os)(started:os.Started)(H:Type)(enc:TypeId×Value→H)(F:Stop.Interp):
  ReturnsInHanded {} Tryz.checked os 3 .any ((OpenSpec.ofChange Rows.reconstructTellsSpec).preRow enc Tryz.prog Tryz.f3 Rows.reconstructTellsRow.domain false Rows.reconstructTellsRow.laid) (((OpenSpec.ofChange Rows.reconstructTellsSpec).at F).post enc Tryz.prog Tryz.f3 false true false false):=by
 refine returnsInHanded_of_row (C:=Tryz.checked) (s:=OpenSpec.ofChange Rows.reconstructTellsSpec) own started (by kernel_rfl) Tryz.func3
  (witness_row_atRef (enc:=enc) (C:=Tryz.checked) false (laidWorld os) wit rfl (by kernel_rfl) (by kernel_rfl) (by kernel_rfl) (witness_row os enc)) ?_
 intro W base args ds gs before hval0 hW hX1 hX2 hX3 hX4 hsh hX5
 have hval:∀(j:Nat) t v,Tryz.f3.params[j]?=some t→args[j]?=some v→Value.okWide Tryz.prog W .any base t v:=hval0
 have hW':=hW
 obtain⟨p0,q,hA0,hV0,rfl,_,_⟩:=hW
 have hA:DataW.TrodAll enc Tryz.prog W 0 (fun _=>true) true Tryz.f3.params.toList args.toList ds p0:=hA0
 rw[Tryz.params3]at hA hval
 obtain⟨v0,d0,rfl,rfl,h0⟩:=trodAll_one hA
 obtain⟨rfl,rfl⟩:=trodVars_none hV0
 have h0k:=h0
 obtain⟨a0,lt0,ct0,rfl⟩:=okWide_slice Tryz.underlying22 (hval 0 22 v0 rfl rfl)
 obtain⟨fuel0,hf0⟩:=h0
 clear hA0 hV0 hval0
 simp only[List.append_nil]at hW'
 have hlt:∀x∈p0,x.block<W.heap.size:=fun x hx=>by simpa using hW'.lt x hx
 refine(law_calls  (globals_lt hsh) (tabs (laidMetH_iff.1 hX4).1 hsh) hf0).mono ?_
 rintro e W' ⟨rfl,bel⟩
 have e1:((OpenSpec.ofChange Rows.reconstructTellsSpec).at F).fn H ([d0]++[])={results:=[.lit (.bool true)],args:=[d0]}:=rfl
 refine⟨_,rfl,_,_,_,[],p0,[],hW',?_,?_,?_,bel.frame _,fun h=>by cases h⟩
 ·rw[e1];exact trodAll_mk1 (shut_bool Tryz.underlying4 true)
 ·rw[e1];exact trodAll_mk1 (Below.trod laidOut (by kernel_rfl) (of_decide_eq_true (by kernel_rfl)) h0k bel fun x hx=>hlt x (by simp[hx]))
 ·rw[e1];rfl
end Go.Proofs.YthekjfgljafnaaaGreatDoor
