/-The statement LoopPolys: for all inputs the law returns true, and its arguments read behind the call as before. No condition beside the card's own.-/
import Derived.Test.YtdlikflhcjmkeaaGreatDoorCards
import Derived.Test.YtdlikflhcjmkeaaGreatDoorTie
import Derived.WalkKit
import Derived.ProofKit
import Derived.OpenShut
import Derived.Deep.DeepHandedRow
import Derived.Deep.DeepWitnessRowRef
import Derived.Lib.LaidTab
import Derived.Lib.LaidIn
import Derived.Carry
import Derived.ChangeArms
import Derived.Test.YtdlikflhcjmkeaaGreatDoorLqJ
import Derived.Deep.Slices
set_option linter.all false
namespace Go.Proofs.YtdlikflhcjmkeaaGreatDoor
open Go Go.ChangeShapes Go.WideShapes Go.ChangeAt Go.RowKit
open Go.Deep
set_option maxRecDepth 1000000
theorem own:ownKnob Tryz.prog.godebug=none:=by kernel_rfl
theorem laidOut:laidOutB Tryz.prog=true:=by kernel_rfl
theorem cells30:Tryz.prog.cellsOf 30=1:=by kernel_rfl
theorem z_last:((begin Tryz.prog (fun _ _=>0) default).world.heap[10]?).bind Obj.row?=some ((((begin Tryz.prog (fun _ _=>0) default).world.heap[10]?).bind Obj.row?).getD (#[],0)):=by kernel_rfl
theorem globals_lt{W:World}(h:W.ShapedOpen Tryz.prog):11≤W.heap.size:=by
 obtain⟨cs,h1,_⟩:=h.1 10 _ _ (by rw[Go.Mx.A.globals];decide) z_last
 rcases Nat.lt_or_ge 10 W.heap.size with h2|h2
 ·omega
 ·rw[Array.getElem?_eq_none h2]at h1;cases h1
def p10Z:List Int:=[1,10,100,1000,10000,100000,1000000,10000000,100000000,1000000000,10000000000,100000000000,1000000000000,10000000000000,100000000000000,1000000000000000,10000000000000000,100000000000000000,1000000000000000000,10000000000000000000]
theorem z_p10:((begin Tryz.prog (fun _ _=>0) default).world.heap[6]?).bind Obj.row?=some ((Array.replicate 20 (.int .u64 0):Array Value),313):=by kernel_rfl
theorem g_p10:Tryz.prog.globalNamed "internal/strconv.uint64pow10" =some 6:=by kernel_rfl
theorem t_p10:(Tryz.prog.globals[6]?).map (·.type)=some 313:=by kernel_rfl
theorem c_p10:Tryz.prog.cellsOf 313=20:=by kernel_rfl
theorem c_u64:Tryz.prog.cellsOf 211=1:=by kernel_rfl
theorem f_p10:(Rows.loopPolysRow.laid.filter fun x=>x.2.handleName?.isNone).filter (fun x=>x.1== "internal/strconv.uint64pow10")=[("internal/strconv.uint64pow10",Lib.tabData .u64 p10Z)]:=by rfl
theorem tabs{W:World}(hl:laidMet Tryz.prog (Rows.loopPolysRow.laid.filter fun x=>x.2.handleName?.isNone) W)(hs:W.ShapedOpen Tryz.prog):Go.Mx.TabsIn Tryz.prog W Go.Mx.A.TB:=
 Go.Mx.tabs_of_laid (k:=.u64) (zs:=p10Z) g_p10 t_p10 Tryz.underlying313 Tryz.underlying211 c_u64 c_p10 f_p10 (by rw[Go.Mx.A.globals];decide) z_p10 hl hs
open Go.Mx in
theorem law_calls{H:Type}{enc:TypeId×Value→H}{W:World}{a0:Option Addr}{l0 c0 f0:Nat}{x0:DataW H×List MemPlace}{a1:Option Addr}{l1 c1 f1:Nat}{x1:DataW H×List MemPlace}{b2:ByteArray}{f2:Nat}{x2:DataW H×List MemPlace}(hW:11≤W.heap.size)(ht:TabsIn Tryz.prog W A.TB)(h0:DataW.trod enc Tryz.prog W 0 (fun _=>true) true f0 22 (Value.slice a0 l0 c0).cells.toList=some x0)(h1:DataW.trod enc Tryz.prog W 0 (fun _=>true) true f1 22 (Value.slice a1 l1 c1).cells.toList=some x1)(h2:DataW.trod enc Tryz.prog W 0 (fun _=>true) true f2 30 (Value.string b2).cells.toList=some x2):
  Calls Tryz.prog 6 #[.slice a0 l0 c0,.slice a1 l1 c1,.string b2] W fun e W'=>e=.returned (.bool true)∧RowKit.Below W.heap.size W W':=by
 obtain⟨m0,e0,ok0,la0⟩:=Go.Mx.open_list Tryz.underlying22 Tryz.underlying30 cells30 (show DataW.trod enc Tryz.prog W 0 (fun _=>true) true f0 22 [Value.slice a0 l0 c0]=some x0 from h0)
 obtain⟨m1,e1,ok1,la1⟩:=Go.Mx.open_list Tryz.underlying22 Tryz.underlying30 cells30 (show DataW.trod enc Tryz.prog W 0 (fun _=>true) true f1 22 [Value.slice a1 l1 c1]=some x1 from h1)
 have lx2:=Go.Mx.open_strb Tryz.underlying30 (show DataW.trod enc Tryz.prog W 0 (fun _=>true) true f2 30 [Value.string b2]=some x2 from h2)
 obtain⟨μ0,s0⟩:=Yh2 A.globals hW (tb:=A.TB) (by decide+kernel) ht
 obtain⟨μ1,S1,u0,s1,g1,r0,q0⟩:=s0.list ok0
 obtain⟨μ2,S2,u1,s2,g2,r1,q1⟩:=s1.list ok1
 have r0':=VR.mono g2.mu _ _ r0
 have q0':=q0.keep g2.keep
 have r1':=r1
 have q1':=q1
 have hP:P10 S2.h S2.n:=P10.keep (show P10 (Zpo 11 A.TB).h (Zpo 11 A.TB).n from ⟨by decide,Yhi rfl⟩) (g1.trans g2).keep
 exact Cx.calls (S:=S2) A.progOk A.xOk A.c6 A.c6 (fun st=>A.x0 (by decide)) (Yvo q0' q1' hP la0 la1 lx2) s2.hr s2.w (Zaw.2 ⟨_,_,rfl,(e0▸r0'),Zaw.2 ⟨_,_,rfl,(e1▸r1'),Zaw.2 ⟨_,_,rfl,(show VR μ2 (.str b2.data.toList) (.string b2) from by simp[VR]),by simp[VRs]⟩⟩⟩) fun μ z hz=>by simpa[VR]using hz
def lits:DataW Unit→List Value
 |.agg l=>l.filterMap fun d=>match d with
  |.lit (.int k n)=>some (.int k n)
  |_=>none
 |_=>[]
def lits2:DataW Unit→List Value
 |.agg l=>l.flatMap lits
 |_=>[]
noncomputable def laidWorld(os:Os):World:=
 let N:=(World.settled Tryz.prog os).heap.size
 let w0:=World.holding Tryz.prog os ⟨#[.cells #[.string ⟨#[118,97,108,117,101,32,111,117,116,32,111,102,32,114,97,110,103,101]⟩] 321,.cells #[.string ⟨#[105,110,118,97,108,105,100,32,115,121,110,116,97,120]⟩] 321],#[],[]⟩
 let put (h:Array Obj) (g:Nat) (cs:Array Value):Array Obj:=h.modify g fun
  |.cells _ t frozen=>.cells cs t frozen
  |o=>o
 let h9:=put w0.heap 9 (lits Rows.laid_math_bits_deBruijn32tab).toArray
 let h10:=put h9 10 (lits Rows.laid_math_bits_deBruijn64tab).toArray
 let h6:=put h10 6 (lits Rows.laid_internal_strconv_uint64pow10).toArray
 let h8:=put h6 8 (lits2 Rows.laid_unicode_utf8_acceptRanges).toArray
 let h5:=put h8 5 #[.iface 319 (.pointer (some ⟨N+0,0,none⟩))]
 let h4:=put h5 4 #[.iface 319 (.pointer (some ⟨N+1,0,none⟩))]
 let h7:=put h4 7 (lits Rows.laid_unicode_utf8_first).toArray
 {w0 with heap:=h7}
noncomputable abbrev N0:Nat:=(World.settled Tryz.prog default).heap.size
abbrev wit:Array Value:=#[.slice none 0 0,.slice none 0 0,.string ⟨#[]⟩]
theorem laid_met(os:Os):laidMet Tryz.prog Rows.loopPolysRow.laid ((laidWorld os).forCall (fun _ _=>0) ⟨#[],wit,[]⟩).memory:=
 (LaidIn.of_run [9,10,6,8,5,N0,4,N0+1,7] 8 (by kernel_rfl) (by kernel_rfl) (by kernel_rfl) (by kernel_rfl)).met
theorem witness_row(os:Os){H:Type}(enc:TypeId×Value→H):
  (OpenSpec.ofChange Rows.loopPolysSpec).preRow enc Tryz.prog Tryz.f6 Rows.loopPolysRow.domain false Rows.loopPolysRow.laid ((laidWorld os).forCall (fun _ _=>0) ⟨#[],wit,[]⟩).memory wit:=by
 have hw:(DataW.whole enc Tryz.prog ((laidWorld os).forCall (fun _ _=>0) ⟨#[],wit,[]⟩).memory Tryz.f6.params.toList Rows.loopPolysSpec.vars false wit.toList 8).map (fun x=>(x.1,x.2.1))=
   some ([.nil,.nil,.lit (.string [])],[]):=by kernel_rfl
 obtain⟨⟨x1,x2,x3⟩,hx,hx1⟩:=Option.map_eq_some_iff.1 hw
 simp only[Prod.mk.injEq]at hx1
 obtain⟨rfl,rfl⟩:=hx1
 exact OpenSpec.preRow_of_cond 8 hx (by kernel_rfl) (fun k hk=>by cases hk) (by kernel_rfl) (laid_met os)
theorem lifted(os:Os)(started:os.Started)(H:Type)(enc:TypeId×Value→H)(F:Stop.Interp):
  ReturnsInHanded {} Tryz.checked os 6 .any ((OpenSpec.ofChange Rows.loopPolysSpec).preRow enc Tryz.prog Tryz.f6 Rows.loopPolysRow.domain false Rows.loopPolysRow.laid) (((OpenSpec.ofChange Rows.loopPolysSpec).at F).post enc Tryz.prog Tryz.f6 false true false false):=by
 refine returnsInHanded_of_row (C:=Tryz.checked) (s:=OpenSpec.ofChange Rows.loopPolysSpec) own started (by kernel_rfl) Tryz.func6
  (witness_row_atRef (enc:=enc) (C:=Tryz.checked) false (laidWorld os) wit rfl (by kernel_rfl) (by kernel_rfl) (by kernel_rfl) (witness_row os enc)) ?_
 intro W base args ds gs before hval0 hW hX1 hX2 hX3 hX4 hsh hX5
 have hval:∀(j:Nat) t v,Tryz.f6.params[j]?=some t→args[j]?=some v→Value.okWide Tryz.prog W .any base t v:=hval0
 have hW':=hW
 obtain⟨p,q,hA0,hV0,rfl,_,_⟩:=hW
 have hA:DataW.TrodAll enc Tryz.prog W 0 (fun _=>true) true Tryz.f6.params.toList args.toList ds p:=hA0
 rw[Tryz.params6]at hA hval
 obtain⟨v0,v1,v2,d0,d1,d2,p0,p1,p2,rfl,rfl,rfl,h0,h1,h2⟩:=trodAll_three hA
 obtain⟨rfl,rfl⟩:=trodVars_none hV0
 have h0k:=h0
 obtain⟨a0,lt0,ct0,rfl⟩:=okWide_slice Tryz.underlying22 (hval 0 22 v0 rfl rfl)
 obtain⟨fuel0,hf0⟩:=h0
 have h1k:=h1
 obtain⟨a1,lt1,ct1,rfl⟩:=okWide_slice Tryz.underlying22 (hval 1 22 v1 rfl rfl)
 obtain⟨fuel1,hf1⟩:=h1
 have h2k:=h2
 obtain⟨n2,rfl⟩:=okWide_string Tryz.underlying30 (hval 2 30 v2 rfl rfl)
 obtain⟨fuel2,hf2⟩:=h2
 clear hA0 hV0 hval0
 simp only[List.append_nil]at hW'
 have hlt:∀x∈p0++p1++p2,x.block<W.heap.size:=fun x hx=>by simpa using hW'.lt x hx
 refine(law_calls (b2:=n2) (globals_lt hsh) (tabs (laidMetH_iff.1 hX4).1 hsh) hf0 hf1 hf2).mono ?_
 rintro e W' ⟨rfl,bel⟩
 have e1:((OpenSpec.ofChange Rows.loopPolysSpec).at F).fn H ([d0,d1,d2]++[])={results:=[.lit (.bool true)],args:=[d0,d1,d2]}:=rfl
 refine⟨_,rfl,_,_,_,[],p0++p1++p2,[],hW',?_,?_,?_,bel.frame _,fun h=>by cases h⟩
 ·rw[e1];exact trodAll_mk1 (shut_bool Tryz.underlying4 true)
 ·rw[e1,List.append_assoc];exact trodAll_mk3 (Below.trod laidOut (by kernel_rfl) (of_decide_eq_true (by kernel_rfl)) h0k bel fun x hx=>hlt x (by simp[hx])) (Below.trod laidOut (by kernel_rfl) (of_decide_eq_true (by kernel_rfl)) h1k bel fun x hx=>hlt x (by simp[hx])) (Below.trod laidOut (by kernel_rfl) (of_decide_eq_true (by kernel_rfl)) h2k bel fun x hx=>hlt x (by simp[hx]))
 ·rw[e1];rfl
end Go.Proofs.YtdlikflhcjmkeaaGreatDoor
