/-
  The statement ReconstructPokes: for all inputs the law returns true, and its arguments read behind the call as before. No condition beside the card's own.
-/
import Derived.Test.YtlbophlgohokkaaGreatDoorCards
import Derived.Test.YtlbophlgohokkaaGreatDoorTie
import Derived.WalkKit
import Derived.ProofKit
import Derived.OpenShut
import Derived.Deep.DeepHandedRow
import Derived.Deep.DeepWitnessRowRef
import Derived.Lib.LaidTab
import Derived.Lib.LaidIn
import Derived.Carry
import Derived.ChangeArms
import Derived.SizedLaws
import Derived.Test.YtlbophlgohokkaaGreatDoorAwOk
import Derived.Test.YtlbophlgohokkaaGreatDoorPkK
import Derived.Deep.Slices
set_option linter.all false
namespace Go.Proofs.YtlbophlgohokkaaGreatDoor
open Go Go.ChangeShapes Go.WideShapes Go.ChangeAt Go.RowKit
open Go.Deep
set_option maxRecDepth 1000000
theorem own:ownKnob Tryz.prog.godebug=none:=by kernel_rfl
theorem laidOut:laidOutB Tryz.prog=true:=by kernel_rfl
theorem A2:Tryz.prog.cellsOf 23=1:=by kernel_rfl
theorem A3:Tryz.prog.cellsOf 36=1:=by kernel_rfl
theorem FB:Tryz.prog.cellsOf 3=1:=by kernel_rfl
theorem A4:Tryz.prog.cellsOf 90=3:=by kernel_rfl
theorem dK:Tryz.prog.bytesOf 90=48:=by kernel_rfl
theorem FC:((begin Tryz.prog (fun _ _=>0) default).world.heap[9]?).bind Obj.row?=some ((((begin Tryz.prog (fun _ _=>0) default).world.heap[9]?).bind Obj.row?).getD (#[],0)):=by kernel_rfl
theorem tF{W:World}(h:W.ShapedOpen Tryz.prog):10<=W.heap.size:=by
 obtain⟨cs,h1,_⟩:=h.1 9 _ _ (by rw[Go.Mx.A.globals];decide) FC
 rcases Nat.lt_or_ge 9 W.heap.size with h2|h2
 ·omega
 ·rw[Array.getElem?_eq_none h2]at h1;cases h1
def Lk:List Int:=[1,10,100,1000,10000,100000,1000000,10000000,100000000,1000000000,10000000000,100000000000,1000000000000,10000000000000,100000000000000,1000000000000000,10000000000000000,100000000000000000,1000000000000000000,10000000000000000000]
theorem Ll:((begin Tryz.prog (fun _ _=>0) default).world.heap[3]?).bind Obj.row?=some ((Array.replicate 20 (.int .u64 0):Array Value),298):=by kernel_rfl
theorem Lm:Tryz.prog.globalNamed "internal/strconv.uint64pow10" =some 3:=by kernel_rfl
theorem Ln:(Tryz.prog.globals[3]?).map (·.type)=some 298:=by kernel_rfl
theorem Lo:Tryz.prog.cellsOf 298=20:=by kernel_rfl
theorem Lp:Tryz.prog.cellsOf 214=1:=by kernel_rfl
theorem Lq:(Rows.reconstructPokesRow.laid.filter fun x=>x.2.handleName?.isNone).filter (fun x=>x.1== "internal/strconv.uint64pow10")=[("internal/strconv.uint64pow10",Lib.tabData .u64 Lk)]:=by rfl
theorem Wd{W:World}(hl:laidMet Tryz.prog (Rows.reconstructPokesRow.laid.filter fun x=>x.2.handleName?.isNone) W)(hs:W.ShapedOpen Tryz.prog):Go.Mx.il Tryz.prog W Go.Mx.A.TB:=
 Go.Mx.pA (k:=.u64) (zs:=Lk) Lm Ln Tryz.underlying298 Tryz.underlying214 Lp Lo Lq (by rw[Go.Mx.A.globals];decide) Ll hl hs
open Go.Mx in
theorem vF{H:Type}{enc:TypeId×Value->H}{W:World}{a0:Option Addr}{l0 c0 f0:Nat}{x0:DataW H×List MemPlace}{b1:Int}{b2:Int}(hW:10<=W.heap.size)(ht:il Tryz.prog W A.TB)(h0:DataW.trod enc Tryz.prog W 0 (fun _=>true) true f0 58 (Value.slice a0 l0 c0).cells.toList=some x0)(ef:l0*48<=140737488351232):
  Calls Tryz.prog 5 #[.slice a0 l0 c0,.int .i64 b1,.int .i64 b2] W fun e W'=>e=.returned (.bool true)/\RowKit.Below W.heap.size W W':=by
 obtain⟨m0,e0,Ig,We,Wf⟩:=Go.Mx.tj Tryz.underlying58 Tryz.underlying90 ⟨rfl,rfl⟩ ⟨rfl,rfl⟩ ⟨rfl,rfl⟩ Tryz.underlying3 Tryz.underlying36 Tryz.underlying23 A4 FB A3 A2 (show DataW.trod enc Tryz.prog W 0 (fun _=>true) true f0 58 [Value.slice a0 l0 c0]=some x0 from h0)
 have We:=Yj7 We ef
 have Wf:=Yj8 Wf
 obtain⟨μ0,s0⟩:=Yjw A.globals hW (tb:=A.TB) (by decide+kernel) ht
 obtain⟨μ1,S1,u0,s1,g1,r0,q0⟩:=s0.pks Ig
 have GV:=r0
 have q0':=q0
 have hP:jm S1.h S1.n:=jm.ae (show jm (B7 10 A.TB).h (B7 10 A.TB).n from ⟨by decide,Yjf rfl⟩) g1.ae
 exact Cx.calls (S:=S1) A.wH A.xOk A.c5 A.c5 (fun st=>A.x0 (by decide)) (Yfe q0' hP We Wf) s1.hr s1.w (fO.2 ⟨_,_,rfl,(e0▸GV),fO.2 ⟨_,_,rfl,(show VR μ1 (.int .i64 b1) (.int .i64 b1) from by simp[VR]),fO.2 ⟨_,_,rfl,(show VR μ1 (.int .i64 b2) (.int .i64 b2) from by simp[VR]),by simp[aX]⟩⟩⟩) fun μ z hz=>by simpa[VR]using hz
def lits:DataW Unit->List Value
 |.agg l=>l.filterMap fun d=>match d with
  |.lit (.int k n)=>some (.int k n)
  |_=>none
 |_=>[]
def Lr:DataW Unit->List Value
 |.agg l=>l.flatMap lits
 |_=>[]
noncomputable def gE(os:Os):World:=
 let N:=(World.settled Tryz.prog os).heap.size
 let w0:=World.holding Tryz.prog os ⟨#[.cells #[.string ⟨#[118,97,108,117,101,32,111,117,116,32,111,102,32,114,97,110,103,101]⟩] 315,.cells #[.string ⟨#[105,110,118,97,108,105,100,32,115,121,110,116,97,120]⟩] 315],#[],[]⟩
 let put (h:Array Obj) (g:Nat) (cs:Array Value):Array Obj:=h.modify g fun
  |.cells _ t frozen=>.cells cs t frozen
  |o=>o
 let h8:=put w0.heap 8 (lits Rows.laid_math_bits_deBruijn32tab).toArray
 let h9:=put h8 9 (lits Rows.laid_math_bits_deBruijn64tab).toArray
 let h3:=put h9 3 (lits Rows.laid_internal_strconv_uint64pow10).toArray
 let h7:=put h3 7 (Lr Rows.laid_unicode_utf8_acceptRanges).toArray
 let h5:=put h7 5 #[.iface 313 (.pointer (some ⟨N+0,0,none⟩))]
 let h4:=put h5 4 #[.iface 313 (.pointer (some ⟨N+1,0,none⟩))]
 let h6:=put h4 6 (lits Rows.laid_unicode_utf8_first).toArray
 {w0 with heap:=h6}
noncomputable abbrev N0:Nat:=(World.settled Tryz.prog default).heap.size
abbrev Hp:Array Value:=#[.slice none 0 0,.int .i64 0,.int .i64 0]
theorem yp(os:Os):laidMet Tryz.prog Rows.reconstructPokesRow.laid ((gE os).forCall (fun _ _=>0) ⟨#[],Hp,[]⟩).memory:=
 (LaidIn.of_run [8,9,3,7,5,N0,4,N0+1,6] 8 (by kernel_rfl) (by kernel_rfl) (by kernel_rfl) (by kernel_rfl)).met
theorem ra(os:Os){H:Type}(enc:TypeId×Value->H):
  (OpenSpec.ofChange Rows.reconstructPokesSpec).preRow enc Tryz.prog Tryz.f5 Rows.reconstructPokesRow.domain false Rows.reconstructPokesRow.laid ((gE os).forCall (fun _ _=>0) ⟨#[],Hp,[]⟩).memory Hp:=by
 have hw:(DataW.whole enc Tryz.prog ((gE os).forCall (fun _ _=>0) ⟨#[],Hp,[]⟩).memory Tryz.f5.params.toList Rows.reconstructPokesSpec.vars false Hp.toList 8).map (fun x=>(x.1,x.2.1))=
   some ([.nil,.lit (.int .i64 0),.lit (.int .i64 0)],[]):=by kernel_rfl
 obtain⟨⟨x1,x2,x3⟩,hx,xB⟩:=Option.map_eq_some_iff.1 hw
 simp only[Prod.mk.injEq]at xB
 obtain⟨rfl,rfl⟩:=xB
 exact OpenSpec.preRow_of_cond 8 hx (by kernel_rfl) (fun k hk=>by cases hk) (by kernel_rfl) (yp os)
theorem lifted(os:Os)(started:os.Started)(H:Type)(enc:TypeId×Value->H)(F:Stop.Interp):
  ReturnsInHanded {} Tryz.checked os 5 .any ((OpenSpec.ofChange Rows.reconstructPokesSpec).preRow enc Tryz.prog Tryz.f5 Rows.reconstructPokesRow.domain false Rows.reconstructPokesRow.laid) (((OpenSpec.ofChange Rows.reconstructPokesSpec).at F).post enc Tryz.prog Tryz.f5 false true false false):=by
 refine returnsInHanded_of_row (C:=Tryz.checked) (s:=OpenSpec.ofChange Rows.reconstructPokesSpec) own started (by kernel_rfl) Tryz.func5
  (witness_row_atRef (enc:=enc) (C:=Tryz.checked) false (gE os) Hp rfl (by kernel_rfl) (by kernel_rfl) (by kernel_rfl) (ra os enc)) ?_
 intro W base args ds gs before CA hW hX1 hX2 hX3 hX4 pc hX5
 have ga:∀(j:Nat) t v,Tryz.f5.params[j]?=some t->args[j]?=some v->Value.okWide Tryz.prog W .any base t v:=CA
 have AJ:=hW
 obtain⟨p,q,hA0,tX,rfl,_,_⟩:=hW
 have hA:DataW.TrodAll enc Tryz.prog W 0 (fun _=>true) true Tryz.f5.params.toList args.toList ds p:=hA0
 rw[Tryz.params5]at hA ga
 obtain⟨v0,v1,v2,d0,d1,d2,p0,p1,p2,rfl,rfl,rfl,h0,h1,h2⟩:=trodAll_three hA
 obtain⟨rfl,rfl⟩:=trodVars_none tX
 have h0k:=h0
 obtain⟨a0,Wg,ct0,rfl⟩:=okWide_slice Tryz.underlying58 (ga 0 58 v0 rfl rfl)
 obtain⟨zad,qZ⟩:=h0
 have h1k:=h1
 obtain⟨n1,rfl⟩:=okWide_int Tryz.underlying3 (ga 1 3 v1 rfl rfl)
 have h2k:=h2
 obtain⟨n2,rfl⟩:=okWide_int Tryz.underlying3 (ga 2 3 v2 rfl rfl)
 have fz:(DataW.weightsEach Tryz.prog (Tryz.f5.params.toList++[]) ([d0,d1,d2]++[])).all (·<=reachBytes)=true:=hX3
 rw[Tryz.params5]at fz
 have ef:Wg*48<=140737488351232:=by
  rcases open_slice Tryz.underlying58 qZ with⟨hc,_⟩|⟨a',sF,D3,m,n',D,Pl,hc,_,_,_,_,hx,_⟩
  ·have:Wg=0:=by simp[Value.cells]at hc;exact hc.2.1
   omega
  ·have e1:Wg=sF:=by simp[Value.cells]at hc;exact hc.2.1
   have e2:=congrArg Prod.fst hx
   simp only at e2
   rw[e2]at fz
   have:=sized_slice fz (j:=0) (t:=58) (e:=90) rfl rfl Tryz.underlying58
   rw[dK]at this
   simp only[List.length_map,List.length_range,reachBytes]at this
   omega
 clear hA0 tX CA
 simp only[List.append_nil]at AJ
 have aD:∀x∈p0++p1++p2,x.block<W.heap.size:=fun x hx=>by simpa using AJ.lt x hx
 refine(vF (b1:=n1) (b2:=n2) (tF pc) (Wd (laidMetH_iff.1 hX4).1 pc) qZ ef).mono ?_
 rintro e W' ⟨rfl,OP⟩
 have e1:((OpenSpec.ofChange Rows.reconstructPokesSpec).at F).fn H ([d0,d1,d2]++[])={results:=[.lit (.bool true)],args:=[d0,d1,d2]}:=rfl
 refine⟨_,rfl,_,_,_,[],p0++p1++p2,[],AJ,?_,?_,?_,OP.frame _,fun h=>by cases h⟩
 ·rw[e1];exact trodAll_mk1 (shut_bool Tryz.underlying4 true)
 ·rw[e1,List.append_assoc];exact trodAll_mk3 (Below.trod laidOut (by kernel_rfl) (of_decide_eq_true (by kernel_rfl)) h0k OP fun x hx=>aD x (by simp[hx])) (Below.trod laidOut (by kernel_rfl) (of_decide_eq_true (by kernel_rfl)) h1k OP fun x hx=>aD x (by simp[hx])) (Below.trod laidOut (by kernel_rfl) (of_decide_eq_true (by kernel_rfl)) h2k OP fun x hx=>aD x (by simp[hx]))
 ·rw[e1];rfl
end Go.Proofs.YtlbophlgohokkaaGreatDoor
