/-The statement ReconstructSplits: for all inputs the law returns true, and its arguments read behind the call as before. No condition beside the card's own.-/
import Derived.Test.YteojhfjdbpdolaaGreatDoorCards
import Derived.Test.YteojhfjdbpdolaaGreatDoorTie
import Derived.WalkKit
import Derived.ProofKit
import Derived.OpenShut
import Derived.Deep.DeepHandedRow
import Derived.Deep.DeepWitnessRowRef
import Derived.Lib.LaidTab
import Derived.Lib.LaidIn
import Derived.Carry
import Derived.ChangeArms
import Derived.Test.YteojhfjdbpdolaaGreatDoorAwOk
import Derived.Deep.Slices
set_option linter.all false
namespace Go.Proofs.YteojhfjdbpdolaaGreatDoor
open Go Go.ChangeShapes Go.WideShapes Go.ChangeAt Go.RowKit
open Go.Deep
set_option maxRecDepth 1000000
theorem own:ownKnob Tryz.prog.godebug=none:=by kernel_rfl
theorem laidOut:laidOutB Tryz.prog=true:=by kernel_rfl
theorem DE:Tryz.prog.cellsOf 23=1:=by kernel_rfl
theorem xR:Tryz.prog.cellsOf 39=1:=by kernel_rfl
theorem Ix:((begin Tryz.prog (fun _ _=>0) default).world.heap[9]?).bind Obj.row?=some ((((begin Tryz.prog (fun _ _=>0) default).world.heap[9]?).bind Obj.row?).getD (#[],0)):=by kernel_rfl
theorem wI{W:World}(h:W.ShapedOpen Tryz.prog):10<=W.heap.size:=by
 obtain⟨cs,h1,_⟩:=h.1 9 _ _ (by rw[Go.Mx.A.globals];decide) Ix
 rcases Nat.lt_or_ge 9 W.heap.size with h2|h2
 ·omega
 ·rw[Array.getElem?_eq_none h2]at h1;cases h1
def Pr:List Int:=[1,10,100,1000,10000,100000,1000000,10000000,100000000,1000000000,10000000000,100000000000,1000000000000,10000000000000,100000000000000,1000000000000000,10000000000000000,100000000000000000,1000000000000000000,10000000000000000000]
theorem Ps:((begin Tryz.prog (fun _ _=>0) default).world.heap[5]?).bind Obj.row?=some ((Array.replicate 20 (.int .u64 0):Array Value),282):=by kernel_rfl
theorem Pt:Tryz.prog.globalNamed "internal/strconv.uint64pow10" =some 5:=by kernel_rfl
theorem Pv:(Tryz.prog.globals[5]?).map (·.type)=some 282:=by kernel_rfl
theorem Pw:Tryz.prog.cellsOf 282=20:=by kernel_rfl
theorem Px:Tryz.prog.cellsOf 195=1:=by kernel_rfl
theorem Py:(Rows.reconstructSplitsRow.laid.filter fun x=>x.2.handleName?.isNone).filter (fun x=>x.1== "internal/strconv.uint64pow10")=[("internal/strconv.uint64pow10",Lib.tabData .u64 Pr)]:=by rfl
theorem zan{W:World}(hl:laidMet Tryz.prog (Rows.reconstructSplitsRow.laid.filter fun x=>x.2.handleName?.isNone) W)(hs:W.ShapedOpen Tryz.prog):Go.Mx.jf Tryz.prog W Go.Mx.A.TB:=
 Go.Mx.rA (k:=.u64) (zs:=Pr) Pt Pv Tryz.underlying282 Tryz.underlying195 Px Pw Py (by rw[Go.Mx.A.globals];decide) Ps hl hs
open Go.Mx in
theorem yA{H:Type}{enc:TypeId×Value->H}{W:World}{a0:Option Addr}{l0 c0 f0:Nat}{x0:DataW H×List MemPlace}{a1:Option Addr}{l1 c1 f1:Nat}{x1:DataW H×List MemPlace}(hW:10<=W.heap.size)(ht:jf Tryz.prog W A.TB)(h0:DataW.trod enc Tryz.prog W 0 (fun _=>true) true f0 22 (Value.slice a0 l0 c0).cells.toList=some x0)(h1:DataW.trod enc Tryz.prog W 0 (fun _=>true) true f1 23 (Value.slice a1 l1 c1).cells.toList=some x1):
  Calls Tryz.prog 3 #[.slice a0 l0 c0,.slice a1 l1 c1] W fun e W'=>e=.returned (.bool true)/\RowKit.Below W.heap.size W W':=by
 obtain⟨m0,e0,Ln,la0,lb0⟩:=Go.Mx.AF Tryz.underlying22 Tryz.underlying23 Tryz.underlying39 DE xR (show DataW.trod enc Tryz.prog W 0 (fun _=>true) true f0 22 [Value.slice a0 l0 c0]=some x0 from h0)
 obtain⟨m1,e1,ok1,la1⟩:=Go.Mx.qg Tryz.underlying23 Tryz.underlying39 xR (show DataW.trod enc Tryz.prog W 0 (fun _=>true) true f1 23 [Value.slice a1 l1 c1]=some x1 from h1)
 obtain⟨μ0,s0⟩:=Yoc A.globals hW (tb:=A.TB) (by decide+kernel) ht
 obtain⟨μ1,S1,u0,s1,g1,r0,q0⟩:=s0.mat Ln
 obtain⟨μ2,S2,u1,s2,g2,r1,q1⟩:=s1.list ok1
 have JW:=VR.mono g2.mu _ _ r0
 have q0':iV S2.h S2.n u0 m0.rows:=iV.ae q0 g2.ae
 have Im:=r1
 have q1':=q1
 have hP:kZ S2.h S2.n:=kZ.ae (show kZ (EN 10 A.TB).h (EN 10 A.TB).n from ⟨by decide,Yno rfl⟩) (g1.trans g2).ae
 exact Cx.calls (S:=S2) A.zw A.xOk A.c3 A.c3 (fun st=>A.x0 (by decide)) (Yc1 q0' q1' hP la0 lb0 la1) s2.hr s2.w (lD.2 ⟨_,_,rfl,(e0▸JW),lD.2 ⟨_,_,rfl,(e1▸Im),by simp[aV]⟩⟩) fun μ z hz=>by simpa[VR]using hz
def lits:DataW Unit->List Value
 |.agg l=>l.filterMap fun d=>match d with
  |.lit (.int k n)=>some (.int k n)
  |_=>none
 |_=>[]
def Pz:DataW Unit->List Value
 |.agg l=>l.flatMap lits
 |_=>[]
noncomputable def im(os:Os):World:=
 let N:=(World.settled Tryz.prog os).heap.size
 let w0:=World.holding Tryz.prog os ⟨#[.cells #[.string ⟨#[118,97,108,117,101,32,111,117,116,32,111,102,32,114,97,110,103,101]⟩] 291,.cells #[.string ⟨#[105,110,118,97,108,105,100,32,115,121,110,116,97,120]⟩] 291],#[],[]⟩
 let put (h:Array Obj) (g:Nat) (cs:Array Value):Array Obj:=h.modify g fun
  |.cells _ t frozen=>.cells cs t frozen
  |o=>o
 let h8:=put w0.heap 8 (lits Rows.laid_math_bits_deBruijn32tab).toArray
 let h9:=put h8 9 (lits Rows.laid_math_bits_deBruijn64tab).toArray
 let h5:=put h9 5 (lits Rows.laid_internal_strconv_uint64pow10).toArray
 let h7:=put h5 7 (Pz Rows.laid_unicode_utf8_acceptRanges).toArray
 let h4:=put h7 4 #[.iface 289 (.pointer (some ⟨N+0,0,none⟩))]
 let h3:=put h4 3 #[.iface 289 (.pointer (some ⟨N+1,0,none⟩))]
 let h6:=put h3 6 (lits Rows.laid_unicode_utf8_first).toArray
 {w0 with heap:=h6}
noncomputable abbrev N0:Nat:=(World.settled Tryz.prog default).heap.size
abbrev Ki:Array Value:=#[.slice none 0 0,.slice none 0 0]
theorem A5(os:Os):laidMet Tryz.prog Rows.reconstructSplitsRow.laid ((im os).forCall (fun _ _=>0) ⟨#[],Ki,[]⟩).memory:=
 (LaidIn.of_run [8,9,5,7,4,N0,3,N0+1,6] 8 (by kernel_rfl) (by kernel_rfl) (by kernel_rfl) (by kernel_rfl)).met
theorem tS(os:Os){H:Type}(enc:TypeId×Value->H):
  (OpenSpec.ofChange Rows.reconstructSplitsSpec).preRow enc Tryz.prog Tryz.f3 Rows.reconstructSplitsRow.domain false Rows.reconstructSplitsRow.laid ((im os).forCall (fun _ _=>0) ⟨#[],Ki,[]⟩).memory Ki:=by
 have hw:(DataW.whole enc Tryz.prog ((im os).forCall (fun _ _=>0) ⟨#[],Ki,[]⟩).memory Tryz.f3.params.toList Rows.reconstructSplitsSpec.vars false Ki.toList 8).map (fun x=>(x.1,x.2.1))=
   some ([.nil,.nil],[]):=by kernel_rfl
 obtain⟨⟨x1,x2,x3⟩,hx,Av⟩:=Option.map_eq_some_iff.1 hw
 simp only[Prod.mk.injEq]at Av
 obtain⟨rfl,rfl⟩:=Av
 exact OpenSpec.preRow_of_cond 8 hx (by kernel_rfl) (fun k hk=>by cases hk) (by kernel_rfl) (A5 os)
theorem lifted(os:Os)(started:os.Started)(H:Type)(enc:TypeId×Value->H)(F:Stop.Interp):
  ReturnsInHanded {} Tryz.checked os 3 .any ((OpenSpec.ofChange Rows.reconstructSplitsSpec).preRow enc Tryz.prog Tryz.f3 Rows.reconstructSplitsRow.domain false Rows.reconstructSplitsRow.laid) (((OpenSpec.ofChange Rows.reconstructSplitsSpec).at F).post enc Tryz.prog Tryz.f3 false true false false):=by
 refine returnsInHanded_of_row (C:=Tryz.checked) (s:=OpenSpec.ofChange Rows.reconstructSplitsSpec) own started (by kernel_rfl) Tryz.func3
  (witness_row_atRef (enc:=enc) (C:=Tryz.checked) false (im os) Ki rfl (by kernel_rfl) (by kernel_rfl) (by kernel_rfl) (tS os enc)) ?_
 intro W base args ds gs before Fs hW hX1 hX2 hX3 hX4 RF hX5
 have iL:∀(j:Nat) t v,Tryz.f3.params[j]?=some t->args[j]?=some v->Value.okWide Tryz.prog W .any base t v:=Fs
 have qO:=hW
 obtain⟨p,q,hA0,xo,rfl,_,_⟩:=hW
 have hA:DataW.TrodAll enc Tryz.prog W 0 (fun _=>true) true Tryz.f3.params.toList args.toList ds p:=hA0
 rw[Tryz.params3]at hA iL
 obtain⟨v0,v1,d0,d1,p0,p1,rfl,rfl,rfl,h0,h1⟩:=trodAll_two hA
 obtain⟨rfl,rfl⟩:=trodVars_none xo
 have h0k:=h0
 obtain⟨a0,lt0,ct0,rfl⟩:=okWide_slice Tryz.underlying22 (iL 0 22 v0 rfl rfl)
 obtain⟨zaw,xP⟩:=h0
 have h1k:=h1
 obtain⟨a1,U0,ct1,rfl⟩:=okWide_slice Tryz.underlying23 (iL 1 23 v1 rfl rfl)
 obtain⟨zax,xy⟩:=h1
 clear hA0 xo Fs
 simp only[List.append_nil]at qO
 have ay:∀x∈p0++p1,x.block<W.heap.size:=fun x hx=>by simpa using qO.lt x hx
 refine(yA  (wI RF) (zan (laidMetH_iff.1 hX4).1 RF) xP xy).mono ?_
 rintro e W' ⟨rfl,bel⟩
 have e1:((OpenSpec.ofChange Rows.reconstructSplitsSpec).at F).fn H ([d0,d1]++[])={results:=[.lit (.bool true)],args:=[d0,d1]}:=rfl
 refine⟨_,rfl,_,_,_,[],p0++p1,[],qO,?_,?_,?_,bel.frame _,fun h=>by cases h⟩
 ·rw[e1];exact trodAll_mk1 (shut_bool Tryz.underlying4 true)
 ·rw[e1];exact trodAll_mk2 (Below.trod laidOut (by kernel_rfl) (of_decide_eq_true (by kernel_rfl)) h0k bel fun x hx=>ay x (by simp[hx])) (Below.trod laidOut (by kernel_rfl) (of_decide_eq_true (by kernel_rfl)) h1k bel fun x hx=>ay x (by simp[hx]))
 ·rw[e1];rfl
end Go.Proofs.YteojhfjdbpdolaaGreatDoor
