/-The statement LoopStable: for all inputs the law returns true, and its arguments read behind the call as before. No condition beside the card's own.-/
import Derived.Test.YtlbnjhhebffhdaaGreatDoorCards
import Derived.Test.YtlbnjhhebffhdaaGreatDoorTie
import Derived.WalkKit
import Derived.ProofKit
import Derived.OpenShut
import Derived.Deep.DeepHandedRow
import Derived.Deep.DeepWitnessRowRef
import Derived.Lib.LaidTab
import Derived.Lib.LaidIn
import Derived.Carry
import Derived.ChangeArms
import Derived.Test.YtlbnjhhebffhdaaGreatDoorXdB
import Derived.Deep.Slices
set_option linter.all false
namespace Go.Proofs.YtlbnjhhebffhdaaGreatDoor
open Go Go.ChangeShapes Go.WideShapes Go.ChangeAt Go.RowKit
open Go.Deep
set_option maxRecDepth 1000000
theorem own:ownKnob Tryz.prog.godebug=none:=by kernel_rfl
theorem laidOut:laidOutB Tryz.prog=true:=by kernel_rfl
theorem wI:Tryz.prog.cellsOf 30=1:=by kernel_rfl
theorem KP:((begin Tryz.prog (fun _ _=>0) default).world.heap[10]?).bind Obj.row?=some ((((begin Tryz.prog (fun _ _=>0) default).world.heap[10]?).bind Obj.row?).getD (#[],0)):=by kernel_rfl
theorem vi{W:World}(h:W.ShapedOpen Tryz.prog):11<=W.heap.size:=by
 obtain⟨cs,h1,_⟩:=h.1 10 _ _ (by rw[Go.Mx.A.globals];decide) KP
 rcases Nat.lt_or_ge 10 W.heap.size with h2|h2
 ·omega
 ·rw[Array.getElem?_eq_none h2]at h1;cases h1
def RN:List Int:=[1,10,100,1000,10000,100000,1000000,10000000,100000000,1000000000,10000000000,100000000000,1000000000000,10000000000000,100000000000000,1000000000000000,10000000000000000,100000000000000000,1000000000000000000,10000000000000000000]
theorem RO:((begin Tryz.prog (fun _ _=>0) default).world.heap[6]?).bind Obj.row?=some ((Array.replicate 20 (.int .u64 0):Array Value),313):=by kernel_rfl
theorem RP:Tryz.prog.globalNamed "internal/strconv.uint64pow10" =some 6:=by kernel_rfl
theorem RQ:(Tryz.prog.globals[6]?).map (·.type)=some 313:=by kernel_rfl
theorem RS:Tryz.prog.cellsOf 313=20:=by kernel_rfl
theorem RT:Tryz.prog.cellsOf 215=1:=by kernel_rfl
theorem RU:(Rows.loopStableRow.laid.filter fun x=>x.2.handleName?.isNone).filter (fun x=>x.1== "internal/strconv.uint64pow10")=[("internal/strconv.uint64pow10",Lib.tabData .u64 RN)]:=by rfl
theorem zfg{W:World}(hl:laidMet Tryz.prog (Rows.loopStableRow.laid.filter fun x=>x.2.handleName?.isNone) W)(hs:W.ShapedOpen Tryz.prog):Go.Mx.zgn Tryz.prog W Go.Mx.A.TB:=
 Go.Mx.qL (k:=.u64) (zs:=RN) RP RQ Tryz.underlying313 Tryz.underlying215 RT RS RU (by rw[Go.Mx.A.globals];decide) RO hl hs
open Go.Mx in
theorem xB{H:Type}{enc:TypeId×Value->H}{W:World}{a0:Option Addr}{l0 c0 f0:Nat}{x0:DataW H×List MemPlace}{b1:Int}{b2:Int}(hW:11<=W.heap.size)(ht:zgn Tryz.prog W A.TB)(h0:DataW.trod enc Tryz.prog W 0 (fun _=>true) true f0 22 (Value.slice a0 l0 c0).cells.toList=some x0):
  Calls Tryz.prog 3 #[.slice a0 l0 c0,.int .i64 b1,.int .i64 b2] W fun e W'=>e=.returned (.bool true)/\RowKit.Below W.heap.size W W':=by
 obtain⟨m0,e0,ok0,la0⟩:=Go.Mx.Xfk Tryz.underlying22 Tryz.underlying30 wI (show DataW.trod enc Tryz.prog W 0 (fun _=>true) true f0 22 [Value.slice a0 l0 c0]=some x0 from h0)
 obtain⟨μ0,s0⟩:=Ymg A.globals hW (tb:=A.TB) (by decide+kernel) ht
 obtain⟨μ1,S1,u0,s1,g1,r0,q0⟩:=s0.list ok0
 have Uo:=r0
 have q0':=q0
 have hP:j_ S1.h S1.n:=j_.ai (show j_ (Cu 11 A.TB).h (Cu 11 A.TB).n from ⟨by decide,Ylz rfl⟩) g1.ai
 exact Cx.calls (S:=S1) A.yy A.xOk A.c3 A.c3 (fun st=>A.x0 (by decide)) (Xbe q0' hP la0) s1.hr s1.w (Zau.2 ⟨_,_,rfl,(e0▸Uo),Zau.2 ⟨_,_,rfl,(show VR μ1 (.int .i64 b1) (.int .i64 b1) from by simp[VR]),Zau.2 ⟨_,_,rfl,(show VR μ1 (.int .i64 b2) (.int .i64 b2) from by simp[VR]),by simp[bf]⟩⟩⟩) fun μ z hz=>by simpa[VR]using hz
def lits:DataW Unit->List Value
 |.agg l=>l.filterMap fun d=>match d with
  |.lit (.int k n)=>some (.int k n)
  |_=>none
 |_=>[]
def RV:DataW Unit->List Value
 |.agg l=>l.flatMap lits
 |_=>[]
noncomputable def ig(os:Os):World:=
 let N:=(World.settled Tryz.prog os).heap.size
 let w0:=World.holding Tryz.prog os ⟨#[.cells #[.string ⟨#[118,97,108,117,101,32,111,117,116,32,111,102,32,114,97,110,103,101]⟩] 321,.cells #[.string ⟨#[105,110,118,97,108,105,100,32,115,121,110,116,97,120]⟩] 321],#[],[]⟩
 let put (h:Array Obj) (g:Nat) (cs:Array Value):Array Obj:=h.modify g fun
  |.cells _ t frozen=>.cells cs t frozen
  |o=>o
 let h9:=put w0.heap 9 (lits Rows.laid_math_bits_deBruijn32tab).toArray
 let xO:=put h9 10 (lits Rows.laid_math_bits_deBruijn64tab).toArray
 let h6:=put xO 6 (lits Rows.laid_internal_strconv_uint64pow10).toArray
 let h8:=put h6 8 (RV Rows.laid_unicode_utf8_acceptRanges).toArray
 let h5:=put h8 5 #[.iface 319 (.pointer (some ⟨N+0,0,none⟩))]
 let h4:=put h5 4 #[.iface 319 (.pointer (some ⟨N+1,0,none⟩))]
 let h7:=put h4 7 (lits Rows.laid_unicode_utf8_first).toArray
 {w0 with heap:=h7}
noncomputable abbrev N0:Nat:=(World.settled Tryz.prog default).heap.size
abbrev MT:Array Value:=#[.slice none 0 0,.int .i64 0,.int .i64 0]
theorem Ar(os:Os):laidMet Tryz.prog Rows.loopStableRow.laid ((ig os).forCall (fun _ _=>0) ⟨#[],MT,[]⟩).memory:=
 (LaidIn.of_run [9,10,6,8,5,N0,4,N0+1,7] 8 (by kernel_rfl) (by kernel_rfl) (by kernel_rfl) (by kernel_rfl)).met
theorem sV(os:Os){H:Type}(enc:TypeId×Value->H):
  (OpenSpec.ofChange Rows.loopStableSpec).preRow enc Tryz.prog Tryz.f3 Rows.loopStableRow.domain false Rows.loopStableRow.laid ((ig os).forCall (fun _ _=>0) ⟨#[],MT,[]⟩).memory MT:=by
 have hw:(DataW.whole enc Tryz.prog ((ig os).forCall (fun _ _=>0) ⟨#[],MT,[]⟩).memory Tryz.f3.params.toList Rows.loopStableSpec.vars false MT.toList 8).map (fun x=>(x.1,x.2.1))=
   some ([.nil,.lit (.int .i64 0),.lit (.int .i64 0)],[]):=by kernel_rfl
 obtain⟨⟨x1,x2,x3⟩,hx,zK⟩:=Option.map_eq_some_iff.1 hw
 simp only[Prod.mk.injEq]at zK
 obtain⟨rfl,rfl⟩:=zK
 exact OpenSpec.preRow_of_cond 8 hx (by kernel_rfl) (fun k hk=>by cases hk) (by kernel_rfl) (Ar os)
theorem lifted(os:Os)(started:os.Started)(H:Type)(enc:TypeId×Value->H)(F:Stop.Interp):
  ReturnsInHanded {} Tryz.checked os 3 .any ((OpenSpec.ofChange Rows.loopStableSpec).preRow enc Tryz.prog Tryz.f3 Rows.loopStableRow.domain false Rows.loopStableRow.laid) (((OpenSpec.ofChange Rows.loopStableSpec).at F).post enc Tryz.prog Tryz.f3 false true false false):=by
 refine returnsInHanded_of_row (C:=Tryz.checked) (s:=OpenSpec.ofChange Rows.loopStableSpec) own started (by kernel_rfl) Tryz.func3
  (witness_row_atRef (enc:=enc) (C:=Tryz.checked) false (ig os) MT rfl (by kernel_rfl) (by kernel_rfl) (by kernel_rfl) (sV os enc)) ?_
 intro W base args ds gs before EJ hW hX1 hX2 hX3 hX4 Uv hX5
 have zgm:∀(j:Nat) t v,Tryz.f3.params[j]?=some t->args[j]?=some v->Value.okWide Tryz.prog W .any base t v:=EJ
 have pZ:=hW
 obtain⟨p,q,hA0,vS,rfl,_,_⟩:=hW
 have hA:DataW.TrodAll enc Tryz.prog W 0 (fun _=>true) true Tryz.f3.params.toList args.toList ds p:=hA0
 rw[Tryz.params3]at hA zgm
 obtain⟨v0,v1,v2,d0,d1,d2,p0,p1,p2,rfl,rfl,rfl,h0,h1,h2⟩:=trodAll_three hA
 obtain⟨rfl,rfl⟩:=trodVars_none vS
 have h0k:=h0
 obtain⟨a0,lt0,ct0,rfl⟩:=okWide_slice Tryz.underlying22 (zgm 0 22 v0 rfl rfl)
 obtain⟨zfw,rA⟩:=h0
 have h1k:=h1
 obtain⟨n1,rfl⟩:=okWide_int Tryz.underlying3 (zgm 1 3 v1 rfl rfl)
 have h2k:=h2
 obtain⟨n2,rfl⟩:=okWide_int Tryz.underlying3 (zgm 2 3 v2 rfl rfl)
 clear hA0 vS EJ
 simp only[List.append_nil]at pZ
 have aW:∀x∈p0++p1++p2,x.block<W.heap.size:=fun x hx=>by simpa using pZ.lt x hx
 refine(xB (b1:=n1) (b2:=n2) (vi Uv) (zfg (laidMetH_iff.1 hX4).1 Uv) rA).mono ?_
 rintro e W' ⟨rfl,Vs⟩
 have e1:((OpenSpec.ofChange Rows.loopStableSpec).at F).fn H ([d0,d1,d2]++[])={results:=[.lit (.bool true)],args:=[d0,d1,d2]}:=rfl
 refine⟨_,rfl,_,_,_,[],p0++p1++p2,[],pZ,?_,?_,?_,Vs.frame _,fun h=>by cases h⟩
 ·rw[e1];exact trodAll_mk1 (shut_bool Tryz.underlying4 true)
 ·rw[e1,List.append_assoc];exact trodAll_mk3 (Below.trod laidOut (by kernel_rfl) (of_decide_eq_true (by kernel_rfl)) h0k Vs fun x hx=>aW x (by simp[hx])) (Below.trod laidOut (by kernel_rfl) (of_decide_eq_true (by kernel_rfl)) h1k Vs fun x hx=>aW x (by simp[hx])) (Below.trod laidOut (by kernel_rfl) (of_decide_eq_true (by kernel_rfl)) h2k Vs fun x hx=>aW x (by simp[hx]))
 ·rw[e1];rfl
end Go.Proofs.YtlbnjhhebffhdaaGreatDoor
