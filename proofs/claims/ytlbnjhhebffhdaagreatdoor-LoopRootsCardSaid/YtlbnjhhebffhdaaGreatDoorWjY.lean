/-The statement LoopRoots: for all inputs the law returns true, and its arguments read behind the call as before. No condition beside the card's own.-/
import Derived.Test.YtlbnjhhebffhdaaGreatDoorCards
import Derived.Test.YtlbnjhhebffhdaaGreatDoorTie
import Derived.WalkKit
import Derived.ProofKit
import Derived.OpenShut
import Derived.Deep.DeepHandedRow
import Derived.Deep.DeepWitnessRowRef
import Derived.Lib.LaidTab
import Derived.Lib.LaidIn
import Derived.Carry
import Derived.ChangeArms
import Derived.Test.YtlbnjhhebffhdaaGreatDoorXfG
import Derived.Deep.Slices
set_option linter.all false
namespace Go.Proofs.YtlbnjhhebffhdaaGreatDoor
open Go Go.ChangeShapes Go.WideShapes Go.ChangeAt Go.RowKit
open Go.Deep
set_option maxRecDepth 1000000
theorem own:ownKnob Tryz.prog.godebug=none:=by kernel_rfl
theorem laidOut:laidOutB Tryz.prog=true:=by kernel_rfl
theorem ziR:Tryz.prog.cellsOf 72=1:=by kernel_rfl
theorem zi5:Tryz.prog.cellsOf 74=2:=by kernel_rfl
theorem KP:((begin Tryz.prog (fun _ _=>0) default).world.heap[10]?).bind Obj.row?=some ((((begin Tryz.prog (fun _ _=>0) default).world.heap[10]?).bind Obj.row?).getD (#[],0)):=by kernel_rfl
theorem vi{W:World}(h:W.ShapedOpen Tryz.prog):11<=W.heap.size:=by
 obtain⟨cs,h1,_⟩:=h.1 10 _ _ (by rw[Go.Mx.A.globals];decide) KP
 rcases Nat.lt_or_ge 10 W.heap.size with h2|h2
 ·omega
 ·rw[Array.getElem?_eq_none h2]at h1;cases h1
def RN:List Int:=[1,10,100,1000,10000,100000,1000000,10000000,100000000,1000000000,10000000000,100000000000,1000000000000,10000000000000,100000000000000,1000000000000000,10000000000000000,100000000000000000,1000000000000000000,10000000000000000000]
theorem RO:((begin Tryz.prog (fun _ _=>0) default).world.heap[6]?).bind Obj.row?=some ((Array.replicate 20 (.int .u64 0):Array Value),313):=by kernel_rfl
theorem RP:Tryz.prog.globalNamed "internal/strconv.uint64pow10" =some 6:=by kernel_rfl
theorem RQ:(Tryz.prog.globals[6]?).map (·.type)=some 313:=by kernel_rfl
theorem RS:Tryz.prog.cellsOf 313=20:=by kernel_rfl
theorem RT:Tryz.prog.cellsOf 215=1:=by kernel_rfl
theorem RU:(Rows.loopRootsRow.laid.filter fun x=>x.2.handleName?.isNone).filter (fun x=>x.1== "internal/strconv.uint64pow10")=[("internal/strconv.uint64pow10",Lib.tabData .u64 RN)]:=by rfl
theorem zfg{W:World}(hl:laidMet Tryz.prog (Rows.loopRootsRow.laid.filter fun x=>x.2.handleName?.isNone) W)(hs:W.ShapedOpen Tryz.prog):Go.Mx.zgn Tryz.prog W Go.Mx.A.TB:=
 Go.Mx.qL (k:=.u64) (zs:=RN) RP RQ Tryz.underlying313 Tryz.underlying215 RT RS RU (by rw[Go.Mx.A.globals];decide) RO hl hs
open Go.Mx in
theorem xB{H:Type}{enc:TypeId×Value->H}{W:World}{a0:Option Addr}{l0 c0 f0:Nat}{x0:DataW H×List MemPlace}{a1:Option Addr}{l1 c1 f1:Nat}{x1:DataW H×List MemPlace}(hW:11<=W.heap.size)(ht:zgn Tryz.prog W A.TB)(h0:DataW.trod enc Tryz.prog W 0 (fun _=>true) true f0 70 (Value.slice a0 l0 c0).cells.toList=some x0)(h1:DataW.trod enc Tryz.prog W 0 (fun _=>true) true f1 71 (Value.slice a1 l1 c1).cells.toList=some x1):
  Calls Tryz.prog 6 #[.slice a0 l0 c0,.slice a1 l1 c1] W fun e W'=>e=.returned (.bool true)/\RowKit.Below W.heap.size W W':=by
 obtain⟨m0,e0,ok0,la0,lb0⟩:=Go.Mx.Xir Tryz.underlying70 Tryz.underlying72 ziR (show DataW.trod enc Tryz.prog W 0 (fun _=>true) true f0 70 [Value.slice a0 l0 c0]=some x0 from h0)
 obtain⟨m1,e1,ok1,la1,lb1⟩:=Go.Mx.Xis Tryz.underlying71 Tryz.underlying74 Tryz.underlying72 zi5 ziR (show DataW.trod enc Tryz.prog W 0 (fun _=>true) true f1 71 [Value.slice a1 l1 c1]=some x1 from h1)
 obtain⟨μ0,s0⟩:=Ymg A.globals hW (tb:=A.TB) (by decide+kernel) ht
 obtain⟨μ1,S1,u0,s1,g1,r0,q0⟩:=s0.zja ok0
 obtain⟨μ2,S2,u1,s2,g2,r1,q1⟩:=s1.zjl ok1
 have Uo:=VR.mono g2.mu _ _ r0
 have q0':=q0.ai g2.ai
 have Q9:=r1
 have q1':=q1
 have hP:j_ S2.h S2.n:=j_.ai (show j_ (Cu 11 A.TB).h (Cu 11 A.TB).n from ⟨by decide,Ylz rfl⟩) (g1.trans g2).ai
 exact Cx.calls (S:=S2) A.yy A.xOk A.c6 A.c6 (fun st=>A.x0 (by decide)) (Xhe q0' q1' hP la0 la1 lb0 lb1) s2.hr s2.w (Zau.2 ⟨_,_,rfl,(e0▸Uo),Zau.2 ⟨_,_,rfl,(e1▸Q9),by simp[bf]⟩⟩) fun μ z hz=>by simpa[VR]using hz
def lits:DataW Unit->List Value
 |.agg l=>l.filterMap fun d=>match d with
  |.lit (.int k n)=>some (.int k n)
  |_=>none
 |_=>[]
def RV:DataW Unit->List Value
 |.agg l=>l.flatMap lits
 |_=>[]
noncomputable def ig(os:Os):World:=
 let N:=(World.settled Tryz.prog os).heap.size
 let w0:=World.holding Tryz.prog os ⟨#[.cells #[.string ⟨#[118,97,108,117,101,32,111,117,116,32,111,102,32,114,97,110,103,101]⟩] 321,.cells #[.string ⟨#[105,110,118,97,108,105,100,32,115,121,110,116,97,120]⟩] 321],#[],[]⟩
 let put (h:Array Obj) (g:Nat) (cs:Array Value):Array Obj:=h.modify g fun
  |.cells _ t frozen=>.cells cs t frozen
  |o=>o
 let h9:=put w0.heap 9 (lits Rows.laid_math_bits_deBruijn32tab).toArray
 let xO:=put h9 10 (lits Rows.laid_math_bits_deBruijn64tab).toArray
 let h6:=put xO 6 (lits Rows.laid_internal_strconv_uint64pow10).toArray
 let h8:=put h6 8 (RV Rows.laid_unicode_utf8_acceptRanges).toArray
 let h5:=put h8 5 #[.iface 319 (.pointer (some ⟨N+0,0,none⟩))]
 let h4:=put h5 4 #[.iface 319 (.pointer (some ⟨N+1,0,none⟩))]
 let h7:=put h4 7 (lits Rows.laid_unicode_utf8_first).toArray
 {w0 with heap:=h7}
noncomputable abbrev N0:Nat:=(World.settled Tryz.prog default).heap.size
abbrev MT:Array Value:=#[.slice none 0 0,.slice none 0 0]
theorem Ar(os:Os):laidMet Tryz.prog Rows.loopRootsRow.laid ((ig os).forCall (fun _ _=>0) ⟨#[],MT,[]⟩).memory:=
 (LaidIn.of_run [9,10,6,8,5,N0,4,N0+1,7] 8 (by kernel_rfl) (by kernel_rfl) (by kernel_rfl) (by kernel_rfl)).met
theorem sV(os:Os){H:Type}(enc:TypeId×Value->H):
  (OpenSpec.ofChange Rows.loopRootsSpec).preRow enc Tryz.prog Tryz.f6 Rows.loopRootsRow.domain false Rows.loopRootsRow.laid ((ig os).forCall (fun _ _=>0) ⟨#[],MT,[]⟩).memory MT:=by
 have hw:(DataW.whole enc Tryz.prog ((ig os).forCall (fun _ _=>0) ⟨#[],MT,[]⟩).memory Tryz.f6.params.toList Rows.loopRootsSpec.vars false MT.toList 8).map (fun x=>(x.1,x.2.1))=
   some ([.nil,.nil],[]):=by kernel_rfl
 obtain⟨⟨x1,x2,x3⟩,hx,zK⟩:=Option.map_eq_some_iff.1 hw
 simp only[Prod.mk.injEq]at zK
 obtain⟨rfl,rfl⟩:=zK
 exact OpenSpec.preRow_of_cond 8 hx (by kernel_rfl) (fun k hk=>by cases hk) (by kernel_rfl) (Ar os)
theorem lifted(os:Os)(started:os.Started)(H:Type)(enc:TypeId×Value->H)(F:Stop.Interp):
  ReturnsInHanded {} Tryz.checked os 6 .any ((OpenSpec.ofChange Rows.loopRootsSpec).preRow enc Tryz.prog Tryz.f6 Rows.loopRootsRow.domain false Rows.loopRootsRow.laid) (((OpenSpec.ofChange Rows.loopRootsSpec).at F).post enc Tryz.prog Tryz.f6 false true false false):=by
 refine returnsInHanded_of_row (C:=Tryz.checked) (s:=OpenSpec.ofChange Rows.loopRootsSpec) own started (by kernel_rfl) Tryz.func6
  (witness_row_atRef (enc:=enc) (C:=Tryz.checked) false (ig os) MT rfl (by kernel_rfl) (by kernel_rfl) (by kernel_rfl) (sV os enc)) ?_
 intro W base args ds gs before EJ hW hX1 hX2 hX3 hX4 Uv hX5
 have zgm:∀(j:Nat) t v,Tryz.f6.params[j]?=some t->args[j]?=some v->Value.okWide Tryz.prog W .any base t v:=EJ
 have pZ:=hW
 obtain⟨p,q,hA0,vS,rfl,_,_⟩:=hW
 have hA:DataW.TrodAll enc Tryz.prog W 0 (fun _=>true) true Tryz.f6.params.toList args.toList ds p:=hA0
 rw[Tryz.params6]at hA zgm
 obtain⟨v0,v1,d0,d1,p0,p1,rfl,rfl,rfl,h0,h1⟩:=trodAll_two hA
 obtain⟨rfl,rfl⟩:=trodVars_none vS
 have h0k:=h0
 obtain⟨a0,lt0,ct0,rfl⟩:=okWide_slice Tryz.underlying70 (zgm 0 70 v0 rfl rfl)
 obtain⟨zfw,rA⟩:=h0
 have h1k:=h1
 obtain⟨a1,lt1,ct1,rfl⟩:=okWide_slice Tryz.underlying71 (zgm 1 71 v1 rfl rfl)
 obtain⟨zfx,hf1⟩:=h1
 clear hA0 vS EJ
 simp only[List.append_nil]at pZ
 have aW:∀x∈p0++p1,x.block<W.heap.size:=fun x hx=>by simpa using pZ.lt x hx
 refine(xB  (vi Uv) (zfg (laidMetH_iff.1 hX4).1 Uv) rA hf1).mono ?_
 rintro e W' ⟨rfl,Vs⟩
 have e1:((OpenSpec.ofChange Rows.loopRootsSpec).at F).fn H ([d0,d1]++[])={results:=[.lit (.bool true)],args:=[d0,d1]}:=rfl
 refine⟨_,rfl,_,_,_,[],p0++p1,[],pZ,?_,?_,?_,Vs.frame _,fun h=>by cases h⟩
 ·rw[e1];exact trodAll_mk1 (shut_bool Tryz.underlying4 true)
 ·rw[e1];exact trodAll_mk2 (Below.trod laidOut (by kernel_rfl) (of_decide_eq_true (by kernel_rfl)) h0k Vs fun x hx=>aW x (by simp[hx])) (Below.trod laidOut (by kernel_rfl) (of_decide_eq_true (by kernel_rfl)) h1k Vs fun x hx=>aW x (by simp[hx]))
 ·rw[e1];rfl
end Go.Proofs.YtlbnjhhebffhdaaGreatDoor
