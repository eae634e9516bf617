/-
  The statement ReconstructSpaces: for all inputs the law returns true, and its arguments read behind the call as before. No condition beside the card's own.
-/
import Derived.Test.YtlbophlgohokkaaGreatDoorCards
import Derived.Test.YtlbophlgohokkaaGreatDoorTie
import Derived.WalkKit
import Derived.ProofKit
import Derived.OpenShut
import Derived.Deep.DeepHandedRow
import Derived.Deep.DeepWitnessRowRef
import Derived.Lib.LaidTab
import Derived.Lib.LaidIn
import Derived.Carry
import Derived.ChangeArms
import Derived.Test.YtlbophlgohokkaaGreatDoorAwOk
import Derived.Test.YtlbophlgohokkaaGreatDoorSpI
import Derived.Deep.Slices
set_option linter.all false
namespace Go.Proofs.YtlbophlgohokkaaGreatDoor
open Go Go.ChangeShapes Go.WideShapes Go.ChangeAt Go.RowKit
open Go.Deep
set_option maxRecDepth 1000000
theorem own:ownKnob Tryz.prog.godebug=none:=by kernel_rfl
theorem laidOut:laidOutB Tryz.prog=true:=by kernel_rfl
theorem sg:Tryz.prog.cellsOf 23=1:=by kernel_rfl
theorem sh:Tryz.prog.cellsOf 36=1:=by kernel_rfl
theorem Dh:((begin Tryz.prog (fun _ _=>0) default).world.heap[9]?).bind Obj.row?=some ((((begin Tryz.prog (fun _ _=>0) default).world.heap[9]?).bind Obj.row?).getD (#[],0)):=by kernel_rfl
theorem qY{W:World}(h:W.ShapedOpen Tryz.prog):10<=W.heap.size:=by
 obtain⟨cs,h1,_⟩:=h.1 9 _ _ (by rw[Go.Mx.A.globals];decide) Dh
 rcases Nat.lt_or_ge 9 W.heap.size with h2|h2
 ·omega
 ·rw[Array.getElem?_eq_none h2]at h1;cases h1
def I4:List Int:=[1,10,100,1000,10000,100000,1000000,10000000,100000000,1000000000,10000000000,100000000000,1000000000000,10000000000000,100000000000000,1000000000000000,10000000000000000,100000000000000000,1000000000000000000,10000000000000000000]
theorem I5:((begin Tryz.prog (fun _ _=>0) default).world.heap[3]?).bind Obj.row?=some ((Array.replicate 20 (.int .u64 0):Array Value),298):=by kernel_rfl
theorem I6:Tryz.prog.globalNamed "internal/strconv.uint64pow10" =some 3:=by kernel_rfl
theorem I7:(Tryz.prog.globals[3]?).map (·.type)=some 298:=by kernel_rfl
theorem I8:Tryz.prog.cellsOf 298=20:=by kernel_rfl
theorem I9:Tryz.prog.cellsOf 214=1:=by kernel_rfl
theorem Ja:(Rows.reconstructSpacesRow.laid.filter fun x=>x.2.handleName?.isNone).filter (fun x=>x.1== "internal/strconv.uint64pow10")=[("internal/strconv.uint64pow10",Lib.tabData .u64 I4)]:=by rfl
theorem SQ{W:World}(hl:laidMet Tryz.prog (Rows.reconstructSpacesRow.laid.filter fun x=>x.2.handleName?.isNone) W)(hs:W.ShapedOpen Tryz.prog):Go.Mx.ij Tryz.prog W Go.Mx.A.TB:=
 Go.Mx.nN (k:=.u64) (zs:=I4) I6 I7 Tryz.underlying298 Tryz.underlying214 I9 I8 Ja (by rw[Go.Mx.A.globals];decide) I5 hl hs
open Go.Mx in
theorem tc{H:Type}{enc:TypeId×Value->H}{W:World}{a0:Option Addr}{l0 c0 f0:Nat}{x0:DataW H×List MemPlace}{a1:Option Addr}{l1 c1 f1:Nat}{x1:DataW H×List MemPlace}(hW:10<=W.heap.size)(ht:ij Tryz.prog W A.TB)(h0:DataW.trod enc Tryz.prog W 0 (fun _=>true) true f0 22 (Value.slice a0 l0 c0).cells.toList=some x0)(h1:DataW.trod enc Tryz.prog W 0 (fun _=>true) true f1 22 (Value.slice a1 l1 c1).cells.toList=some x1):
  Calls Tryz.prog 7 #[.slice a0 l0 c0,.slice a1 l1 c1] W fun e W'=>e=.returned (.bool true)/\RowKit.Below W.heap.size W W':=by
 obtain⟨m0,e0,F5,la0,lb0⟩:=Go.Mx.pn Tryz.underlying22 Tryz.underlying23 Tryz.underlying36 sg sh (show DataW.trod enc Tryz.prog W 0 (fun _=>true) true f0 22 [Value.slice a0 l0 c0]=some x0 from h0)
 obtain⟨m1,e1,ok1,Wx,lb1⟩:=Go.Mx.pn Tryz.underlying22 Tryz.underlying23 Tryz.underlying36 sg sh (show DataW.trod enc Tryz.prog W 0 (fun _=>true) true f1 22 [Value.slice a1 l1 c1]=some x1 from h1)
 obtain⟨μ0,s0⟩:=Ykg A.globals hW (tb:=A.TB) (by decide+kernel) ht
 obtain⟨μ1,S1,u0,s1,g1,r0,q0⟩:=s0.ZA F5
 obtain⟨μ2,S2,u1,s2,g2,r1,q1⟩:=s1.ZA ok1
 have EM:=VR.mono g2.mu _ _ r0
 have q0':gI S2.h S2.n u0 m0.rows:=gI.ad q0 g2.ad
 have C6:=r1
 have q1':gI S2.h S2.n u1 m1.rows:=q1
 have hP:jn S2.h S2.n:=jn.ad (show jn (Au 10 A.TB).h (Au 10 A.TB).n from ⟨by decide,Yjy rfl⟩) (g1.trans g2).ad
 exact Cx.calls (S:=S2) A.ue A.xOk A.c7 A.c7 (fun st=>A.x0 (by decide)) (Yam q0' q1' hP la0 lb0 Wx lb1) s2.hr s2.w (gg.2 ⟨_,_,rfl,(e0▸EM),gg.2 ⟨_,_,rfl,(e1▸C6),by simp[aW]⟩⟩) fun μ z hz=>by simpa[VR]using hz
def lits:DataW Unit->List Value
 |.agg l=>l.filterMap fun d=>match d with
  |.lit (.int k n)=>some (.int k n)
  |_=>none
 |_=>[]
def Jb:DataW Unit->List Value
 |.agg l=>l.flatMap lits
 |_=>[]
noncomputable def gk(os:Os):World:=
 let N:=(World.settled Tryz.prog os).heap.size
 let w0:=World.holding Tryz.prog os ⟨#[.cells #[.string ⟨#[118,97,108,117,101,32,111,117,116,32,111,102,32,114,97,110,103,101]⟩] 315,.cells #[.string ⟨#[105,110,118,97,108,105,100,32,115,121,110,116,97,120]⟩] 315],#[],[]⟩
 let put (h:Array Obj) (g:Nat) (cs:Array Value):Array Obj:=h.modify g fun
  |.cells _ t frozen=>.cells cs t frozen
  |o=>o
 let h8:=put w0.heap 8 (lits Rows.laid_math_bits_deBruijn32tab).toArray
 let h9:=put h8 9 (lits Rows.laid_math_bits_deBruijn64tab).toArray
 let h3:=put h9 3 (lits Rows.laid_internal_strconv_uint64pow10).toArray
 let h7:=put h3 7 (Jb Rows.laid_unicode_utf8_acceptRanges).toArray
 let h5:=put h7 5 #[.iface 313 (.pointer (some ⟨N+0,0,none⟩))]
 let h4:=put h5 4 #[.iface 313 (.pointer (some ⟨N+1,0,none⟩))]
 let h6:=put h4 6 (lits Rows.laid_unicode_utf8_first).toArray
 {w0 with heap:=h6}
noncomputable abbrev N0:Nat:=(World.settled Tryz.prog default).heap.size
abbrev Fg:Array Value:=#[.slice none 0 0,.slice none 0 0]
theorem wk(os:Os):laidMet Tryz.prog Rows.reconstructSpacesRow.laid ((gk os).forCall (fun _ _=>0) ⟨#[],Fg,[]⟩).memory:=
 (LaidIn.of_run [8,9,3,7,5,N0,4,N0+1,6] 8 (by kernel_rfl) (by kernel_rfl) (by kernel_rfl) (by kernel_rfl)).met
theorem po(os:Os){H:Type}(enc:TypeId×Value->H):
  (OpenSpec.ofChange Rows.reconstructSpacesSpec).preRow enc Tryz.prog Tryz.f7 Rows.reconstructSpacesRow.domain false Rows.reconstructSpacesRow.laid ((gk os).forCall (fun _ _=>0) ⟨#[],Fg,[]⟩).memory Fg:=by
 have hw:(DataW.whole enc Tryz.prog ((gk os).forCall (fun _ _=>0) ⟨#[],Fg,[]⟩).memory Tryz.f7.params.toList Rows.reconstructSpacesSpec.vars false Fg.toList 8).map (fun x=>(x.1,x.2.1))=
   some ([.nil,.nil],[]):=by kernel_rfl
 obtain⟨⟨x1,x2,x3⟩,hx,vw⟩:=Option.map_eq_some_iff.1 hw
 simp only[Prod.mk.injEq]at vw
 obtain⟨rfl,rfl⟩:=vw
 exact OpenSpec.preRow_of_cond 8 hx (by kernel_rfl) (fun k hk=>by cases hk) (by kernel_rfl) (wk os)
theorem lifted(os:Os)(started:os.Started)(H:Type)(enc:TypeId×Value->H)(F:Stop.Interp):
  ReturnsInHanded {} Tryz.checked os 7 .any ((OpenSpec.ofChange Rows.reconstructSpacesSpec).preRow enc Tryz.prog Tryz.f7 Rows.reconstructSpacesRow.domain false Rows.reconstructSpacesRow.laid) (((OpenSpec.ofChange Rows.reconstructSpacesSpec).at F).post enc Tryz.prog Tryz.f7 false true false false):=by
 refine returnsInHanded_of_row (C:=Tryz.checked) (s:=OpenSpec.ofChange Rows.reconstructSpacesSpec) own started (by kernel_rfl) Tryz.func7
  (witness_row_atRef (enc:=enc) (C:=Tryz.checked) false (gk os) Fg rfl (by kernel_rfl) (by kernel_rfl) (by kernel_rfl) (po os enc)) ?_
 intro W base args ds gs before AU hW hX1 hX2 hX3 hX4 K8 hX5
 have gF:∀(j:Nat) t v,Tryz.f7.params[j]?=some t->args[j]?=some v->Value.okWide Tryz.prog W .any base t v:=AU
 have y8:=hW
 obtain⟨p,q,ZH,rD,rfl,_,_⟩:=hW
 have hA:DataW.TrodAll enc Tryz.prog W 0 (fun _=>true) true Tryz.f7.params.toList args.toList ds p:=ZH
 rw[Tryz.params7]at hA gF
 obtain⟨v0,v1,d0,d1,p0,p1,rfl,rfl,rfl,h0,h1⟩:=trodAll_two hA
 obtain⟨rfl,rfl⟩:=trodVars_none rD
 have h0k:=h0
 obtain⟨a0,lt0,ct0,rfl⟩:=okWide_slice Tryz.underlying22 (gF 0 22 v0 rfl rfl)
 obtain⟨ZI,r_⟩:=h0
 have h1k:=h1
 obtain⟨a1,NB,ct1,rfl⟩:=okWide_slice Tryz.underlying22 (gF 1 22 v1 rfl rfl)
 obtain⟨ZJ,sV⟩:=h1
 clear ZH rD AU
 simp only[List.append_nil]at y8
 have aB:∀x∈p0++p1,x.block<W.heap.size:=fun x hx=>by simpa using y8.lt x hx
 refine(tc  (qY K8) (SQ (laidMetH_iff.1 hX4).1 K8) r_ sV).mono ?_
 rintro e W' ⟨rfl,SR⟩
 have e1:((OpenSpec.ofChange Rows.reconstructSpacesSpec).at F).fn H ([d0,d1]++[])={results:=[.lit (.bool true)],args:=[d0,d1]}:=rfl
 refine⟨_,rfl,_,_,_,[],p0++p1,[],y8,?_,?_,?_,SR.frame _,fun h=>by cases h⟩
 ·rw[e1];exact trodAll_mk1 (shut_bool Tryz.underlying4 true)
 ·rw[e1];exact trodAll_mk2 (Below.trod laidOut (by kernel_rfl) (of_decide_eq_true (by kernel_rfl)) h0k SR fun x hx=>aB x (by simp[hx])) (Below.trod laidOut (by kernel_rfl) (of_decide_eq_true (by kernel_rfl)) h1k SR fun x hx=>aB x (by simp[hx]))
 ·rw[e1];rfl
end Go.Proofs.YtlbophlgohokkaaGreatDoor
