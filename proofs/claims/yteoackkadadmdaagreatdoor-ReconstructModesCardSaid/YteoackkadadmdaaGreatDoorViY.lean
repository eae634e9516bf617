/-The statement ReconstructModes: for all inputs the law returns true, and its arguments read behind the call as before. No condition beside the card's own.-/
import Derived.Test.YteoackkadadmdaaGreatDoorCards
import Derived.Test.YteoackkadadmdaaGreatDoorTie
import Derived.WalkKit
import Derived.ProofKit
import Derived.OpenShut
import Derived.Deep.DeepHandedRow
import Derived.Deep.DeepWitnessRowRef
import Derived.Lib.LaidTab
import Derived.Lib.LaidIn
import Derived.Carry
import Derived.ChangeArms
import Derived.Test.YteoackkadadmdaaGreatDoorAwOk
import Derived.Deep.Slices
set_option linter.all false
namespace Go.Proofs.YteoackkadadmdaaGreatDoor
open Go Go.ChangeShapes Go.WideShapes Go.ChangeAt Go.RowKit
open Go.Deep
set_option maxRecDepth 1000000
theorem own:ownKnob Tryz.prog.godebug=none:=by kernel_rfl
theorem laidOut:laidOutB Tryz.prog=true:=by kernel_rfl
theorem xu:Tryz.prog.cellsOf 23=1:=by kernel_rfl
theorem rL:Tryz.prog.cellsOf 40=1:=by kernel_rfl
theorem HL:((begin Tryz.prog (fun _ _=>0) default).world.heap[9]?).bind Obj.row?=some ((((begin Tryz.prog (fun _ _=>0) default).world.heap[9]?).bind Obj.row?).getD (#[],0)):=by kernel_rfl
theorem wm{W:World}(h:W.ShapedOpen Tryz.prog):10<=W.heap.size:=by
 obtain⟨cs,h1,_⟩:=h.1 9 _ _ (by rw[Go.Mx.A.globals];decide) HL
 rcases Nat.lt_or_ge 9 W.heap.size with h2|h2
 ·omega
 ·rw[Array.getElem?_eq_none h2]at h1;cases h1
def NK:List Int:=[1,10,100,1000,10000,100000,1000000,10000000,100000000,1000000000,10000000000,100000000000,1000000000000,10000000000000,100000000000000,1000000000000000,10000000000000000,100000000000000000,1000000000000000000,10000000000000000000]
theorem NL:((begin Tryz.prog (fun _ _=>0) default).world.heap[5]?).bind Obj.row?=some ((Array.replicate 20 (.int .u64 0):Array Value),286):=by kernel_rfl
theorem NM:Tryz.prog.globalNamed "internal/strconv.uint64pow10" =some 5:=by kernel_rfl
theorem NN:(Tryz.prog.globals[5]?).map (·.type)=some 286:=by kernel_rfl
theorem NO:Tryz.prog.cellsOf 286=20:=by kernel_rfl
theorem NP:Tryz.prog.cellsOf 203=1:=by kernel_rfl
theorem NQ:(Rows.reconstructModesRow.laid.filter fun x=>x.2.handleName?.isNone).filter (fun x=>x.1== "internal/strconv.uint64pow10")=[("internal/strconv.uint64pow10",Lib.tabData .u64 NK)]:=by rfl
theorem Y0{W:World}(hl:laidMet Tryz.prog (Rows.reconstructModesRow.laid.filter fun x=>x.2.handleName?.isNone) W)(hs:W.ShapedOpen Tryz.prog):Go.Mx.jg Tryz.prog W Go.Mx.A.TB:=
 Go.Mx.rA (k:=.u64) (zs:=NK) NM NN Tryz.underlying286 Tryz.underlying203 NP NO NQ (by rw[Go.Mx.A.globals];decide) NL hl hs
open Go.Mx in
theorem x9{H:Type}{enc:TypeId×Value->H}{W:World}{a0:Option Addr}{l0 c0 f0:Nat}{x0:DataW H×List MemPlace}{a1:Option Addr}{l1 c1 f1:Nat}{x1:DataW H×List MemPlace}{a2:Option Addr}{l2 c2 f2:Nat}{x2:DataW H×List MemPlace}(hW:10<=W.heap.size)(ht:jg Tryz.prog W A.TB)(h0:DataW.trod enc Tryz.prog W 0 (fun _=>true) true f0 22 (Value.slice a0 l0 c0).cells.toList=some x0)(h1:DataW.trod enc Tryz.prog W 0 (fun _=>true) true f1 23 (Value.slice a1 l1 c1).cells.toList=some x1)(h2:DataW.trod enc Tryz.prog W 0 (fun _=>true) true f2 22 (Value.slice a2 l2 c2).cells.toList=some x2):
  Calls Tryz.prog 3 #[.slice a0 l0 c0,.slice a1 l1 c1,.slice a2 l2 c2] W fun e W'=>e=.returned (.bool true)/\RowKit.Below W.heap.size W W':=by
 obtain⟨m0,e0,Ks,la0,lb0⟩:=Go.Mx.tA Tryz.underlying22 Tryz.underlying23 Tryz.underlying40 xu rL (show DataW.trod enc Tryz.prog W 0 (fun _=>true) true f0 22 [Value.slice a0 l0 c0]=some x0 from h0)
 obtain⟨m1,e1,ok1,la1⟩:=Go.Mx.pW Tryz.underlying23 Tryz.underlying40 rL (show DataW.trod enc Tryz.prog W 0 (fun _=>true) true f1 23 [Value.slice a1 l1 c1]=some x1 from h1)
 obtain⟨m2,e2,ok2,Jo,Ye⟩:=Go.Mx.tA Tryz.underlying22 Tryz.underlying23 Tryz.underlying40 xu rL (show DataW.trod enc Tryz.prog W 0 (fun _=>true) true f2 22 [Value.slice a2 l2 c2]=some x2 from h2)
 obtain⟨μ0,s0⟩:=Yma A.globals hW (tb:=A.TB) (by decide+kernel) ht
 obtain⟨μ1,S1,u0,s1,g1,r0,q0⟩:=s0.mat Ks
 obtain⟨μ2,S2,u1,s2,g2,r1,q1⟩:=s1.list ok1
 obtain⟨μ3,S3,u2,s3,g3,r2,q2⟩:=s2.mat ok2
 have Jf:=VR.mono (g2.trans g3).mu _ _ r0
 have q0':eP S3.h S3.n u0 m0.rows:=eP.ae q0 (g2.trans g3).ae
 have EH:=VR.mono g3.mu _ _ r1
 have q1':=q1.ae g3.ae
 have r2':=r2
 have q2':eP S3.h S3.n u2 m2.rows:=q2
 have hP:kJ S3.h S3.n:=kJ.ae (show kJ (Ei 10 A.TB).h (Ei 10 A.TB).n from ⟨by decide,Ylp rfl⟩) ((g1.trans g2).trans g3).ae
 exact Cx.calls (S:=S3) A.yR A.xOk A.c3 A.c3 (fun st=>A.x0 (by decide)) (Yh0 q0' q1' q2' hP la0 lb0 la1 Jo Ye) s3.hr s3.w (ke.2 ⟨_,_,rfl,(e0▸Jf),ke.2 ⟨_,_,rfl,(e1▸EH),ke.2 ⟨_,_,rfl,(e2▸r2'),by simp[bb]⟩⟩⟩) fun μ z hz=>by simpa[VR]using hz
def lits:DataW Unit->List Value
 |.agg l=>l.filterMap fun d=>match d with
  |.lit (.int k n)=>some (.int k n)
  |_=>none
 |_=>[]
def NR:DataW Unit->List Value
 |.agg l=>l.flatMap lits
 |_=>[]
noncomputable def ix(os:Os):World:=
 let N:=(World.settled Tryz.prog os).heap.size
 let w0:=World.holding Tryz.prog os ⟨#[.cells #[.string ⟨#[118,97,108,117,101,32,111,117,116,32,111,102,32,114,97,110,103,101]⟩] 295,.cells #[.string ⟨#[105,110,118,97,108,105,100,32,115,121,110,116,97,120]⟩] 295],#[],[]⟩
 let put (h:Array Obj) (g:Nat) (cs:Array Value):Array Obj:=h.modify g fun
  |.cells _ t frozen=>.cells cs t frozen
  |o=>o
 let h8:=put w0.heap 8 (lits Rows.laid_math_bits_deBruijn32tab).toArray
 let h9:=put h8 9 (lits Rows.laid_math_bits_deBruijn64tab).toArray
 let h5:=put h9 5 (lits Rows.laid_internal_strconv_uint64pow10).toArray
 let h7:=put h5 7 (NR Rows.laid_unicode_utf8_acceptRanges).toArray
 let h4:=put h7 4 #[.iface 293 (.pointer (some ⟨N+0,0,none⟩))]
 let h3:=put h4 3 #[.iface 293 (.pointer (some ⟨N+1,0,none⟩))]
 let h6:=put h3 6 (lits Rows.laid_unicode_utf8_first).toArray
 {w0 with heap:=h6}
noncomputable abbrev N0:Nat:=(World.settled Tryz.prog default).heap.size
abbrev JD:Array Value:=#[.slice none 0 0,.slice none 0 0,.slice none 0 0]
theorem Av(os:Os):laidMet Tryz.prog Rows.reconstructModesRow.laid ((ix os).forCall (fun _ _=>0) ⟨#[],JD,[]⟩).memory:=
 (LaidIn.of_run [8,9,5,7,4,N0,3,N0+1,6] 8 (by kernel_rfl) (by kernel_rfl) (by kernel_rfl) (by kernel_rfl)).met
theorem tB(os:Os){H:Type}(enc:TypeId×Value->H):
  (OpenSpec.ofChange Rows.reconstructModesSpec).preRow enc Tryz.prog Tryz.f3 Rows.reconstructModesRow.domain false Rows.reconstructModesRow.laid ((ix os).forCall (fun _ _=>0) ⟨#[],JD,[]⟩).memory JD:=by
 have hw:(DataW.whole enc Tryz.prog ((ix os).forCall (fun _ _=>0) ⟨#[],JD,[]⟩).memory Tryz.f3.params.toList Rows.reconstructModesSpec.vars false JD.toList 8).map (fun x=>(x.1,x.2.1))=
   some ([.nil,.nil,.nil],[]):=by kernel_rfl
 obtain⟨⟨x1,x2,x3⟩,hx,sW⟩:=Option.map_eq_some_iff.1 hw
 simp only[Prod.mk.injEq]at sW
 obtain⟨rfl,rfl⟩:=sW
 exact OpenSpec.preRow_of_cond 8 hx (by kernel_rfl) (fun k hk=>by cases hk) (by kernel_rfl) (Av os)
theorem lifted(os:Os)(started:os.Started)(H:Type)(enc:TypeId×Value->H)(F:Stop.Interp):
  ReturnsInHanded {} Tryz.checked os 3 .any ((OpenSpec.ofChange Rows.reconstructModesSpec).preRow enc Tryz.prog Tryz.f3 Rows.reconstructModesRow.domain false Rows.reconstructModesRow.laid) (((OpenSpec.ofChange Rows.reconstructModesSpec).at F).post enc Tryz.prog Tryz.f3 false true false false):=by
 refine returnsInHanded_of_row (C:=Tryz.checked) (s:=OpenSpec.ofChange Rows.reconstructModesSpec) own started (by kernel_rfl) Tryz.func3
  (witness_row_atRef (enc:=enc) (C:=Tryz.checked) false (ix os) JD rfl (by kernel_rfl) (by kernel_rfl) (by kernel_rfl) (tB os enc)) ?_
 intro W base args ds gs before EP hW hX1 hX2 hX3 hX4 PZ hX5
 have gZ:∀(j:Nat) t v,Tryz.f3.params[j]?=some t->args[j]?=some v->Value.okWide Tryz.prog W .any base t v:=EP
 have qP:=hW
 obtain⟨p,q,hA0,wQ,rfl,_,_⟩:=hW
 have hA:DataW.TrodAll enc Tryz.prog W 0 (fun _=>true) true Tryz.f3.params.toList args.toList ds p:=hA0
 rw[Tryz.params3]at hA gZ
 obtain⟨v0,v1,v2,d0,d1,d2,p0,p1,p2,rfl,rfl,rfl,h0,h1,h2⟩:=trodAll_three hA
 obtain⟨rfl,rfl⟩:=trodVars_none wQ
 have h0k:=h0
 obtain⟨a0,lt0,ct0,rfl⟩:=okWide_slice Tryz.underlying22 (gZ 0 22 v0 rfl rfl)
 obtain⟨zah,tY⟩:=h0
 have h1k:=h1
 obtain⟨a1,Tw,ct1,rfl⟩:=okWide_slice Tryz.underlying23 (gZ 1 23 v1 rfl rfl)
 obtain⟨zai,r_⟩:=h1
 have h2k:=h2
 obtain⟨a2,HU,ct2,rfl⟩:=okWide_slice Tryz.underlying22 (gZ 2 22 v2 rfl rfl)
 obtain⟨zaj,c_⟩:=h2
 clear hA0 wQ EP
 simp only[List.append_nil]at qP
 have ay:∀x∈p0++p1++p2,x.block<W.heap.size:=fun x hx=>by simpa using qP.lt x hx
 refine(x9  (wm PZ) (Y0 (laidMetH_iff.1 hX4).1 PZ) tY r_ c_).mono ?_
 rintro e W' ⟨rfl,Q1⟩
 have e1:((OpenSpec.ofChange Rows.reconstructModesSpec).at F).fn H ([d0,d1,d2]++[])={results:=[.lit (.bool true)],args:=[d0,d1,d2]}:=rfl
 refine⟨_,rfl,_,_,_,[],p0++p1++p2,[],qP,?_,?_,?_,Q1.frame _,fun h=>by cases h⟩
 ·rw[e1];exact trodAll_mk1 (shut_bool Tryz.underlying4 true)
 ·rw[e1,List.append_assoc];exact trodAll_mk3 (Below.trod laidOut (by kernel_rfl) (of_decide_eq_true (by kernel_rfl)) h0k Q1 fun x hx=>ay x (by simp[hx])) (Below.trod laidOut (by kernel_rfl) (of_decide_eq_true (by kernel_rfl)) h1k Q1 fun x hx=>ay x (by simp[hx])) (Below.trod laidOut (by kernel_rfl) (of_decide_eq_true (by kernel_rfl)) h2k Q1 fun x hx=>ay x (by simp[hx]))
 ·rw[e1];rfl
end Go.Proofs.YteoackkadadmdaaGreatDoor
