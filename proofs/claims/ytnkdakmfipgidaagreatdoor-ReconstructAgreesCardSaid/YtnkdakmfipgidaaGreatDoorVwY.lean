/-The statement ReconstructAgrees: for all inputs the law returns true, and its arguments read behind the call as before. No condition beside the card's own.-/
import Derived.Test.YtnkdakmfipgidaaGreatDoorCards
import Derived.Test.YtnkdakmfipgidaaGreatDoorTie
import Derived.WalkKit
import Derived.ProofKit
import Derived.OpenShut
import Derived.Deep.DeepHandedRow
import Derived.Deep.DeepWitnessRowRef
import Derived.Lib.LaidTab
import Derived.Lib.LaidIn
import Derived.Carry
import Derived.ChangeArms
import Derived.Test.YtnkdakmfipgidaaGreatDoorAwOk
import Derived.Deep.Slices
set_option linter.all false
namespace Go.Proofs.YtnkdakmfipgidaaGreatDoor
open Go Go.ChangeShapes Go.WideShapes Go.ChangeAt Go.RowKit
open Go.Deep
set_option maxRecDepth 1000000
theorem own:ownKnob Tryz.prog.godebug=none:=by kernel_rfl
theorem laidOut:laidOutB Tryz.prog=true:=by kernel_rfl
theorem tN:Tryz.prog.cellsOf 23=1:=by kernel_rfl
theorem l_:Tryz.prog.cellsOf 38=1:=by kernel_rfl
theorem KS:((begin Tryz.prog (fun _ _=>0) default).world.heap[9]?).bind Obj.row?=some ((((begin Tryz.prog (fun _ _=>0) default).world.heap[9]?).bind Obj.row?).getD (#[],0)):=by kernel_rfl
theorem yd{W:World}(h:W.ShapedOpen Tryz.prog):10<=W.heap.size:=by
 obtain⟨cs,h1,_⟩:=h.1 9 _ _ (by rw[Go.Mx.A.globals];decide) KS;rcases Nat.lt_or_ge 9 W.heap.size with h2|h2
 ·omega
 rw[Array.getElem?_eq_none h2]at h1;cases h1
def R5:List Int:=[1,10,100,1000,10000,100000,1000000,10000000,100000000,1000000000,10000000000,100000000000,1000000000000,10000000000000,100000000000000,1000000000000000,10000000000000000,100000000000000000,1000000000000000000,10000000000000000000]
theorem R6:((begin Tryz.prog (fun _ _=>0) default).world.heap[5]?).bind Obj.row?=some ((Array.replicate 20 (.int .u64 0):Array Value),277):=by kernel_rfl
theorem R7:Tryz.prog.globalNamed "internal/strconv.uint64pow10" =some 5:=by kernel_rfl
theorem R8:(Tryz.prog.globals[5]?).map (·.type)=some 277:=by kernel_rfl
theorem R9:Tryz.prog.cellsOf 277=20:=by kernel_rfl
theorem Sa:Tryz.prog.cellsOf 205=1:=by kernel_rfl
theorem Sb:(Rows.reconstructAgreesRow.laid.filter fun x=>x.2.handleName?.isNone).filter (fun x=>x.1== "internal/strconv.uint64pow10")=[("internal/strconv.uint64pow10",Lib.tabData .u64 R5)]:=by rfl
theorem zaZ{W:World}(hl:laidMet Tryz.prog (Rows.reconstructAgreesRow.laid.filter fun x=>x.2.handleName?.isNone) W)(hs:W.ShapedOpen Tryz.prog):Go.Mx.jQ Tryz.prog W Go.Mx.A.TB:=
 Go.Mx.sS (k:=.u64) (zs:=R5) R7 R8 Tryz.underlying277 Tryz.underlying205 Sa R9 Sb (by rw[Go.Mx.A.globals];decide) R6 hl hs
theorem KT:Tryz.prog.cellsOf 25=3:=by kernel_rfl
open Go.Mx in
theorem Cy{H:Type}{enc:TypeId×Value->H}{W:World}{fuel:Nat}{cs:List Value}{x:DataW H×List MemPlace}
  (h:DataW.trod enc Tryz.prog W 0 (fun _=>true) true fuel 25 cs=some x):∃a b c:jq,cs=[a.val,b.val,c.val]/\(a.ok W/\a.strs.length<9223372036854775808)/\(b.ok W/\b.strs.length<9223372036854775808)/\c.ok W/\c.strs.length<9223372036854775808:=by
 obtain⟨xs,n,_,rfl,hl,hlen,hf⟩:=DataW.trod_struct Tryz.underlying25 h;rw[KT]at hl;match cs,hl with
 |[c0,c1,c2],_=>
  match xs,hlen with
  |[y0,y1,y2],_=>
   have h0:=hf 0 _ rfl
   have h1:=hf 1 _ rfl
   have h2:=hf 2 _ rfl
   simp[tN]at h0 h1 h2
   obtain⟨a,e0,a1,a2⟩:=Go.Mx.i_ Tryz.underlying23 Tryz.underlying38 l_ h0
   obtain⟨b,e1,b1,b2⟩:=Go.Mx.i_ Tryz.underlying23 Tryz.underlying38 l_ h1
   obtain⟨c,e2,c1,c2⟩:=Go.Mx.i_ Tryz.underlying23 Tryz.underlying38 l_ h2
   exact⟨a,b,c,by rw[e0,e1,e2],⟨a1,a2⟩,⟨b1,b2⟩,c1,c2⟩
open Go.Mx in
theorem zQ{H:Type}{enc:TypeId×Value->H}{W:World}{a0:Option Addr}{l0 c0 f0:Nat}{x0:DataW H×List MemPlace}{cs1:Array Value}{f1:Nat}{x1:DataW H×List MemPlace}{a2:Option Addr}{l2 c2 f2:Nat}{x2:DataW H×List MemPlace}(hW:10<=W.heap.size)(ht:jQ Tryz.prog W A.TB)(h0:DataW.trod enc Tryz.prog W 0 (fun _=>true) true f0 22 (Value.slice a0 l0 c0).cells.toList=some x0)(h1:DataW.trod enc Tryz.prog W 0 (fun _=>true) true f1 25 cs1.toList=some x1)(h2:DataW.trod enc Tryz.prog W 0 (fun _=>true) true f2 22 (Value.slice a2 l2 c2).cells.toList=some x2):
  Calls Tryz.prog 3 #[.slice a0 l0 c0,.agg cs1,.slice a2 l2 c2] W fun e W'=>e=.returned (.bool true)/\RowKit.Below W.heap.size W W':=by obtain⟨m0,e0,PT,la0,lb0⟩:=Go.Mx.BP Tryz.underlying22 Tryz.underlying23 Tryz.underlying38 tN l_ (show DataW.trod enc Tryz.prog W 0 (fun _=>true) true f0 22 [Value.slice a0 l0 c0]=some x0 from h0);obtain⟨m1a,m1b,m1c,e1,⟨za0,za1⟩,⟨za2,za3⟩,za4,za5⟩:=Cy h1;obtain⟨m2,e2,ok2,Vi,lb2,Zq⟩:=Go.Mx.zL Tryz.underlying22 Tryz.underlying23 Tryz.underlying38 tN l_ (show DataW.trod enc Tryz.prog W 0 (fun _=>true) true f2 22 [Value.slice a2 l2 c2]=some x2 from h2);obtain⟨μ0,s0⟩:=Yqe A.globals hW (tb:=A.TB) (by decide+kernel) ht;obtain⟨μ1,S1,u0,s1,g1,r0,q0⟩:=s0.mat PT;obtain⟨μ2,S2,u1a,s2,g2,r1a,q1a⟩:=s1.list za0;obtain⟨μ3,S3,u1b,s3,g3,r1b,q1b⟩:=s2.list za2;obtain⟨μ4,S4,u1c,s4,g4,r1c,q1c⟩:=s3.list za4;obtain⟨μ5,S5,u2,s5,g5,r2,q2⟩:=s4.mat ok2;have Mk:=VR.mono (((g2.trans g3).trans g4).trans g5).mu _ _ r0;have q0':dq S5.h S5.n u0 m0.rows:=dq.ad q0 (((g2.trans g3).trans g4).trans g5).ad;have za6:=VR.mono ((g3.trans g4).trans g5).mu _ _ r1a;have za7:=q1a.ad ((g3.trans g4).trans g5).ad;have za8:=VR.mono (g4.trans g5).mu _ _ r1b;have za9:=q1b.ad (g4.trans g5).ad;have za_:=VR.mono g5.mu _ _ r1c;have zba:=q1c.ad g5.ad;have r2':=r2;have q2':dq S5.h S5.n u2 m2.rows:=q2;have hP:ik S5.h S5.n:=ik.ad (show ik (GR 10 A.TB).h (GR 10 A.TB).n from ⟨by decide,Yps rfl⟩) ((((g1.trans g2).trans g3).trans g4).trans g5).ad;exact Cx.calls (S:=S5) A.AB A.xOk A.c3 A.c3 (fun st=>A.x0 (by decide)) (Yiz q0' za7 za9 zba q2' hP la0 lb0 za1 za3 za5 Vi lb2 Zq) s5.hr s5.w (kb.2 ⟨_,_,rfl,(e0▸Mk),kb.2 ⟨_,_,rfl,⟨_,rfl,by rw[e1];exact kb.2 ⟨_,_,rfl,za6,kb.2 ⟨_,_,rfl,za8,kb.2 ⟨_,_,rfl,za_,by simp[aU]⟩⟩⟩⟩,kb.2 ⟨_,_,rfl,(e2▸r2'),by simp[aU]⟩⟩⟩) fun μ z hz=>by simpa[VR]using hz
def lits:DataW Unit->List Value
 |.agg l=>l.filterMap fun d=>match d with
  |.lit (.int k n)=>some (.int k n)
  |_=>none
 |_=>[]
def Sd:DataW Unit->List Value
 |.agg l=>l.flatMap lits
 |_=>[]
noncomputable def jg(os:Os):World:=
 let N:=(World.settled Tryz.prog os).heap.size
 let w0:=World.holding Tryz.prog os ⟨#[.cells #[.string ⟨#[118,97,108,117,101,32,111,117,116,32,111,102,32,114,97,110,103,101]⟩] 286,.cells #[.string ⟨#[105,110,118,97,108,105,100,32,115,121,110,116,97,120]⟩] 286],#[],[]⟩
 let put (h:Array Obj) (g:Nat) (cs:Array Value):Array Obj:=h.modify g fun
  |.cells _ t frozen=>.cells cs t frozen
  |o=>o
 let h8:=put w0.heap 8 (lits Rows.laid_math_bits_deBruijn32tab).toArray
 let h9:=put h8 9 (lits Rows.laid_math_bits_deBruijn64tab).toArray
 let h5:=put h9 5 (lits Rows.laid_internal_strconv_uint64pow10).toArray
 let h7:=put h5 7 (Sd Rows.laid_unicode_utf8_acceptRanges).toArray
 let h4:=put h7 4 #[.iface 284 (.pointer (some ⟨N+0,0,none⟩))]
 let h3:=put h4 3 #[.iface 284 (.pointer (some ⟨N+1,0,none⟩))]
 let h6:=put h3 6 (lits Rows.laid_unicode_utf8_first).toArray
 {w0 with heap:=h6}
noncomputable abbrev N0:Nat:=(World.settled Tryz.prog default).heap.size
abbrev M4:Array Value:=#[.slice none 0 0,.agg #[.slice none 0 0,.slice none 0 0,.slice none 0 0],.slice none 0 0]
theorem Cz(os:Os):laidMet Tryz.prog Rows.reconstructAgreesRow.laid ((jg os).forCall (fun _ _=>0) ⟨#[],M4,[]⟩).memory:=
 (LaidIn.of_run [8,9,5,7,4,N0,3,N0+1,6] 8 (by kernel_rfl) (by kernel_rfl) (by kernel_rfl) (by kernel_rfl)).met
theorem vk(os:Os){H:Type}(enc:TypeId×Value->H):
  (OpenSpec.ofChange Rows.reconstructAgreesSpec).preRow enc Tryz.prog Tryz.f3 Rows.reconstructAgreesRow.domain false Rows.reconstructAgreesRow.laid ((jg os).forCall (fun _ _=>0) ⟨#[],M4,[]⟩).memory M4:=by
 have hw:(DataW.whole enc Tryz.prog ((jg os).forCall (fun _ _=>0) ⟨#[],M4,[]⟩).memory Tryz.f3.params.toList Rows.reconstructAgreesSpec.vars false M4.toList 8).map (fun x=>(x.1,x.2.1))=
   some ([.nil,.agg [.nil,.nil,.nil],.nil],[]):=by kernel_rfl
 obtain⟨⟨x1,x2,x3⟩,hx,wD⟩:=Option.map_eq_some_iff.1 hw;simp only[Prod.mk.injEq]at wD;obtain⟨rfl,rfl⟩:=wD;exact OpenSpec.preRow_of_cond 8 hx (by kernel_rfl) (fun k hk=>by cases hk) (by kernel_rfl) (Cz os)
theorem lifted(os:Os)(started:os.Started)(H:Type)(enc:TypeId×Value->H)(F:Stop.Interp):
  ReturnsInHanded {} Tryz.checked os 3 .any ((OpenSpec.ofChange Rows.reconstructAgreesSpec).preRow enc Tryz.prog Tryz.f3 Rows.reconstructAgreesRow.domain false Rows.reconstructAgreesRow.laid) (((OpenSpec.ofChange Rows.reconstructAgreesSpec).at F).post enc Tryz.prog Tryz.f3 false true false false):=by
 refine returnsInHanded_of_row (C:=Tryz.checked) (s:=OpenSpec.ofChange Rows.reconstructAgreesSpec) own started (by kernel_rfl) Tryz.func3
  (witness_row_atRef (enc:=enc) (C:=Tryz.checked) false (jg os) M4 rfl (by kernel_rfl) (by kernel_rfl) (by kernel_rfl) (vk os enc)) ?_;intro W base args ds gs before HK hW Tg Th hX3 Ob Dz hX5;have iV:∀(j:Nat) t v,Tryz.f3.params[j]?=some t->args[j]?=some v->Value.okWide Tryz.prog W .any base t v:=HK;have Fz:=hW;obtain⟨p,q,hA0,yJ,rfl,_,_⟩:=hW;have hA:DataW.TrodAll enc Tryz.prog W 0 (fun _=>true) true Tryz.f3.params.toList args.toList ds p:=hA0;rw[Tryz.params3]at hA iV;obtain⟨v0,v1,v2,d0,d1,d2,p0,p1,p2,rfl,rfl,rfl,h0,h1,h2⟩:=trodAll_three hA;obtain⟨rfl,rfl⟩:=trodVars_none yJ;have h0k:=h0;obtain⟨a0,lt0,ct0,rfl⟩:=okWide_slice Tryz.underlying22 (iV 0 22 v0 rfl rfl);obtain⟨zbj,vV⟩:=h0;have h1k:=h1;obtain⟨cs1,rfl,_⟩:=okWide_struct Tryz.underlying25 (iV 1 25 v1 rfl rfl);obtain⟨zbk,BO⟩:=h1;have h2k:=h2;obtain⟨a2,VS,ct2,rfl⟩:=okWide_slice Tryz.underlying22 (iV 2 22 v2 rfl rfl);obtain⟨zbl,dT⟩:=h2;clear hA0 yJ HK;simp only[List.append_nil]at Fz;have aC:∀x∈p0++p1++p2,x.block<W.heap.size:=fun x hx=>by simpa using Fz.lt x hx
 refine(zQ  (yd Dz) (zaZ (laidMetH_iff.1 Ob).1 Dz) vV BO dT).mono ?_;rintro e W' ⟨rfl,VX⟩;have e1:((OpenSpec.ofChange Rows.reconstructAgreesSpec).at F).fn H ([d0,d1,d2]++[])={results:=[.lit (.bool true)],args:=[d0,d1,d2]}:=rfl;refine⟨_,rfl,_,_,_,[],p0++p1++p2,[],Fz,?_,?_,?_,VX.frame _,fun h=>by cases h⟩
 ·rw[e1];exact trodAll_mk1 (shut_bool Tryz.underlying4 true)
 ·rw[e1,List.append_assoc];exact trodAll_mk3 (Below.trod laidOut (by kernel_rfl) (of_decide_eq_true (by kernel_rfl)) h0k VX fun x hx=>aC x (by simp[hx])) (Below.trod laidOut (by kernel_rfl) (of_decide_eq_true (by kernel_rfl)) h1k VX fun x hx=>aC x (by simp[hx])) (Below.trod laidOut (by kernel_rfl) (of_decide_eq_true (by kernel_rfl)) h2k VX fun x hx=>aC x (by simp[hx]))
 rw[e1];rfl
end Go.Proofs.YtnkdakmfipgidaaGreatDoor
