/-The statement LoopLimits: for all inputs the law returns true, and its arguments read behind the call as before. No condition beside the card's own.-/
import Derived.Test.YtgnadghjglamaaaGreatDoorCards
import Derived.Test.YtgnadghjglamaaaGreatDoorTie
import Derived.WalkKit
import Derived.ProofKit
import Derived.OpenShut
import Derived.Deep.DeepHandedRow
import Derived.Deep.DeepWitnessRowRef
import Derived.Lib.LaidTab
import Derived.Lib.LaidIn
import Derived.Carry
import Derived.ChangeArms
import Derived.Test.YtgnadghjglamaaaGreatDoorLxB
import Derived.Deep.Slices
set_option linter.all false
namespace Go.Proofs.YtgnadghjglamaaaGreatDoor
open Go Go.ChangeShapes Go.WideShapes Go.ChangeAt Go.RowKit
open Go.Deep
set_option maxRecDepth 1000000
theorem own:ownKnob Tryz.prog.godebug=none:=by kernel_rfl
theorem laidOut:laidOutB Tryz.prog=true:=by kernel_rfl
theorem rN:Tryz.prog.cellsOf 22=1:=by kernel_rfl
theorem KT:Tryz.prog.cellsOf 3=1:=by kernel_rfl
theorem KU:((begin Tryz.prog (fun _ _=>0) default).world.heap[10]?).bind Obj.row?=some ((((begin Tryz.prog (fun _ _=>0) default).world.heap[10]?).bind Obj.row?).getD (#[],0)):=by kernel_rfl
theorem vQ{W:World}(h:W.ShapedOpen Tryz.prog):11<=W.heap.size:=by
 obtain⟨cs,h1,_⟩:=h.1 10 _ _ (by rw[Go.Mx.A.globals];decide) KU;rcases Nat.lt_or_ge 10 W.heap.size with h2|h2
 ·omega
 rw[Array.getElem?_eq_none h2]at h1;cases h1
def RH:List Int:=[1,10,100,1000,10000,100000,1000000,10000000,100000000,1000000000,10000000000,100000000000,1000000000000,10000000000000,100000000000000,1000000000000000,10000000000000000,100000000000000000,1000000000000000000,10000000000000000000]
theorem RI:((begin Tryz.prog (fun _ _=>0) default).world.heap[6]?).bind Obj.row?=some ((Array.replicate 20 (.int .u64 0):Array Value),306):=by kernel_rfl
theorem RJ:Tryz.prog.globalNamed "internal/strconv.uint64pow10" =some 6:=by kernel_rfl
theorem RK:(Tryz.prog.globals[6]?).map (·.type)=some 306:=by kernel_rfl
theorem RL:Tryz.prog.cellsOf 306=20:=by kernel_rfl
theorem RM:Tryz.prog.cellsOf 217=1:=by kernel_rfl
theorem RN:(Rows.loopLimitsRow.laid.filter fun x=>x.2.handleName?.isNone).filter (fun x=>x.1== "internal/strconv.uint64pow10")=[("internal/strconv.uint64pow10",Lib.tabData .u64 RH)]:=by rfl
theorem zeG{W:World}(hl:laidMet Tryz.prog (Rows.loopLimitsRow.laid.filter fun x=>x.2.handleName?.isNone) W)(hs:W.ShapedOpen Tryz.prog):Go.Mx.jk Tryz.prog W Go.Mx.A.TB:=
 Go.Mx.qZ (k:=.u64) (zs:=RH) RJ RK Tryz.underlying306 Tryz.underlying217 RM RL RN (by rw[Go.Mx.A.globals];decide) RI hl hs
theorem Dc:Tryz.prog.cellsOf 24=4:=by kernel_rfl
open Go.Mx in
theorem xS{H:Type}{enc:TypeId×Value->H}{W:World}{fuel:Nat}{cs:Array Value}{x:DataW H×List MemPlace}
  (h:DataW.trod enc Tryz.prog W 0 (fun _=>true) true fuel 24 cs.toList=some x):∃(a b c:ByteArray) (d:Int),cs=#[.string a,.string b,.string c,.int .i64 d]/\a.data.toList.length<9223372036854775808/\b.data.toList.length<9223372036854775808/\c.data.toList.length<9223372036854775808:=by
 suffices hs:∀l,DataW.trod enc Tryz.prog W 0 (fun _=>true) true fuel 24 l=some x->∃(a b c:ByteArray) (d:Int),l=[.string a,.string b,.string c,.int .i64 d]/\a.data.toList.length<9223372036854775808/\b.data.toList.length<9223372036854775808/\c.data.toList.length<9223372036854775808 by obtain⟨a,b,c,d,e,q⟩:=hs _ h;exact⟨a,b,c,d,by rw[<-Array.toArray_toList (xs:=cs),e],q⟩
 intro l h;obtain⟨xs,n,_,rfl,hl,hlen,hf⟩:=DataW.trod_struct Tryz.underlying24 h;rw[Dc]at hl;match l,hl with
 |[c0,c1,c2,c3],_=>
  match xs,hlen with
  |[y0,y1,y2,y3],_=>
   have h0:=hf 0 _ rfl
   have h1:=hf 1 _ rfl
   have h2:=hf 2 _ rfl
   have h3:=hf 3 _ rfl
   simp[rN,KT]at h0 h1 h2 h3
   obtain⟨a,e0,q0⟩:=Zkw Tryz.underlying22 h0
   obtain⟨b,e1,q1⟩:=Zkw Tryz.underlying22 h1
   obtain⟨c,e2,q2⟩:=Zkw Tryz.underlying22 h2
   obtain⟨d,e3,_⟩:=DataW.trod_int Tryz.underlying3 h3
   simp only[List.cons.injEq,and_true]at e3
   exact⟨a,b,c,d,by rw[e0,e1,e2,e3],q0,q1,q2⟩
theorem AO:Tryz.prog.cellsOf 52=2:=by kernel_rfl
open Go.Mx in
theorem zgB{H:Type}{enc:TypeId×Value->H}{W:World}{fuel:Nat}{cs:Array Value}{x:DataW H×List MemPlace}
  (h:DataW.trod enc Tryz.prog W 0 (fun _=>true) true fuel 52 cs.toList=some x):∃(a b:ByteArray),cs=#[.string a,.string b]/\a.data.toList.length<9223372036854775808/\b.data.toList.length<9223372036854775808:=by
 suffices hs:∀l,DataW.trod enc Tryz.prog W 0 (fun _=>true) true fuel 52 l=some x->∃(a b:ByteArray),l=[.string a,.string b]/\a.data.toList.length<9223372036854775808/\b.data.toList.length<9223372036854775808 by obtain⟨a,b,e,q⟩:=hs _ h;exact⟨a,b,by rw[<-Array.toArray_toList (xs:=cs),e],q⟩
 intro l h;obtain⟨xs,n,_,rfl,hl,hlen,hf⟩:=DataW.trod_struct Tryz.underlying52 h;rw[AO]at hl;match l,hl with
 |[c0,c1],_=>
  match xs,hlen with
  |[y0,y1],_=>
   have h0:=hf 0 _ rfl
   have h1:=hf 1 _ rfl
   simp[rN]at h0 h1
   obtain⟨a,e0,q0⟩:=Zkw Tryz.underlying22 h0
   obtain⟨b,e1,q1⟩:=Zkw Tryz.underlying22 h1
   exact⟨a,b,by rw[e0,e1],q0,q1⟩
open Go.Mx in
theorem xU{H:Type}{enc:TypeId×Value->H}{W:World}{cs0:Array Value}{f0:Nat}{x0:DataW H×List MemPlace}{b1:Int}{cs2:Array Value}{f2:Nat}{x2:DataW H×List MemPlace}(hW:11<=W.heap.size)(ht:jk Tryz.prog W A.TB)(h0:DataW.trod enc Tryz.prog W 0 (fun _=>true) true f0 24 cs0.toList=some x0)(h2:DataW.trod enc Tryz.prog W 0 (fun _=>true) true f2 52 cs2.toList=some x2):
  Calls Tryz.prog 5 #[.agg cs0,.int .i64 b1,.agg cs2] W fun e W'=>e=.returned (.bool true)/\RowKit.Below W.heap.size W W':=by obtain⟨m0a,m0b,m0c,m0d,e0,zeH,zeI,zeJ⟩:=xS h0;obtain⟨m2a,m2b,e2,zeo,zeS⟩:=zgB h2;obtain⟨μ0,s0⟩:=Yi6 A.globals hW (tb:=A.TB) (by decide+kernel) ht;have hP:mC (D6 11 A.TB).h (D6 11 A.TB).n:=⟨by decide,Yir rfl⟩;exact Cx.calls (S:=(D6 11 A.TB)) A.yQ A.xOk A.c5 A.c5 (fun st=>A.x0 (by decide)) (Xa6 hP zeH zeI zeJ zeo zeS) s0.hr s0.w (fX.2 ⟨_,_,rfl,⟨_,rfl,by rw[e0];exact fX.2 ⟨_,_,rfl,(show VR μ0 (.str m0a.data.toList) (.string m0a) from by simp[VR]),fX.2 ⟨_,_,rfl,(show VR μ0 (.str m0b.data.toList) (.string m0b) from by simp[VR]),fX.2 ⟨_,_,rfl,(show VR μ0 (.str m0c.data.toList) (.string m0c) from by simp[VR]),fX.2 ⟨_,_,rfl,(show VR μ0 (.int .i64 m0d) (.int .i64 m0d) from by simp[VR]),by simp[aW]⟩⟩⟩⟩⟩,fX.2 ⟨_,_,rfl,(show VR μ0 (.int .i64 b1) (.int .i64 b1) from by simp[VR]),fX.2 ⟨_,_,rfl,⟨_,rfl,by rw[e2];exact fX.2 ⟨_,_,rfl,(show VR μ0 (.str m2a.data.toList) (.string m2a) from by simp[VR]),fX.2 ⟨_,_,rfl,(show VR μ0 (.str m2b.data.toList) (.string m2b) from by simp[VR]),by simp[aW]⟩⟩⟩,by simp[aW]⟩⟩⟩) fun μ z hz=>by simpa[VR]using hz
def lits:DataW Unit->List Value
 |.agg l=>l.filterMap fun d=>match d with
  |.lit (.int k n)=>some (.int k n)
  |_=>none
 |_=>[]
def RO:DataW Unit->List Value
 |.agg l=>l.flatMap lits
 |_=>[]
noncomputable def iO(os:Os):World:=
 let N:=(World.settled Tryz.prog os).heap.size
 let w0:=World.holding Tryz.prog os ⟨#[.cells #[.string ⟨#[118,97,108,117,101,32,111,117,116,32,111,102,32,114,97,110,103,101]⟩] 314,.cells #[.string ⟨#[105,110,118,97,108,105,100,32,115,121,110,116,97,120]⟩] 314],#[],[]⟩
 let put (h:Array Obj) (g:Nat) (cs:Array Value):Array Obj:=h.modify g fun
  |.cells _ t frozen=>.cells cs t frozen
  |o=>o
 let h9:=put w0.heap 9 (lits Rows.laid_math_bits_deBruijn32tab).toArray
 let jw:=put h9 10 (lits Rows.laid_math_bits_deBruijn64tab).toArray
 let h6:=put jw 6 (lits Rows.laid_internal_strconv_uint64pow10).toArray
 let h8:=put h6 8 (RO Rows.laid_unicode_utf8_acceptRanges).toArray
 let h5:=put h8 5 #[.iface 312 (.pointer (some ⟨N+0,0,none⟩))]
 let h4:=put h5 4 #[.iface 312 (.pointer (some ⟨N+1,0,none⟩))]
 let h7:=put h4 7 (lits Rows.laid_unicode_utf8_first).toArray
 {w0 with heap:=h7}
noncomputable abbrev N0:Nat:=(World.settled Tryz.prog default).heap.size
abbrev MP:Array Value:=#[.agg #[.string ⟨#[]⟩,.string ⟨#[]⟩,.string ⟨#[]⟩,.int .i64 0],.int .i64 0,.agg #[.string ⟨#[]⟩,.string ⟨#[]⟩]]
theorem Az(os:Os):laidMet Tryz.prog Rows.loopLimitsRow.laid ((iO os).forCall (fun _ _=>0) ⟨#[],MP,[]⟩).memory:=
 (LaidIn.of_run [9,10,6,8,5,N0,4,N0+1,7] 8 (by kernel_rfl) (by kernel_rfl) (by kernel_rfl) (by kernel_rfl)).met
theorem tC(os:Os){H:Type}(enc:TypeId×Value->H):
  (OpenSpec.ofChange Rows.loopLimitsSpec).preRow enc Tryz.prog Tryz.f5 Rows.loopLimitsRow.domain false Rows.loopLimitsRow.laid ((iO os).forCall (fun _ _=>0) ⟨#[],MP,[]⟩).memory MP:=by
 have hw:(DataW.whole enc Tryz.prog ((iO os).forCall (fun _ _=>0) ⟨#[],MP,[]⟩).memory Tryz.f5.params.toList Rows.loopLimitsSpec.vars false MP.toList 8).map (fun x=>(x.1,x.2.1))=
   some ([.agg [.lit (.string []),.lit (.string []),.lit (.string []),.lit (.int .i64 0)],.lit (.int .i64 0),.agg [.lit (.string []),.lit (.string [])]],[]):=by kernel_rfl
 obtain⟨⟨x1,x2,x3⟩,hx,zn⟩:=Option.map_eq_some_iff.1 hw;simp only[Prod.mk.injEq]at zn;obtain⟨rfl,rfl⟩:=zn;exact OpenSpec.preRow_of_cond 8 hx (by kernel_rfl) (fun k hk=>by cases hk) (by kernel_rfl) (Az os)
theorem lifted(os:Os)(started:os.Started)(H:Type)(enc:TypeId×Value->H)(F:Stop.Interp):
  ReturnsInHanded {} Tryz.checked os 5 .any ((OpenSpec.ofChange Rows.loopLimitsSpec).preRow enc Tryz.prog Tryz.f5 Rows.loopLimitsRow.domain false Rows.loopLimitsRow.laid) (((OpenSpec.ofChange Rows.loopLimitsSpec).at F).post enc Tryz.prog Tryz.f5 false true false false):=by
 refine returnsInHanded_of_row (C:=Tryz.checked) (s:=OpenSpec.ofChange Rows.loopLimitsSpec) own started (by kernel_rfl) Tryz.func5
  (witness_row_atRef (enc:=enc) (C:=Tryz.checked) false (iO os) MP rfl (by kernel_rfl) (by kernel_rfl) (by kernel_rfl) (tC os enc)) ?_;intro W base args ds gs before EK hW hX1 hX2 hX3 hX4 TY hX5;have iB:∀(j:Nat) t v,Tryz.f5.params[j]?=some t->args[j]?=some v->Value.okWide Tryz.prog W .any base t v:=EK;have CY:=hW;obtain⟨p,q,hA0,wQ,rfl,_,_⟩:=hW;have hA:DataW.TrodAll enc Tryz.prog W 0 (fun _=>true) true Tryz.f5.params.toList args.toList ds p:=hA0;rw[Tryz.params5]at hA iB;obtain⟨v0,v1,v2,d0,d1,d2,p0,p1,p2,rfl,rfl,rfl,h0,h1,h2⟩:=trodAll_three hA;obtain⟨rfl,rfl⟩:=trodVars_none wQ;have h0k:=h0;obtain⟨cs0,rfl,_⟩:=okWide_struct Tryz.underlying24 (iB 0 24 v0 rfl rfl);obtain⟨zeR,qA⟩:=h0;have h1k:=h1;obtain⟨n1,rfl⟩:=okWide_int Tryz.underlying3 (iB 1 3 v1 rfl rfl);have h2k:=h2;obtain⟨cs2,rfl,_⟩:=okWide_struct Tryz.underlying52 (iB 2 52 v2 rfl rfl);obtain⟨zeT,jv⟩:=h2;clear hA0 wQ EK;simp only[List.append_nil]at CY;have aP:∀x∈p0++p1++p2,x.block<W.heap.size:=fun x hx=>by simpa using CY.lt x hx
 refine(xU (b1:=n1) (vQ TY) (zeG (laidMetH_iff.1 hX4).1 TY) qA jv).mono ?_;rintro e W' ⟨rfl,UJ⟩;have e1:((OpenSpec.ofChange Rows.loopLimitsSpec).at F).fn H ([d0,d1,d2]++[])={results:=[.lit (.bool true)],args:=[d0,d1,d2]}:=rfl;refine⟨_,rfl,_,_,_,[],p0++p1++p2,[],CY,?_,?_,?_,UJ.frame _,fun h=>by cases h⟩
 ·rw[e1];exact trodAll_mk1 (shut_bool Tryz.underlying4 true)
 ·rw[e1,List.append_assoc];exact trodAll_mk3 (Below.trod laidOut (by kernel_rfl) (of_decide_eq_true (by kernel_rfl)) h0k UJ fun x hx=>aP x (by simp[hx])) (Below.trod laidOut (by kernel_rfl) (of_decide_eq_true (by kernel_rfl)) h1k UJ fun x hx=>aP x (by simp[hx])) (Below.trod laidOut (by kernel_rfl) (of_decide_eq_true (by kernel_rfl)) h2k UJ fun x hx=>aP x (by simp[hx]))
 rw[e1];rfl
end Go.Proofs.YtgnadghjglamaaaGreatDoor
