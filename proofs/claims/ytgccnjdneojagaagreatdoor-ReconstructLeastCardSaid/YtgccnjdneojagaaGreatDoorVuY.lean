/-The statement ReconstructLeast: for all inputs the law returns true, and its arguments read behind the call as before. No condition beside the card's own.-/
import Derived.Test.YtgccnjdneojagaaGreatDoorCards
import Derived.Test.YtgccnjdneojagaaGreatDoorTie
import Derived.WalkKit
import Derived.ProofKit
import Derived.OpenShut
import Derived.Deep.DeepHandedRow
import Derived.Deep.DeepWitnessRowRef
import Derived.Lib.LaidTab
import Derived.Lib.LaidIn
import Derived.Carry
import Derived.ChangeArms
import Derived.Test.YtgccnjdneojagaaGreatDoorAwOk
import Derived.Deep.Slices
set_option linter.all false
namespace Go.Proofs.YtgccnjdneojagaaGreatDoor
open Go Go.ChangeShapes Go.WideShapes Go.ChangeAt Go.RowKit
open Go.Deep
set_option maxRecDepth 1000000
theorem own:ownKnob Tryz.prog.godebug=none:=by kernel_rfl
theorem laidOut:laidOutB Tryz.prog=true:=by kernel_rfl
theorem zC:Tryz.prog.cellsOf 23=1:=by kernel_rfl
theorem mD:Tryz.prog.cellsOf 40=1:=by kernel_rfl
theorem K3:((begin Tryz.prog (fun _ _=>0) default).world.heap[9]?).bind Obj.row?=some ((((begin Tryz.prog (fun _ _=>0) default).world.heap[9]?).bind Obj.row?).getD (#[],0)):=by kernel_rfl
theorem yC{W:World}(h:W.ShapedOpen Tryz.prog):10<=W.heap.size:=by
 obtain⟨cs,h1,_⟩:=h.1 9 _ _ (by rw[Go.Mx.A.globals];decide) K3;rcases Nat.lt_or_ge 9 W.heap.size with h2|h2
 ·omega
 rw[Array.getElem?_eq_none h2]at h1;cases h1
def SD:List Int:=[1,10,100,1000,10000,100000,1000000,10000000,100000000,1000000000,10000000000,100000000000,1000000000000,10000000000000,100000000000000,1000000000000000,10000000000000000,100000000000000000,1000000000000000000,10000000000000000000]
theorem SE:((begin Tryz.prog (fun _ _=>0) default).world.heap[3]?).bind Obj.row?=some ((Array.replicate 20 (.int .u64 0):Array Value),274):=by kernel_rfl
theorem SF:Tryz.prog.globalNamed "internal/strconv.uint64pow10" =some 3:=by kernel_rfl
theorem SG:(Tryz.prog.globals[3]?).map (·.type)=some 274:=by kernel_rfl
theorem SH:Tryz.prog.cellsOf 274=20:=by kernel_rfl
theorem SI:Tryz.prog.cellsOf 199=1:=by kernel_rfl
theorem SJ:(Rows.reconstructLeastRow.laid.filter fun x=>x.2.handleName?.isNone).filter (fun x=>x.1== "internal/strconv.uint64pow10")=[("internal/strconv.uint64pow10",Lib.tabData .u64 SD)]:=by rfl
theorem zbj{W:World}(hl:laidMet Tryz.prog (Rows.reconstructLeastRow.laid.filter fun x=>x.2.handleName?.isNone) W)(hs:W.ShapedOpen Tryz.prog):Go.Mx.ke Tryz.prog W Go.Mx.A.TB:=
 Go.Mx.tl (k:=.u64) (zs:=SD) SF SG Tryz.underlying274 Tryz.underlying199 SI SH SJ (by rw[Go.Mx.A.globals];decide) SE hl hs
theorem K4:Tryz.prog.cellsOf 25=3:=by kernel_rfl
open Go.Mx in
theorem CH{H:Type}{enc:TypeId×Value->H}{W:World}{fuel:Nat}{cs:List Value}{x:DataW H×List MemPlace}
  (h:DataW.trod enc Tryz.prog W 0 (fun _=>true) true fuel 25 cs=some x):∃a b c:jR,cs=[a.val,b.val,c.val]/\(a.ok W/\a.strs.length<9223372036854775808)/\(b.ok W/\b.strs.length<9223372036854775808)/\c.ok W/\c.strs.length<9223372036854775808:=by
 obtain⟨xs,n,_,rfl,hl,hlen,hf⟩:=DataW.trod_struct Tryz.underlying25 h;rw[K4]at hl;match cs,hl with
 |[c0,c1,c2],_=>
  match xs,hlen with
  |[y0,y1,y2],_=>
   have h0:=hf 0 _ rfl
   have h1:=hf 1 _ rfl
   have h2:=hf 2 _ rfl
   simp[zC]at h0 h1 h2
   obtain⟨a,e0,a1,a2⟩:=Go.Mx.i_ Tryz.underlying23 Tryz.underlying40 mD h0
   obtain⟨b,e1,b1,b2⟩:=Go.Mx.i_ Tryz.underlying23 Tryz.underlying40 mD h1
   obtain⟨c,e2,c1,c2⟩:=Go.Mx.i_ Tryz.underlying23 Tryz.underlying40 mD h2
   exact⟨a,b,c,by rw[e0,e1,e2],⟨a1,a2⟩,⟨b1,b2⟩,c1,c2⟩
open Go.Mx in
theorem Al{H:Type}{enc:TypeId×Value->H}{W:World}{a0:Option Addr}{l0 c0 f0:Nat}{x0:DataW H×List MemPlace}{cs1:Array Value}{f1:Nat}{x1:DataW H×List MemPlace}{a2:Option Addr}{l2 c2 f2:Nat}{x2:DataW H×List MemPlace}(hW:10<=W.heap.size)(ht:ke Tryz.prog W A.TB)(h0:DataW.trod enc Tryz.prog W 0 (fun _=>true) true f0 22 (Value.slice a0 l0 c0).cells.toList=some x0)(h1:DataW.trod enc Tryz.prog W 0 (fun _=>true) true f1 25 cs1.toList=some x1)(h2:DataW.trod enc Tryz.prog W 0 (fun _=>true) true f2 23 (Value.slice a2 l2 c2).cells.toList=some x2):
  Calls Tryz.prog 3 #[.slice a0 l0 c0,.agg cs1,.slice a2 l2 c2] W fun e W'=>e=.returned (.bool true)/\RowKit.Below W.heap.size W W':=by obtain⟨m0,e0,PR,la0,lb0⟩:=Go.Mx.Br Tryz.underlying22 Tryz.underlying23 Tryz.underlying40 zC mD (show DataW.trod enc Tryz.prog W 0 (fun _=>true) true f0 22 [Value.slice a0 l0 c0]=some x0 from h0);obtain⟨m1a,m1b,m1c,e1,⟨zbk,zbl⟩,⟨zbm,zbn⟩,zbo,zbp⟩:=CH h1;obtain⟨m2,e2,ok2,Q4,lb2⟩:=Go.Mx.xx Tryz.underlying23 Tryz.underlying40 mD (show DataW.trod enc Tryz.prog W 0 (fun _=>true) true f2 23 [Value.slice a2 l2 c2]=some x2 from h2);obtain⟨μ0,s0⟩:=Yr9 A.globals hW (tb:=A.TB) (by decide+kernel) ht;obtain⟨μ1,S1,u0,s1,g1,r0,q0⟩:=s0.mat PR;obtain⟨μ2,S2,u1a,s2,g2,r1a,q1a⟩:=s1.list zbk;obtain⟨μ3,S3,u1b,s3,g3,r1b,q1b⟩:=s2.list zbm;obtain⟨μ4,S4,u1c,s4,g4,r1c,Lz⟩:=s3.list zbo;obtain⟨μ5,S5,u2,s5,g5,r2,q2⟩:=s4.list ok2;have MI:=VR.mono (((g2.trans g3).trans g4).trans g5).mu _ _ r0;have q0':eN S5.h S5.n u0 m0.rows:=eN.ad q0 (((g2.trans g3).trans g4).trans g5).ad;have zbq:=VR.mono ((g3.trans g4).trans g5).mu _ _ r1a;have zbr:=q1a.ad ((g3.trans g4).trans g5).ad;have zbs:=VR.mono (g4.trans g5).mu _ _ r1b;have zbt:=q1b.ad (g4.trans g5).ad;have zbu:=VR.mono g5.mu _ _ r1c;have zbv:=Lz.ad g5.ad;have r2':=r2;have q2':=q2;have hP:iG S5.h S5.n:=iG.ad (show iG (Ga 10 A.TB).h (Ga 10 A.TB).n from ⟨by decide,Yre rfl⟩) ((((g1.trans g2).trans g3).trans g4).trans g5).ad;exact Cx.calls (S:=S5) A.A1 A.xOk A.c3 A.c3 (fun st=>A.x0 (by decide)) (Ync q0' zbr zbt zbv q2' hP la0 lb0 zbl zbn zbp Q4 lb2) s5.hr s5.w (kO.2 ⟨_,_,rfl,(e0▸MI),kO.2 ⟨_,_,rfl,⟨_,rfl,by rw[e1];exact kO.2 ⟨_,_,rfl,zbq,kO.2 ⟨_,_,rfl,zbs,kO.2 ⟨_,_,rfl,zbu,by simp[aY]⟩⟩⟩⟩,kO.2 ⟨_,_,rfl,(e2▸r2'),by simp[aY]⟩⟩⟩) fun μ z hz=>by simpa[VR]using hz
def lits:DataW Unit->List Value
 |.agg l=>l.filterMap fun d=>match d with
  |.lit (.int k n)=>some (.int k n)
  |_=>none
 |_=>[]
def SK:DataW Unit->List Value
 |.agg l=>l.flatMap lits
 |_=>[]
noncomputable def jl(os:Os):World:=
 let N:=(World.settled Tryz.prog os).heap.size
 let w0:=World.holding Tryz.prog os ⟨#[.cells #[.string ⟨#[118,97,108,117,101,32,111,117,116,32,111,102,32,114,97,110,103,101]⟩] 291,.cells #[.string ⟨#[105,110,118,97,108,105,100,32,115,121,110,116,97,120]⟩] 291],#[],[]⟩
 let put (h:Array Obj) (g:Nat) (cs:Array Value):Array Obj:=h.modify g fun
  |.cells _ t frozen=>.cells cs t frozen
  |o=>o
 let h8:=put w0.heap 8 (lits Rows.laid_math_bits_deBruijn32tab).toArray
 let h9:=put h8 9 (lits Rows.laid_math_bits_deBruijn64tab).toArray
 let h3:=put h9 3 (lits Rows.laid_internal_strconv_uint64pow10).toArray
 let h7:=put h3 7 (SK Rows.laid_unicode_utf8_acceptRanges).toArray
 let h5:=put h7 5 #[.iface 289 (.pointer (some ⟨N+0,0,none⟩))]
 let h4:=put h5 4 #[.iface 289 (.pointer (some ⟨N+1,0,none⟩))]
 let h6:=put h4 6 (lits Rows.laid_unicode_utf8_first).toArray
 {w0 with heap:=h6}
noncomputable abbrev N0:Nat:=(World.settled Tryz.prog default).heap.size
abbrev M7:Array Value:=#[.slice none 0 0,.agg #[.slice none 0 0,.slice none 0 0,.slice none 0 0],.slice none 0 0]
theorem CI(os:Os):laidMet Tryz.prog Rows.reconstructLeastRow.laid ((jl os).forCall (fun _ _=>0) ⟨#[],M7,[]⟩).memory:=
 (LaidIn.of_run [8,9,3,7,5,N0,4,N0+1,6] 8 (by kernel_rfl) (by kernel_rfl) (by kernel_rfl) (by kernel_rfl)).met
theorem wi(os:Os){H:Type}(enc:TypeId×Value->H):
  (OpenSpec.ofChange Rows.reconstructLeastSpec).preRow enc Tryz.prog Tryz.f3 Rows.reconstructLeastRow.domain false Rows.reconstructLeastRow.laid ((jl os).forCall (fun _ _=>0) ⟨#[],M7,[]⟩).memory M7:=by
 have hw:(DataW.whole enc Tryz.prog ((jl os).forCall (fun _ _=>0) ⟨#[],M7,[]⟩).memory Tryz.f3.params.toList Rows.reconstructLeastSpec.vars false M7.toList 8).map (fun x=>(x.1,x.2.1))=
   some ([.nil,.agg [.nil,.nil,.nil],.nil],[]):=by kernel_rfl
 obtain⟨⟨x1,x2,x3⟩,hx,xe⟩:=Option.map_eq_some_iff.1 hw;simp only[Prod.mk.injEq]at xe;obtain⟨rfl,rfl⟩:=xe;exact OpenSpec.preRow_of_cond 8 hx (by kernel_rfl) (fun k hk=>by cases hk) (by kernel_rfl) (CI os)
theorem lifted(os:Os)(started:os.Started)(H:Type)(enc:TypeId×Value->H)(F:Stop.Interp):
  ReturnsInHanded {} Tryz.checked os 3 .any ((OpenSpec.ofChange Rows.reconstructLeastSpec).preRow enc Tryz.prog Tryz.f3 Rows.reconstructLeastRow.domain false Rows.reconstructLeastRow.laid) (((OpenSpec.ofChange Rows.reconstructLeastSpec).at F).post enc Tryz.prog Tryz.f3 false true false false):=by
 refine returnsInHanded_of_row (C:=Tryz.checked) (s:=OpenSpec.ofChange Rows.reconstructLeastSpec) own started (by kernel_rfl) Tryz.func3
  (witness_row_atRef (enc:=enc) (C:=Tryz.checked) false (jl os) M7 rfl (by kernel_rfl) (by kernel_rfl) (by kernel_rfl) (wi os enc)) ?_;intro W base args ds gs before HL hW hX1 hX2 hX3 hX4 DQ hX5;have iY:∀(j:Nat) t v,Tryz.f3.params[j]?=some t->args[j]?=some v->Value.okWide Tryz.prog W .any base t v:=HL;have Fy:=hW;obtain⟨p,q,hA0,zc,rfl,_,_⟩:=hW;have hA:DataW.TrodAll enc Tryz.prog W 0 (fun _=>true) true Tryz.f3.params.toList args.toList ds p:=hA0;rw[Tryz.params3]at hA iY;obtain⟨v0,v1,v2,d0,d1,d2,p0,p1,p2,rfl,rfl,rfl,h0,h1,h2⟩:=trodAll_three hA;obtain⟨rfl,rfl⟩:=trodVars_none zc;have h0k:=h0;obtain⟨a0,lt0,ct0,rfl⟩:=okWide_slice Tryz.underlying22 (iY 0 22 v0 rfl rfl);obtain⟨zbF,wO⟩:=h0;have h1k:=h1;obtain⟨cs1,rfl,_⟩:=okWide_struct Tryz.underlying25 (iY 1 25 v1 rfl rfl);obtain⟨zbG,BY⟩:=h1;have h2k:=h2;obtain⟨a2,We,ct2,rfl⟩:=okWide_slice Tryz.underlying23 (iY 2 23 v2 rfl rfl);obtain⟨zbH,ef⟩:=h2;clear hA0 zc HL;simp only[List.append_nil]at Fy;have aE:∀x∈p0++p1++p2,x.block<W.heap.size:=fun x hx=>by simpa using Fy.lt x hx
 refine(Al  (yC DQ) (zbj (laidMetH_iff.1 hX4).1 DQ) wO BY ef).mono ?_;rintro e W' ⟨rfl,Wq⟩;have e1:((OpenSpec.ofChange Rows.reconstructLeastSpec).at F).fn H ([d0,d1,d2]++[])={results:=[.lit (.bool true)],args:=[d0,d1,d2]}:=rfl;refine⟨_,rfl,_,_,_,[],p0++p1++p2,[],Fy,?_,?_,?_,Wq.frame _,fun h=>by cases h⟩
 ·rw[e1];exact trodAll_mk1 (shut_bool Tryz.underlying4 true)
 ·rw[e1,List.append_assoc];exact trodAll_mk3 (Below.trod laidOut (by kernel_rfl) (of_decide_eq_true (by kernel_rfl)) h0k Wq fun x hx=>aE x (by simp[hx])) (Below.trod laidOut (by kernel_rfl) (of_decide_eq_true (by kernel_rfl)) h1k Wq fun x hx=>aE x (by simp[hx])) (Below.trod laidOut (by kernel_rfl) (of_decide_eq_true (by kernel_rfl)) h2k Wq fun x hx=>aE x (by simp[hx]))
 rw[e1];rfl
end Go.Proofs.YtgccnjdneojagaaGreatDoor
