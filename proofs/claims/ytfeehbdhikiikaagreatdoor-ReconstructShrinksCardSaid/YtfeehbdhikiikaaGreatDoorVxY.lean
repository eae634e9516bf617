/-Inputs-/
import Derived.Test.YtfeehbdhikiikaaGreatDoorCards
import Derived.Test.YtfeehbdhikiikaaGreatDoorTie
import Derived.WalkKit
import Derived.ProofKit
import Derived.OpenShut
import Derived.Deep.DeepHandedRow
import Derived.Deep.DeepWitnessRowRef
import Derived.Lib.LaidTab
import Derived.Lib.LaidIn
import Derived.Carry
import Derived.ChangeArms
import Derived.Test.YtfeehbdhikiikaaGreatDoorAwOk
import Derived.Deep.Slices
set_option linter.all false
namespace Go.Proofs.YtfeehbdhikiikaaGreatDoor
open Go Go.ChangeShapes Go.WideShapes Go.ChangeAt Go.RowKit
open Go.Deep
set_option maxRecDepth 1000000
variable{f1 fuel:Nat}{H:Type}{W:World}
theorem own:ownKnob Tryz.prog.godebug=none:=by kernel_rfl
theorem laidOut:laidOutB Tryz.prog=true:=by kernel_rfl
theorem zB:Tryz.prog.cellsOf 23=1:=by kernel_rfl
theorem pw:Tryz.prog.cellsOf 26=1:=by kernel_rfl
theorem K7:((begin Tryz.prog (fun _ _=>0) default).world.heap[9]?).bind Obj.row?=some ((((begin Tryz.prog (fun _ _=>0) default).world.heap[9]?).bind Obj.row?).getD (#[],0)):=by kernel_rfl
theorem yz(h:W.ShapedOpen Tryz.prog):10<=W.heap.size:=by
 obtain⟨cs,h1,_⟩:=h.1 9 _ _ (by rw[Go.Mx.A.globals];decide) K7;rcases Nat.lt_or_ge 9 W.heap.size with h2|h2
 ·omega
 rw[Array.getElem?_eq_none h2]at h1;cases h1
def SD:List Int:=[1,10,100,1000,10000,100000,1000000,10000000,100000000,1000000000,10000000000,100000000000,1000000000000,10000000000000,100000000000000,1000000000000000,10000000000000000,100000000000000000,1000000000000000000,10000000000000000000]
theorem SE:((begin Tryz.prog (fun _ _=>0) default).world.heap[5]?).bind Obj.row?=some ((Array.replicate 20 (.int .u64 0):Array Value),279):=by kernel_rfl
theorem SF:Tryz.prog.globalNamed "internal/strconv.uint64pow10" =some 5:=by kernel_rfl
theorem SG:(Tryz.prog.globals[5]?).map (·.type)=some 279:=by kernel_rfl
theorem SH:Tryz.prog.cellsOf 279=20:=by kernel_rfl
theorem SI:Tryz.prog.cellsOf 205=1:=by kernel_rfl
theorem SJ:(Rows.reconstructShrinksRow.laid.filter fun x=>x.2.handleName?.isNone).filter (fun x=>x.1== "internal/strconv.uint64pow10")=[("internal/strconv.uint64pow10",Lib.tabData .u64 SD)]:=by rfl
theorem za5(hl:laidMet Tryz.prog (Rows.reconstructShrinksRow.laid.filter fun x=>x.2.handleName?.isNone) W)(hs:W.ShapedOpen Tryz.prog):Go.Mx.ko Tryz.prog W Go.Mx.A.TB:=
 Go.Mx.tN (k:=.u64) (zs:=SD) SF SG Tryz.underlying279 Tryz.underlying205 SI SH SJ (by rw[Go.Mx.A.globals];decide) SE hl hs
theorem K8:Tryz.prog.cellsOf 25=3:=by kernel_rfl
open Go.Mx in
theorem CL{enc:TypeId×Value->H}{cs:List Value}{x:DataW H×List MemPlace}
  (h:DataW.trod enc Tryz.prog W 0 (fun _=>true) true fuel 25 cs=some x):∃a b c:nV,cs=[a.val,b.val,c.val]/\(a.ok W/\a.strs.length<9223372036854775808)/\(b.ok W/\b.strs.length<9223372036854775808)/\c.ok W/\c.strs.length<9223372036854775808:=by
 obtain⟨xs,n,_,rfl,hl,hlen,hf⟩:=DataW.trod_struct Tryz.underlying25 h;rw[K8]at hl;match cs,hl with
 |[c0,c1,c2],_=>
  match xs,hlen with
  |[y0,y1,y2],_=>
   have h0:=hf 0 _ rfl
   have h1:=hf 1 _ rfl
   have h2:=hf 2 _ rfl
   simp[zB]at h0 h1 h2
   obtain⟨a,e0,a1,a2⟩:=Go.Mx.jr Tryz.underlying23 Tryz.underlying26 pw h0
   obtain⟨b,e1,b1,b2⟩:=Go.Mx.jr Tryz.underlying23 Tryz.underlying26 pw h1
   obtain⟨c,e2,c1,c2⟩:=Go.Mx.jr Tryz.underlying23 Tryz.underlying26 pw h2
   exact⟨a,b,c,by rw[e0,e1,e2],⟨a1,a2⟩,⟨b1,b2⟩,c1,c2⟩
open Go.Mx in
theorem Aq{enc:TypeId×Value->H}{a0:Option Addr}{l0 c0 f0:Nat}{x0:DataW H×List MemPlace}{cs1:Array Value}{x1:DataW H×List MemPlace}{b2:ByteArray}(hW:10<=W.heap.size)(ht:ko Tryz.prog W A.TB)(h0:DataW.trod enc Tryz.prog W 0 (fun _=>true) true f0 22 (Value.slice a0 l0 c0).cells.toList=some x0)(h1:DataW.trod enc Tryz.prog W 0 (fun _=>true) true f1 25 cs1.toList=some x1):
  Calls Tryz.prog 3 #[.slice a0 l0 c0,.agg cs1,.string b2] W fun e W'=>e=.returned (.bool true)/\RowKit.Below W.heap.size W W':=by obtain⟨m0,e0,Qv,la0,lb0⟩:=Go.Mx.Cc Tryz.underlying22 Tryz.underlying23 Tryz.underlying26 zB pw (show DataW.trod enc Tryz.prog W 0 (fun _=>true) true f0 22 [Value.slice a0 l0 c0]=some x0 from h0);obtain⟨m1a,m1b,m1c,e1,⟨za6,za7⟩,⟨za8,za9⟩,za_,zba⟩:=CL h1;obtain⟨μ0,s0⟩:=Yq3 A.globals hW (tb:=A.TB) (by decide+kernel) ht;obtain⟨μ1,S1,u0,s1,g1,r0,q0⟩:=s0.mat Qv;obtain⟨μ2,S2,u1a,s2,g2,r1a,q1a⟩:=s1.list za6;obtain⟨μ3,S3,u1b,s3,g3,r1b,q1b⟩:=s2.list za8;obtain⟨μ4,S4,u1c,s4,g4,r1c,q1c⟩:=s3.list za_;have MM:=VR.mono ((g2.trans g3).trans g4).mu _ _ r0;have q0':fE S4.h S4.n u0 m0.rows:=fE.ad q0 ((g2.trans g3).trans g4).ad;have zbb:=VR.mono (g3.trans g4).mu _ _ r1a;have zbc:=q1a.ad (g3.trans g4).ad;have zbd:=VR.mono g4.mu _ _ r1b;have zbe:=q1b.ad g4.ad;have zbf:=r1c;have zbg:=q1c;have hP:iT S4.h S4.n:=iT.ad (show iT (GZ 10 A.TB).h (GZ 10 A.TB).n from ⟨by decide,Yp7 rfl⟩) (((g1.trans g2).trans g3).trans g4).ad;exact Cx.calls (S:=S4) A.A8 A.xOk A.c3 A.c3 (fun st=>A.x0 (by decide)) (Yb6 q0' zbc zbe zbg hP la0 lb0 za7 za9 zba) s4.hr s4.w (kW.2 ⟨_,_,rfl,(e0▸MM),kW.2 ⟨_,_,rfl,⟨_,rfl,by rw[e1];exact kW.2 ⟨_,_,rfl,zbb,kW.2 ⟨_,_,rfl,zbd,kW.2 ⟨_,_,rfl,zbf,by simp[aV]⟩⟩⟩⟩,kW.2 ⟨_,_,rfl,(show VR μ4 (.str b2.data.toList) (.string b2) from by simp[VR]),by simp[aV]⟩⟩⟩) fun μ z hz=>by simpa[VR]using hz
def lits:DataW Unit->List Value
 |.agg l=>l.filterMap fun d=>match d with
  |.lit (.int k n)=>some (.int k n)
  |_=>none
 |_=>[]
def SK:DataW Unit->List Value
 |.agg l=>l.flatMap lits
 |_=>[]
noncomputable def jy(os:Os):World:=
 let N:=(World.settled Tryz.prog os).heap.size
 let w0:=World.holding Tryz.prog os ⟨#[.cells #[.string ⟨#[118,97,108,117,101,32,111,117,116,32,111,102,32,114,97,110,103,101]⟩] 288,.cells #[.string ⟨#[105,110,118,97,108,105,100,32,115,121,110,116,97,120]⟩] 288],#[],[]⟩
 let put (h:Array Obj) (g:Nat) (cs:Array Value):Array Obj:=h.modify g fun
  |.cells _ t frozen=>.cells cs t frozen
  |o=>o
 let h8:=put w0.heap 8 (lits Rows.laid_math_bits_deBruijn32tab).toArray
 let h9:=put h8 9 (lits Rows.laid_math_bits_deBruijn64tab).toArray
 let h5:=put h9 5 (lits Rows.laid_internal_strconv_uint64pow10).toArray
 let h7:=put h5 7 (SK Rows.laid_unicode_utf8_acceptRanges).toArray
 let h4:=put h7 4 #[.iface 286 (.pointer (some ⟨N+0,0,none⟩))]
 let h3:=put h4 3 #[.iface 286 (.pointer (some ⟨N+1,0,none⟩))]
 let h6:=put h3 6 (lits Rows.laid_unicode_utf8_first).toArray
 {w0 with heap:=h6}
noncomputable abbrev N0:Nat:=(World.settled Tryz.prog default).heap.size
abbrev Np:Array Value:=#[.slice none 0 0,.agg #[.slice none 0 0,.slice none 0 0,.slice none 0 0],.string ⟨#[]⟩]
theorem CM(os:Os):laidMet Tryz.prog Rows.reconstructShrinksRow.laid ((jy os).forCall (fun _ _=>0) ⟨#[],Np,[]⟩).memory:=
 (LaidIn.of_run [8,9,5,7,4,N0,3,N0+1,6] 8 (by kernel_rfl) (by kernel_rfl) (by kernel_rfl) (by kernel_rfl)).met
theorem vQ(os:Os)(enc:TypeId×Value->H):
  (OpenSpec.ofChange Rows.reconstructShrinksSpec).preRow enc Tryz.prog Tryz.f3 Rows.reconstructShrinksRow.domain false Rows.reconstructShrinksRow.laid ((jy os).forCall (fun _ _=>0) ⟨#[],Np,[]⟩).memory Np:=by
 have hw:(DataW.whole enc Tryz.prog ((jy os).forCall (fun _ _=>0) ⟨#[],Np,[]⟩).memory Tryz.f3.params.toList Rows.reconstructShrinksSpec.vars false Np.toList 8).map (fun x=>(x.1,x.2.1))=
   some ([.nil,.agg [.nil,.nil,.nil],.lit (.string [])],[]):=by kernel_rfl
 obtain⟨⟨x1,x2,x3⟩,hx,wK⟩:=Option.map_eq_some_iff.1 hw;simp only[Prod.mk.injEq]at wK;obtain⟨rfl,rfl⟩:=wK;exact OpenSpec.preRow_of_cond 8 hx (by kernel_rfl) (fun k hk=>by cases hk) (by kernel_rfl) (CM os)
theorem lifted(os:Os)(started:os.Started)(H:Type)(enc:TypeId×Value->H)(F:Stop.Interp):
  ReturnsInHanded {} Tryz.checked os 3 .any ((OpenSpec.ofChange Rows.reconstructShrinksSpec).preRow enc Tryz.prog Tryz.f3 Rows.reconstructShrinksRow.domain false Rows.reconstructShrinksRow.laid) (((OpenSpec.ofChange Rows.reconstructShrinksSpec).at F).post enc Tryz.prog Tryz.f3 false true false false):=by
 refine returnsInHanded_of_row (C:=Tryz.checked) (s:=OpenSpec.ofChange Rows.reconstructShrinksSpec) own started (by kernel_rfl) Tryz.func3
  (witness_row_atRef (enc:=enc) (C:=Tryz.checked) false (jy os) Np rfl (by kernel_rfl) (by kernel_rfl) (by kernel_rfl) (vQ os enc)) ?_;intro W base args ds gs before HY hW hX1 hX2 hX3 hX4 C7 hX5;have jj:∀(j:Nat) t v,Tryz.f3.params[j]?=some t->args[j]?=some v->Value.okWide Tryz.prog W .any base t v:=HY;have FF:=hW;obtain⟨p,q,hA0,zb,rfl,_,_⟩:=hW;have hA:DataW.TrodAll enc Tryz.prog W 0 (fun _=>true) true Tryz.f3.params.toList args.toList ds p:=hA0;rw[Tryz.params3]at hA jj;obtain⟨v0,v1,v2,d0,d1,d2,p0,p1,p2,rfl,rfl,rfl,h0,h1,h2⟩:=trodAll_three hA;obtain⟨rfl,rfl⟩:=trodVars_none zb;have h0k:=h0;obtain⟨a0,lt0,ct0,rfl⟩:=okWide_slice Tryz.underlying22 (jj 0 22 v0 rfl rfl);obtain⟨zbp,wG⟩:=h0;have h1k:=h1;obtain⟨cs1,rfl,_⟩:=okWide_struct Tryz.underlying25 (jj 1 25 v1 rfl rfl);obtain⟨zbq,B8⟩:=h1;have h2k:=h2;obtain⟨n2,rfl⟩:=okWide_string Tryz.underlying26 (jj 2 26 v2 rfl rfl);clear hA0 zb HY;simp only[List.append_nil]at FF;have aD:∀x∈p0++p1++p2,x.block<W.heap.size:=fun x hx=>by simpa using FF.lt x hx
 refine(Aq (b2:=n2) (yz C7) (za5 (laidMetH_iff.1 hX4).1 C7) wG B8).mono ?_;rintro e W' ⟨rfl,We⟩;have e1:((OpenSpec.ofChange Rows.reconstructShrinksSpec).at F).fn H ([d0,d1,d2]++[])={results:=[.lit (.bool true)],args:=[d0,d1,d2]}:=rfl;refine⟨_,rfl,_,_,_,[],p0++p1++p2,[],FF,?_,?_,?_,We.frame _,fun h=>by cases h⟩
 ·rw[e1];exact trodAll_mk1 (shut_bool Tryz.underlying4 true)
 ·rw[e1,List.append_assoc];exact trodAll_mk3 (Below.trod laidOut (by kernel_rfl) (of_decide_eq_true (by kernel_rfl)) h0k We fun x hx=>aD x (by simp[hx])) (Below.trod laidOut (by kernel_rfl) (of_decide_eq_true (by kernel_rfl)) h1k We fun x hx=>aD x (by simp[hx])) (Below.trod laidOut (by kernel_rfl) (of_decide_eq_true (by kernel_rfl)) h2k We fun x hx=>aD x (by simp[hx]))
 rw[e1];rfl
end Go.Proofs.YtfeehbdhikiikaaGreatDoor
