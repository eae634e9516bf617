/-The statement TopDamperEchoes: for all inputs the law returns true, and its arguments read behind the call as before. No condition beside the card's own.-/
import Derived.Test.YtjjmkflbfpeagaaGreatDoorCards
import Derived.Test.YtjjmkflbfpeagaaGreatDoorTie
import Derived.WalkKit
import Derived.ProofKit
import Derived.OpenShut
import Derived.Deep.DeepHandedRow
import Derived.Deep.DeepWitnessRowRef
import Derived.Lib.LaidTab
import Derived.Lib.LaidIn
import Derived.Carry
import Derived.ChangeArms
import Derived.Test.YtjjmkflbfpeagaaGreatDoorTeA
import Derived.Deep.Slices
set_option linter.all false
namespace Go.Proofs.YtjjmkflbfpeagaaGreatDoor
open Go Go.ChangeShapes Go.WideShapes Go.ChangeAt Go.RowKit
open Go.Deep
set_option maxRecDepth 1000000
theorem own:ownKnob Tryz.prog.godebug=none:=by kernel_rfl
theorem laidOut:laidOutB Tryz.prog=true:=by kernel_rfl
theorem Br:Tryz.prog.cellsOf 22=1:=by kernel_rfl
theorem FU:Tryz.prog.cellsOf 3=1:=by kernel_rfl
theorem FV:((begin Tryz.prog (fun _ _=>0) default).world.heap[9]?).bind Obj.row?=some ((((begin Tryz.prog (fun _ _=>0) default).world.heap[9]?).bind Obj.row?).getD (#[],0)):=by kernel_rfl
theorem tM{W:World}(h:W.ShapedOpen Tryz.prog):10<=W.heap.size:=by
 obtain⟨cs,h1,_⟩:=h.1 9 _ _ (by rw[Go.Mx.A.globals];decide) FV
 rcases Nat.lt_or_ge 9 W.heap.size with h2|h2
 ·omega
 ·rw[Array.getElem?_eq_none h2]at h1;cases h1
def Me:List Int:=[1,10,100,1000,10000,100000,1000000,10000000,100000000,1000000000,10000000000,100000000000,1000000000000,10000000000000,100000000000000,1000000000000000,10000000000000000,100000000000000000,1000000000000000000,10000000000000000000]
theorem Mf:((begin Tryz.prog (fun _ _=>0) default).world.heap[5]?).bind Obj.row?=some ((Array.replicate 20 (.int .u64 0):Array Value),330):=by kernel_rfl
theorem Mg:Tryz.prog.globalNamed "internal/strconv.uint64pow10" =some 5:=by kernel_rfl
theorem Mh:(Tryz.prog.globals[5]?).map (·.type)=some 330:=by kernel_rfl
theorem Mi:Tryz.prog.cellsOf 330=20:=by kernel_rfl
theorem Mj:Tryz.prog.cellsOf 212=1:=by kernel_rfl
theorem Mk:(Rows.topDamperEchoesRow.laid.filter fun x=>x.2.handleName?.isNone).filter (fun x=>x.1== "internal/strconv.uint64pow10")=[("internal/strconv.uint64pow10",Lib.tabData .u64 Me)]:=by rfl
theorem Wr{W:World}(hl:laidMet Tryz.prog (Rows.topDamperEchoesRow.laid.filter fun x=>x.2.handleName?.isNone) W)(hs:W.ShapedOpen Tryz.prog):Go.Mx.iL Tryz.prog W Go.Mx.A.TB:=
 Go.Mx.pD (k:=.u64) (zs:=Me) Mg Mh Tryz.underlying330 Tryz.underlying212 Mj Mi Mk (by rw[Go.Mx.A.globals];decide) Mf hl hs
theorem Bs:Tryz.prog.cellsOf 24=4:=by kernel_rfl
open Go.Mx in
theorem vQ{H:Type}{enc:TypeId×Value->H}{W:World}{fuel:Nat}{cs:Array Value}{x:DataW H×List MemPlace}
  (h:DataW.trod enc Tryz.prog W 0 (fun _=>true) true fuel 24 cs.toList=some x):∃(a b c:ByteArray) (d:Int),cs=#[.string a,.string b,.string c,.int .i64 d]/\a.data.toList.length<9223372036854775808/\b.data.toList.length<9223372036854775808/\c.data.toList.length<9223372036854775808:=by
 suffices hs:∀l,DataW.trod enc Tryz.prog W 0 (fun _=>true) true fuel 24 l=some x->∃(a b c:ByteArray) (d:Int),l=[.string a,.string b,.string c,.int .i64 d]/\a.data.toList.length<9223372036854775808/\b.data.toList.length<9223372036854775808/\c.data.toList.length<9223372036854775808 by
  obtain⟨a,b,c,d,e,q⟩:=hs _ h
  exact⟨a,b,c,d,by rw[<-Array.toArray_toList (xs:=cs),e],q⟩
 intro l h
 obtain⟨xs,n,_,rfl,hl,hlen,hf⟩:=DataW.trod_struct Tryz.underlying24 h
 rw[Bs]at hl
 match l,hl with
 |[c0,c1,c2,c3],_=>
  match xs,hlen with
  |[y0,y1,y2,y3],_=>
   have h0:=hf 0 _ rfl
   have h1:=hf 1 _ rfl
   have h2:=hf 2 _ rfl
   have h3:=hf 3 _ rfl
   simp[Br,FU]at h0 h1 h2 h3
   obtain⟨a,e0,q0⟩:=T6 Tryz.underlying22 h0
   obtain⟨b,e1,q1⟩:=T6 Tryz.underlying22 h1
   obtain⟨c,e2,q2⟩:=T6 Tryz.underlying22 h2
   obtain⟨d,e3,_⟩:=DataW.trod_int Tryz.underlying3 h3
   simp only[List.cons.injEq,and_true]at e3
   exact⟨a,b,c,d,by rw[e0,e1,e2,e3],q0,q1,q2⟩
theorem bounds_u8{n:Int}(h:(Lit.int .u8 n).wf=true):0<=n/\n<=255:=by
 simp[Lit.wf,IntKind.min,IntKind.max,IntKind.signed,IntKind.bits]at h
 omega
open Go.Mx in
theorem Bt{H:Type}{enc:TypeId×Value->H}{W:World}{fuel:Nat}{b:Int}{x:DataW H×List MemPlace}
  (h:DataW.trod enc Tryz.prog W 0 (fun _=>true) true fuel 5 [Value.int .u8 b]=some x):∃a:Nat,b=(a:Int)/\a<=255:=by
 obtain⟨a,e0,_,q0⟩:=DataW.trod_int Tryz.underlying5 h
 have p0:=bounds_u8 q0
 simp only[List.cons.injEq,and_true,Value.int.injEq,true_and]at e0
 subst e0
 exact⟨b.toNat,(Int.toNat_of_nonneg p0.1).symm,by omega⟩
open Go.Mx in
theorem vR{H:Type}{enc:TypeId×Value->H}{W:World}{Ws:Array Value}{f0:Nat}{x0:DataW H×List MemPlace}{b1:Int}{f1:Nat}{x1:DataW H×List MemPlace}(hW:10<=W.heap.size)(ht:iL Tryz.prog W A.TB)(h0:DataW.trod enc Tryz.prog W 0 (fun _=>true) true f0 24 Ws.toList=some x0)(h1:DataW.trod enc Tryz.prog W 0 (fun _=>true) true f1 5 (Value.int .u8 b1).cells.toList=some x1):
  Calls Tryz.prog 3 #[.agg Ws,.int .u8 b1] W fun e W'=>e=.returned (.bool true)/\RowKit.Below W.heap.size W W':=by
 obtain⟨m0a,m0b,m0c,m0d,e0,Wt,Wu,Wv⟩:=vQ h0
 obtain⟨m1,rfl,lx1⟩:=Bt (show DataW.trod enc Tryz.prog W 0 (fun _=>true) true f1 5 [Value.int .u8 b1]=some x1 from h1)
 obtain⟨μ0,s0⟩:=Yjn A.globals hW (tb:=A.TB) (by decide+kernel) ht
 have hP:jB (AW 10 A.TB).h (AW 10 A.TB).n:=⟨by decide,Yi4 rfl⟩
 exact Cx.calls (S:=(AW 10 A.TB)) A.wY A.xOk A.c3 A.c3 (fun st=>A.x0 (by decide)) (Yc4 hP Wt Wu Wv lx1) s0.hr s0.w (fM.2 ⟨_,_,rfl,⟨_,rfl,by rw[e0];exact fM.2 ⟨_,_,rfl,(show VR μ0 (.str m0a.data.toList) (.string m0a) from by simp[VR]),fM.2 ⟨_,_,rfl,(show VR μ0 (.str m0b.data.toList) (.string m0b) from by simp[VR]),fM.2 ⟨_,_,rfl,(show VR μ0 (.str m0c.data.toList) (.string m0c) from by simp[VR]),fM.2 ⟨_,_,rfl,(show VR μ0 (.int .i64 m0d) (.int .i64 m0d) from by simp[VR]),by simp[aP]⟩⟩⟩⟩⟩,fM.2 ⟨_,_,rfl,(show VR μ0 (.int .u8 (m1:Nat)) (.int .u8 (m1:Nat)) from by simp[VR]),by simp[aP]⟩⟩) fun μ z hz=>by simpa[VR]using hz
def lits:DataW Unit->List Value
 |.agg l=>l.filterMap fun d=>match d with
  |.lit (.int k n)=>some (.int k n)
  |_=>none
 |_=>[]
def Ml:DataW Unit->List Value
 |.agg l=>l.flatMap lits
 |_=>[]
noncomputable def gZ(os:Os):World:=
 let N:=(World.settled Tryz.prog os).heap.size
 let w0:=World.holding Tryz.prog os ⟨#[.cells #[.string ⟨#[118,97,108,117,101,32,111,117,116,32,111,102,32,114,97,110,103,101]⟩] 328,.cells #[.string ⟨#[105,110,118,97,108,105,100,32,115,121,110,116,97,120]⟩] 328],#[],[]⟩
 let put (h:Array Obj) (g:Nat) (cs:Array Value):Array Obj:=h.modify g fun
  |.cells _ t frozen=>.cells cs t frozen
  |o=>o
 let h8:=put w0.heap 8 (lits Rows.laid_math_bits_deBruijn32tab).toArray
 let h9:=put h8 9 (lits Rows.laid_math_bits_deBruijn64tab).toArray
 let h5:=put h9 5 (lits Rows.laid_internal_strconv_uint64pow10).toArray
 let h7:=put h5 7 (Ml Rows.laid_unicode_utf8_acceptRanges).toArray
 let h2:=put h7 2 #[.iface 326 (.pointer (some ⟨N+0,0,none⟩))]
 let h1:=put h2 1 #[.iface 326 (.pointer (some ⟨N+1,0,none⟩))]
 let h6:=put h1 6 (lits Rows.laid_unicode_utf8_first).toArray
 {w0 with heap:=h6}
noncomputable abbrev N0:Nat:=(World.settled Tryz.prog default).heap.size
abbrev Hw:Array Value:=#[.agg #[.string ⟨#[]⟩,.string ⟨#[]⟩,.string ⟨#[]⟩,.int .i64 0],.int .u8 0]
theorem yM(os:Os):laidMet Tryz.prog Rows.topDamperEchoesRow.laid ((gZ os).forCall (fun _ _=>0) ⟨#[],Hw,[]⟩).memory:=
 (LaidIn.of_run [8,9,5,7,2,N0,1,N0+1,6] 8 (by kernel_rfl) (by kernel_rfl) (by kernel_rfl) (by kernel_rfl)).met
theorem qW(os:Os){H:Type}(enc:TypeId×Value->H):
  (OpenSpec.ofChange Rows.topDamperEchoesSpec).preRow enc Tryz.prog Tryz.f3 Rows.topDamperEchoesRow.domain false Rows.topDamperEchoesRow.laid ((gZ os).forCall (fun _ _=>0) ⟨#[],Hw,[]⟩).memory Hw:=by
 have hw:(DataW.whole enc Tryz.prog ((gZ os).forCall (fun _ _=>0) ⟨#[],Hw,[]⟩).memory Tryz.f3.params.toList Rows.topDamperEchoesSpec.vars false Hw.toList 8).map (fun x=>(x.1,x.2.1))=
   some ([.agg [.lit (.string []),.lit (.string []),.lit (.string []),.lit (.int .i64 0)],.lit (.int .u8 0)],[]):=by kernel_rfl
 obtain⟨⟨x1,x2,x3⟩,hx,xW⟩:=Option.map_eq_some_iff.1 hw
 simp only[Prod.mk.injEq]at xW
 obtain⟨rfl,rfl⟩:=xW
 exact OpenSpec.preRow_of_cond 8 hx (by kernel_rfl) (fun k hk=>by cases hk) (by kernel_rfl) (yM os)
theorem lifted(os:Os)(started:os.Started)(H:Type)(enc:TypeId×Value->H)(F:Stop.Interp):
  ReturnsInHanded {} Tryz.checked os 3 .any ((OpenSpec.ofChange Rows.topDamperEchoesSpec).preRow enc Tryz.prog Tryz.f3 Rows.topDamperEchoesRow.domain false Rows.topDamperEchoesRow.laid) (((OpenSpec.ofChange Rows.topDamperEchoesSpec).at F).post enc Tryz.prog Tryz.f3 false true false false):=by
 refine returnsInHanded_of_row (C:=Tryz.checked) (s:=OpenSpec.ofChange Rows.topDamperEchoesSpec) own started (by kernel_rfl) Tryz.func3
  (witness_row_atRef (enc:=enc) (C:=Tryz.checked) false (gZ os) Hw rfl (by kernel_rfl) (by kernel_rfl) (by kernel_rfl) (qW os enc)) ?_
 intro W base args ds gs before CM hW hX1 hX2 hX3 hX4 OG hX5
 have ix:∀(j:Nat) t v,Tryz.f3.params[j]?=some t->args[j]?=some v->Value.okWide Tryz.prog W .any base t v:=CM
 have Bi:=hW
 obtain⟨p,q,hA0,uQ,rfl,_,_⟩:=hW
 have hA:DataW.TrodAll enc Tryz.prog W 0 (fun _=>true) true Tryz.f3.params.toList args.toList ds p:=hA0
 rw[Tryz.params3]at hA ix
 obtain⟨v0,v1,d0,d1,p0,p1,rfl,rfl,rfl,h0,h1⟩:=trodAll_two hA
 obtain⟨rfl,rfl⟩:=trodVars_none uQ
 have h0k:=h0
 obtain⟨Ws,rfl,_⟩:=okWide_struct Tryz.underlying24 (ix 0 24 v0 rfl rfl)
 obtain⟨zaf,ra⟩:=h0
 have h1k:=h1
 obtain⟨n1,rfl⟩:=okWide_int Tryz.underlying5 (ix 1 5 v1 rfl rfl)
 obtain⟨zag,vj⟩:=h1
 clear hA0 uQ CM
 simp only[List.append_nil]at Bi
 have aO:∀x∈p0++p1,x.block<W.heap.size:=fun x hx=>by simpa using Bi.lt x hx
 refine(vR (b1:=n1) (tM OG) (Wr (laidMetH_iff.1 hX4).1 OG) ra vj).mono ?_
 rintro e W' ⟨rfl,Ww⟩
 have e1:((OpenSpec.ofChange Rows.topDamperEchoesSpec).at F).fn H ([d0,d1]++[])={results:=[.lit (.bool true)],args:=[d0,d1]}:=rfl
 refine⟨_,rfl,_,_,_,[],p0++p1,[],Bi,?_,?_,?_,Ww.frame _,fun h=>by cases h⟩
 ·rw[e1];exact trodAll_mk1 (shut_bool Tryz.underlying4 true)
 ·rw[e1];exact trodAll_mk2 (Below.trod laidOut (by kernel_rfl) (of_decide_eq_true (by kernel_rfl)) h0k Ww fun x hx=>aO x (by simp[hx])) (Below.trod laidOut (by kernel_rfl) (of_decide_eq_true (by kernel_rfl)) h1k Ww fun x hx=>aO x (by simp[hx]))
 ·rw[e1];rfl
end Go.Proofs.YtjjmkflbfpeagaaGreatDoor
