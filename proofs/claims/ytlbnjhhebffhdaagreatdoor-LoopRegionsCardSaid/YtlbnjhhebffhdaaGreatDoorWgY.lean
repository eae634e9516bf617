/-The statement LoopRegions: for all inputs the law returns true, and its arguments read behind the call as before. No condition beside the card's own.-/
import Derived.Test.YtlbnjhhebffhdaaGreatDoorCards
import Derived.Test.YtlbnjhhebffhdaaGreatDoorTie
import Derived.WalkKit
import Derived.ProofKit
import Derived.OpenShut
import Derived.Deep.DeepHandedRow
import Derived.Deep.DeepWitnessRowRef
import Derived.Lib.LaidTab
import Derived.Lib.LaidIn
import Derived.Carry
import Derived.ChangeArms
import Derived.Test.YtlbnjhhebffhdaaGreatDoorXdB
import Derived.Deep.Slices
set_option linter.all false
namespace Go.Proofs.YtlbnjhhebffhdaaGreatDoor
open Go Go.ChangeShapes Go.WideShapes Go.ChangeAt Go.RowKit
open Go.Deep
set_option maxRecDepth 1000000
theorem own:ownKnob Tryz.prog.godebug=none:=by kernel_rfl
theorem laidOut:laidOutB Tryz.prog=true:=by kernel_rfl
theorem wI:Tryz.prog.cellsOf 30=1:=by kernel_rfl
theorem KO:Tryz.prog.cellsOf 3=1:=by kernel_rfl
theorem KP:((begin Tryz.prog (fun _ _=>0) default).world.heap[10]?).bind Obj.row?=some ((((begin Tryz.prog (fun _ _=>0) default).world.heap[10]?).bind Obj.row?).getD (#[],0)):=by kernel_rfl
theorem vi{W:World}(h:W.ShapedOpen Tryz.prog):11<=W.heap.size:=by
 obtain⟨cs,h1,_⟩:=h.1 10 _ _ (by rw[Go.Mx.A.globals];decide) KP
 rcases Nat.lt_or_ge 10 W.heap.size with h2|h2
 ·omega
 ·rw[Array.getElem?_eq_none h2]at h1;cases h1
def RN:List Int:=[1,10,100,1000,10000,100000,1000000,10000000,100000000,1000000000,10000000000,100000000000,1000000000000,10000000000000,100000000000000,1000000000000000,10000000000000000,100000000000000000,1000000000000000000,10000000000000000000]
theorem RO:((begin Tryz.prog (fun _ _=>0) default).world.heap[6]?).bind Obj.row?=some ((Array.replicate 20 (.int .u64 0):Array Value),313):=by kernel_rfl
theorem RP:Tryz.prog.globalNamed "internal/strconv.uint64pow10" =some 6:=by kernel_rfl
theorem RQ:(Tryz.prog.globals[6]?).map (·.type)=some 313:=by kernel_rfl
theorem RS:Tryz.prog.cellsOf 313=20:=by kernel_rfl
theorem RT:Tryz.prog.cellsOf 215=1:=by kernel_rfl
theorem RU:(Rows.loopRegionsRow.laid.filter fun x=>x.2.handleName?.isNone).filter (fun x=>x.1== "internal/strconv.uint64pow10")=[("internal/strconv.uint64pow10",Lib.tabData .u64 RN)]:=by rfl
theorem zfg{W:World}(hl:laidMet Tryz.prog (Rows.loopRegionsRow.laid.filter fun x=>x.2.handleName?.isNone) W)(hs:W.ShapedOpen Tryz.prog):Go.Mx.zgn Tryz.prog W Go.Mx.A.TB:=
 Go.Mx.qL (k:=.u64) (zs:=RN) RP RQ Tryz.underlying313 Tryz.underlying215 RT RS RU (by rw[Go.Mx.A.globals];decide) RO hl hs
theorem C3:Tryz.prog.cellsOf 48=4:=by kernel_rfl
open Go.Mx in
theorem xy{H:Type}{enc:TypeId×Value->H}{W:World}{fuel:Nat}{cs:Array Value}{x:DataW H×List MemPlace}
  (h:DataW.trod enc Tryz.prog W 0 (fun _=>true) true fuel 48 cs.toList=some x):∃(a b c:ByteArray) (d:Int),cs=#[.string a,.string b,.string c,.int .i64 d]/\a.data.toList.length<9223372036854775808/\b.data.toList.length<9223372036854775808/\c.data.toList.length<9223372036854775808:=by
 suffices hs:∀l,DataW.trod enc Tryz.prog W 0 (fun _=>true) true fuel 48 l=some x->∃(a b c:ByteArray) (d:Int),l=[.string a,.string b,.string c,.int .i64 d]/\a.data.toList.length<9223372036854775808/\b.data.toList.length<9223372036854775808/\c.data.toList.length<9223372036854775808 by
  obtain⟨a,b,c,d,e,q⟩:=hs _ h
  exact⟨a,b,c,d,by rw[<-Array.toArray_toList (xs:=cs),e],q⟩
 intro l h
 obtain⟨xs,n,_,rfl,hl,hlen,hf⟩:=DataW.trod_struct Tryz.underlying48 h
 rw[C3]at hl
 match l,hl with
 |[c0,c1,c2,c3],_=>
  match xs,hlen with
  |[y0,y1,y2,y3],_=>
   have h0:=hf 0 _ rfl
   have h1:=hf 1 _ rfl
   have h2:=hf 2 _ rfl
   have h3:=hf 3 _ rfl
   simp[wI,KO]at h0 h1 h2 h3
   obtain⟨a,e0,q0⟩:=OO Tryz.underlying30 h0
   obtain⟨b,e1,q1⟩:=OO Tryz.underlying30 h1
   obtain⟨c,e2,q2⟩:=OO Tryz.underlying30 h2
   obtain⟨d,e3,_⟩:=DataW.trod_int Tryz.underlying3 h3
   simp only[List.cons.injEq,and_true]at e3
   exact⟨a,b,c,d,by rw[e0,e1,e2,e3],q0,q1,q2⟩
theorem C4:Tryz.prog.cellsOf 32=2:=by kernel_rfl
open Go.Mx in
theorem xz{H:Type}{enc:TypeId×Value->H}{W:World}{fuel:Nat}{cs:Array Value}{x:DataW H×List MemPlace}
  (h:DataW.trod enc Tryz.prog W 0 (fun _=>true) true fuel 32 cs.toList=some x):∃(a b:ByteArray),cs=#[.string a,.string b]/\a.data.toList.length<9223372036854775808/\b.data.toList.length<9223372036854775808:=by
 suffices hs:∀l,DataW.trod enc Tryz.prog W 0 (fun _=>true) true fuel 32 l=some x->∃(a b:ByteArray),l=[.string a,.string b]/\a.data.toList.length<9223372036854775808/\b.data.toList.length<9223372036854775808 by
  obtain⟨a,b,e,q⟩:=hs _ h
  exact⟨a,b,by rw[<-Array.toArray_toList (xs:=cs),e],q⟩
 intro l h
 obtain⟨xs,n,_,rfl,hl,hlen,hf⟩:=DataW.trod_struct Tryz.underlying32 h
 rw[C4]at hl
 match l,hl with
 |[c0,c1],_=>
  match xs,hlen with
  |[y0,y1],_=>
   have h0:=hf 0 _ rfl
   have h1:=hf 1 _ rfl
   simp[wI]at h0 h1
   obtain⟨a,e0,q0⟩:=OO Tryz.underlying30 h0
   obtain⟨b,e1,q1⟩:=OO Tryz.underlying30 h1
   exact⟨a,b,by rw[e0,e1],q0,q1⟩
theorem C5:Tryz.prog.cellsOf 49=2:=by kernel_rfl
theorem C6:Tryz.prog.cellsOf 5=1:=by kernel_rfl
theorem sS{W:World}{r:Reach}{b0:Nat}{v:Value}(h:Value.okWide Tryz.prog W r b0 49 v):∃cs,v=.agg cs/\cs.size=Tryz.prog.cellsOf 49:=by
 simp only[Value.okWide,Tryz.underlying49]at h
 obtain⟨cs,h1,h2,_⟩:=h
 exact⟨cs,h1,h2⟩
theorem bounds_u8{n:Int}(h:(Lit.int .u8 n).wf=true):0<=n/\n<=255:=by
 simp[Lit.wf,IntKind.min,IntKind.max,IntKind.signed,IntKind.bits]at h
 omega
open Go.Mx in
theorem xA{H:Type}{enc:TypeId×Value->H}{W:World}{fuel:Nat}{cs:Array Value}{x:DataW H×List MemPlace}
  (h:DataW.trod enc Tryz.prog W 0 (fun _=>true) true fuel 49 cs.toList=some x):∃(a b:Nat),cs=#[.int .u8 a,.int .u8 b]/\a<=255/\b<=255:=by
 suffices hs:∀l,DataW.trod enc Tryz.prog W 0 (fun _=>true) true fuel 49 l=some x->∃(a b:Nat),l=[.int .u8 a,.int .u8 b]/\a<=255/\b<=255 by
  obtain⟨a,b,e,q⟩:=hs _ h
  exact⟨a,b,by rw[<-Array.toArray_toList (xs:=cs),e],q⟩
 intro l h
 obtain⟨xs,n,_,rfl,hl,hlen,hf⟩:=DataW.trod_array Tryz.underlying49 h
 rw[C5]at hl
 match l,hl with
 |[c0,c1],_=>
  match xs,hlen with
  |[y0,y1],_=>
   have h0:=hf 0 (by decide)
   have h1:=hf 1 (by decide)
   simp[C6]at h0 h1
   obtain⟨a,e0,_,q0⟩:=DataW.trod_int Tryz.underlying5 h0
   obtain⟨b,e1,_,q1⟩:=DataW.trod_int Tryz.underlying5 h1
   simp only[List.cons.injEq,and_true]at e0 e1
   have p0:=bounds_u8 q0
   have p1:=bounds_u8 q1
   refine⟨a.toNat,b.toNat,?_,by omega,by omega⟩
   rw[e0,e1,Int.toNat_of_nonneg p0.1,Int.toNat_of_nonneg p1.1]
open Go.Mx in
theorem xB{H:Type}{enc:TypeId×Value->H}{W:World}{cs0:Array Value}{f0:Nat}{x0:DataW H×List MemPlace}{cs1:Array Value}{f1:Nat}{x1:DataW H×List MemPlace}{cs2:Array Value}{f2:Nat}{x2:DataW H×List MemPlace}(hW:11<=W.heap.size)(ht:zgn Tryz.prog W A.TB)(h0:DataW.trod enc Tryz.prog W 0 (fun _=>true) true f0 48 cs0.toList=some x0)(h1:DataW.trod enc Tryz.prog W 0 (fun _=>true) true f1 32 cs1.toList=some x1)(h2:DataW.trod enc Tryz.prog W 0 (fun _=>true) true f2 49 cs2.toList=some x2):
  Calls Tryz.prog 4 #[.agg cs0,.agg cs1,.agg cs2] W fun e W'=>e=.returned (.bool true)/\RowKit.Below W.heap.size W W':=by
 obtain⟨m0a,m0b,m0c,m0d,e0,zfh,zfi,zfj⟩:=xy h0
 obtain⟨m1a,m1b,e1,zfk,zfl⟩:=xz h1
 obtain⟨m2a,m2b,e2,zfm,zfn⟩:=xA h2
 obtain⟨μ0,s0⟩:=Ymg A.globals hW (tb:=A.TB) (by decide+kernel) ht
 have hP:j_ (Cu 11 A.TB).h (Cu 11 A.TB).n:=⟨by decide,Ylz rfl⟩
 exact Cx.calls (S:=(Cu 11 A.TB)) A.yy A.xOk A.c4 A.c4 (fun st=>A.x0 (by decide)) (Zy5 hP zfh zfi zfj zfk zfl zfm zfn) s0.hr s0.w (Zau.2 ⟨_,_,rfl,⟨_,rfl,by rw[e0];exact Zau.2 ⟨_,_,rfl,(show VR μ0 (.str m0a.data.toList) (.string m0a) from by simp[VR]),Zau.2 ⟨_,_,rfl,(show VR μ0 (.str m0b.data.toList) (.string m0b) from by simp[VR]),Zau.2 ⟨_,_,rfl,(show VR μ0 (.str m0c.data.toList) (.string m0c) from by simp[VR]),Zau.2 ⟨_,_,rfl,(show VR μ0 (.int .i64 m0d) (.int .i64 m0d) from by simp[VR]),by simp[bf]⟩⟩⟩⟩⟩,Zau.2 ⟨_,_,rfl,⟨_,rfl,by rw[e1];exact Zau.2 ⟨_,_,rfl,(show VR μ0 (.str m1a.data.toList) (.string m1a) from by simp[VR]),Zau.2 ⟨_,_,rfl,(show VR μ0 (.str m1b.data.toList) (.string m1b) from by simp[VR]),by simp[bf]⟩⟩⟩,Zau.2 ⟨_,_,rfl,⟨_,rfl,by rw[e2];exact Zau.2 ⟨_,_,rfl,(show VR μ0 (.int .u8 (m2a:Nat)) (.int .u8 (m2a:Nat)) from by simp[VR]),Zau.2 ⟨_,_,rfl,(show VR μ0 (.int .u8 (m2b:Nat)) (.int .u8 (m2b:Nat)) from by simp[VR]),by simp[bf]⟩⟩⟩,by simp[bf]⟩⟩⟩) fun μ z hz=>by simpa[VR]using hz
def lits:DataW Unit->List Value
 |.agg l=>l.filterMap fun d=>match d with
  |.lit (.int k n)=>some (.int k n)
  |_=>none
 |_=>[]
def RV:DataW Unit->List Value
 |.agg l=>l.flatMap lits
 |_=>[]
noncomputable def ig(os:Os):World:=
 let N:=(World.settled Tryz.prog os).heap.size
 let w0:=World.holding Tryz.prog os ⟨#[.cells #[.string ⟨#[118,97,108,117,101,32,111,117,116,32,111,102,32,114,97,110,103,101]⟩] 321,.cells #[.string ⟨#[105,110,118,97,108,105,100,32,115,121,110,116,97,120]⟩] 321],#[],[]⟩
 let put (h:Array Obj) (g:Nat) (cs:Array Value):Array Obj:=h.modify g fun
  |.cells _ t frozen=>.cells cs t frozen
  |o=>o
 let h9:=put w0.heap 9 (lits Rows.laid_math_bits_deBruijn32tab).toArray
 let xO:=put h9 10 (lits Rows.laid_math_bits_deBruijn64tab).toArray
 let h6:=put xO 6 (lits Rows.laid_internal_strconv_uint64pow10).toArray
 let h8:=put h6 8 (RV Rows.laid_unicode_utf8_acceptRanges).toArray
 let h5:=put h8 5 #[.iface 319 (.pointer (some ⟨N+0,0,none⟩))]
 let h4:=put h5 4 #[.iface 319 (.pointer (some ⟨N+1,0,none⟩))]
 let h7:=put h4 7 (lits Rows.laid_unicode_utf8_first).toArray
 {w0 with heap:=h7}
noncomputable abbrev N0:Nat:=(World.settled Tryz.prog default).heap.size
abbrev MT:Array Value:=#[.agg #[.string ⟨#[]⟩,.string ⟨#[]⟩,.string ⟨#[]⟩,.int .i64 0],.agg #[.string ⟨#[]⟩,.string ⟨#[]⟩],.agg #[.int .u8 0,.int .u8 0]]
theorem Ar(os:Os):laidMet Tryz.prog Rows.loopRegionsRow.laid ((ig os).forCall (fun _ _=>0) ⟨#[],MT,[]⟩).memory:=
 (LaidIn.of_run [9,10,6,8,5,N0,4,N0+1,7] 8 (by kernel_rfl) (by kernel_rfl) (by kernel_rfl) (by kernel_rfl)).met
theorem sV(os:Os){H:Type}(enc:TypeId×Value->H):
  (OpenSpec.ofChange Rows.loopRegionsSpec).preRow enc Tryz.prog Tryz.f4 Rows.loopRegionsRow.domain false Rows.loopRegionsRow.laid ((ig os).forCall (fun _ _=>0) ⟨#[],MT,[]⟩).memory MT:=by
 have hw:(DataW.whole enc Tryz.prog ((ig os).forCall (fun _ _=>0) ⟨#[],MT,[]⟩).memory Tryz.f4.params.toList Rows.loopRegionsSpec.vars false MT.toList 8).map (fun x=>(x.1,x.2.1))=
   some ([.agg [.lit (.string []),.lit (.string []),.lit (.string []),.lit (.int .i64 0)],.agg [.lit (.string []),.lit (.string [])],.agg [.lit (.int .u8 0),.lit (.int .u8 0)]],[]):=by kernel_rfl
 obtain⟨⟨x1,x2,x3⟩,hx,zK⟩:=Option.map_eq_some_iff.1 hw
 simp only[Prod.mk.injEq]at zK
 obtain⟨rfl,rfl⟩:=zK
 exact OpenSpec.preRow_of_cond 8 hx (by kernel_rfl) (fun k hk=>by cases hk) (by kernel_rfl) (Ar os)
theorem lifted(os:Os)(started:os.Started)(H:Type)(enc:TypeId×Value->H)(F:Stop.Interp):
  ReturnsInHanded {} Tryz.checked os 4 .any ((OpenSpec.ofChange Rows.loopRegionsSpec).preRow enc Tryz.prog Tryz.f4 Rows.loopRegionsRow.domain false Rows.loopRegionsRow.laid) (((OpenSpec.ofChange Rows.loopRegionsSpec).at F).post enc Tryz.prog Tryz.f4 false true false false):=by
 refine returnsInHanded_of_row (C:=Tryz.checked) (s:=OpenSpec.ofChange Rows.loopRegionsSpec) own started (by kernel_rfl) Tryz.func4
  (witness_row_atRef (enc:=enc) (C:=Tryz.checked) false (ig os) MT rfl (by kernel_rfl) (by kernel_rfl) (by kernel_rfl) (sV os enc)) ?_
 intro W base args ds gs before EJ hW hX1 hX2 hX3 hX4 Uv hX5
 have zgm:∀(j:Nat) t v,Tryz.f4.params[j]?=some t->args[j]?=some v->Value.okWide Tryz.prog W .any base t v:=EJ
 have pZ:=hW
 obtain⟨p,q,hA0,vS,rfl,_,_⟩:=hW
 have hA:DataW.TrodAll enc Tryz.prog W 0 (fun _=>true) true Tryz.f4.params.toList args.toList ds p:=hA0
 rw[Tryz.params4]at hA zgm
 obtain⟨v0,v1,v2,d0,d1,d2,p0,p1,p2,rfl,rfl,rfl,h0,h1,h2⟩:=trodAll_three hA
 obtain⟨rfl,rfl⟩:=trodVars_none vS
 have h0k:=h0
 obtain⟨cs0,rfl,_⟩:=okWide_struct Tryz.underlying48 (zgm 0 48 v0 rfl rfl)
 obtain⟨zfw,rA⟩:=h0
 have h1k:=h1
 obtain⟨cs1,rfl,_⟩:=okWide_struct Tryz.underlying32 (zgm 1 32 v1 rfl rfl)
 obtain⟨zfx,hf1⟩:=h1
 have h2k:=h2
 obtain⟨cs2,rfl,_⟩:=sS (zgm 2 49 v2 rfl rfl)
 obtain⟨zfy,ik⟩:=h2
 clear hA0 vS EJ
 simp only[List.append_nil]at pZ
 have aW:∀x∈p0++p1++p2,x.block<W.heap.size:=fun x hx=>by simpa using pZ.lt x hx
 refine(xB  (vi Uv) (zfg (laidMetH_iff.1 hX4).1 Uv) rA hf1 ik).mono ?_
 rintro e W' ⟨rfl,Vs⟩
 have e1:((OpenSpec.ofChange Rows.loopRegionsSpec).at F).fn H ([d0,d1,d2]++[])={results:=[.lit (.bool true)],args:=[d0,d1,d2]}:=rfl
 refine⟨_,rfl,_,_,_,[],p0++p1++p2,[],pZ,?_,?_,?_,Vs.frame _,fun h=>by cases h⟩
 ·rw[e1];exact trodAll_mk1 (shut_bool Tryz.underlying4 true)
 ·rw[e1,List.append_assoc];exact trodAll_mk3 (Below.trod laidOut (by kernel_rfl) (of_decide_eq_true (by kernel_rfl)) h0k Vs fun x hx=>aW x (by simp[hx])) (Below.trod laidOut (by kernel_rfl) (of_decide_eq_true (by kernel_rfl)) h1k Vs fun x hx=>aW x (by simp[hx])) (Below.trod laidOut (by kernel_rfl) (of_decide_eq_true (by kernel_rfl)) h2k Vs fun x hx=>aW x (by simp[hx]))
 ·rw[e1];rfl
end Go.Proofs.YtlbnjhhebffhdaaGreatDoor
