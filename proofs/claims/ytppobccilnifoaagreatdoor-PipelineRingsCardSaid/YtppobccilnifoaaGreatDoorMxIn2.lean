/-
  Slices that came in: the heap of the machine M that holds them.
-/
import Derived.Test.YtppobccilnifoaaGreatDoorKeO
import Derived.Test.YtppobccilnifoaaGreatDoorMxLim
import Derived.Test.YtppobccilnifoaaGreatDoorMxRun
import Derived.Test.YtppobccilnifoaaGreatDoorMxTab
import Derived.Test.YtppobccilnifoaaGreatDoorProg
set_option linter.all false
namespace Go.Mx
open Go
structure RowV where
 a:Addr
 n:Nat
 f:Nat→Value
 g:Nat→V
def RowV.ok(W:World)(r:RowV):Prop:=0<r.n∧(∀i,i<r.n→W.cell? (r.a.add i)=some (r.f i))∧∀i,i<r.n→(r.f i).oneCell'=true
def rowO(W:World):Option RowV→O
 |some r=>.cells ((List.range r.n).map r.g) (eOf W r.a) false
 |none=>.dead
def muR(G m:Nat)(rows:Nat→Option RowV):Mu:=fun i=>if i<G then some ⟨i,0,0⟩ else if i<G+m then (rows (i-G)).map fun r=>⟨r.a.block,r.a.off,r.n⟩ else none
def heapR(W:World)(G m:Nat)(rows:Nat→Option RowV):T O:=rowsT (deadT G) ((List.range m).map fun k=>rowO W (rows k)) G
theorem muR_row{G m k:Nat}{rows:Nat→Option RowV}{r:RowV}(hk:k<m)(hr:rows k=some r):muR G m rows (G+k)=some ⟨r.a.block,r.a.off,r.n⟩:=by
 unfold muR
 rw[if_neg (by omega),if_pos (by omega),show G+k-G=k by omega,hr];rfl
theorem heapR_row{W:World}{G m k:Nat}{rows:Nat→Option RowV}(hk:k<m):(heapR W G m rows).get (G+k)=some (rowO W (rows k)):=by
 unfold heapR
 rw[rowsT_get,if_pos ⟨by omega,by simp;omega⟩,show G+k-G=k by omega]
 simp[hk]
theorem heapR_old{W:World}{G m i:Nat}{rows:Nat→Option RowV}(hi:i<G):(heapR W G m rows).get i=some .dead:=by
 unfold heapR
 rw[rowsT_get,if_neg (by omega)];exact deadT_get _ _ hi
theorem rows_hrel{P:Program}{W:World}(hW:P.globals.size≤W.heap.size){m:Nat}{rows:Nat→Option RowV}(hok:∀k r,k<m→rows k=some r→r.ok W)(hv:∀k r i,k<m→rows k=some r→i<r.n→VR (muR P.globals.size m rows) (r.g i) (r.f i)):
  HRel P (muR P.globals.size m rows) W ⟨heapR W P.globals.size m rows,P.globals.size+m,[]⟩:=by
 have split:∀i l,muR P.globals.size m rows i=some l→(i<P.globals.size∧l=⟨i,0,0⟩)∨∃k r,k<m∧i=P.globals.size+k∧rows k=some r∧l=⟨r.a.block,r.a.off,r.n⟩:=fun i l h=>by
  unfold muR at h
  split at h
  ·rename_i h1;simp only[Option.some.injEq]at h;exact .inl ⟨h1,h.symm⟩
  ·split at h
   ·rename_i h1 h2
    cases hr:rows (i-P.globals.size)with
    |none=>rw[hr]at h;cases h
    |some r=>
     rw[hr]at h
     simp only[Option.map_some,Option.some.injEq]at h
     exact .inr ⟨i-P.globals.size,r,by omega,by omega,hr,h.symm⟩
   ·cases h
 refine⟨fun i l hl=>?_,fun i l hl=>?_,fun i j l l' o o' hi hj hne ho ho' hw hlv=>?_,fun g hg=>⟨0,by unfold muR;rw[if_pos hg]⟩⟩
 ·rcases split i l hl with⟨h,rfl⟩|⟨k,r,hk,rfl,hr,rfl⟩
  ·exact⟨by show i<P.globals.size+m;omega,by simp only;omega⟩
  ·obtain⟨g1,g2,_⟩:=hok k r hk hr
   obtain⟨_,_,_,_,_,_,_,hlt⟩:=cells_of g1 g2
   exact⟨by show P.globals.size+k<P.globals.size+m;omega,hlt⟩
 ·rcases split i l hl with⟨h,rfl⟩|⟨k,r,hk,rfl,hr,rfl⟩
  ·exact⟨.dead,heapR_old h,trivial⟩
  ·obtain⟨g1,g2,g3⟩:=hok k r hk hr
   obtain⟨c',lo,hi,hb,hs,hcell,hend,hlt⟩:=cells_of g1 g2
   refine⟨_,heapR_row hk,?_⟩
   rw[hr]
   refine⟨c',lo,hi,hb,hend,by simp,fun j v hvj=>?_,fun j x hj hx=>?_,fun h=>by cases h⟩
   ·have hj:j<r.n:=by have:=(List.getElem?_eq_some_iff.1 hvj).1;simpa using this
    have hv':v=r.g j:=by simpa[hj]using hvj.symm
    subst hv'
    exact⟨_,hcell j hj,hv k r j hk hr hj⟩
   ·have hj:j<r.n:=hj
    rw[hcell j hj]at hx
    simp only[Option.some.injEq]at hx
    subst hx
    exact g3 j hj
 ·have hd:o.wr=false:=by
   rcases split i l hi with⟨h,rfl⟩|⟨k,r,hk,rfl,hr,rfl⟩
   ·simp only[heapR_old h,Option.some.injEq]at ho;subst ho;rfl
   ·simp only[heapR_row hk,hr,Option.some.injEq]at ho;subst ho;rfl
  rw[hd]at hw;cases hw
theorem slice_vr{W:World}{G m k len cap z:Nat}{rows:Nat→Option RowV}{r:RowV}(hk:k<m)(hr:rows k=some r)(ok:r.ok W)(hn:r.n=cap*z)(hl:len≤cap)(hz:0<z):VR (muR G m rows) (.slice (G+k) 0 len (some cap) z) (.slice (some r.a) len cap):=by
 obtain⟨⟨b,off,sp⟩,n,f,g⟩:=r
 obtain⟨g1,g2,_⟩:=ok
 obtain⟨_,_,_,_,hs,_,_,_⟩:=cells_of g1 g2
 simp only at hs hn
 simp only[VR]
 refine⟨⟨b,off,n⟩,cap,muR_row hk hr,?_,hl,by simp[hn],fun k hk=>by simpa using hk,fun h=>by cases h⟩
 subst hs
 simp
end Go.Mx
namespace Go.Mx
open Go
theorem run_calls_at{P:Program}{tbl:Nat→Option MFunc}{G:Nat}(hP:ProgOk P tbl G){x:CallT}(hx:CallOk P x){F d:Nat}{f:FuncId}{mf:MFunc}(hf:cFunc P f=some mf){args:List V}{xs:List Value}{v:V}{y:Value}{S:St}{μ:Mu}{W:World}
  (h:Gives (funcRun mf (mcode (mcallX x tbl F d) F) args S) v) (hh:HRel P μ W S) (hS:S.w=[]) (hargs:VRs μ args xs) (hv:∀μ z,VR μ v z→z=y):
  Calls P f ⟨xs⟩ W fun e W'=>e=.returned y∧RowKit.Below W.heap.size W W':=by
 obtain⟨s,hrun,hw⟩:=h.ex
 obtain⟨fn,hfn,_⟩:=cFunc_fn hf
 have ih:=mcallX_ok hP.m hP.e hP.t hx F d
 have:=func_ok (code_ok ih hP.e (draw_ok hP.m hP.e ih) (sel_ok ih hP.e) (range_ok ih) F) hfn hf hh hargs hrun
 refine callsIn_wide.1 (CallsIn.mono (F:=Fence.wide) this fun e W' he=>?_)
 cases e with
 |returned z=>
  obtain⟨μ',ws,h1,h2⟩:=he
  have hws:ws=[]:=by have:=h2.wl;rw[hw,hS]at this;simpa using this.symm
  subst hws
  exact⟨by rw[hv _ _ h1],h2.chg.os,h2.chg.tape,h2.chg.output,h2.chg.size,fun k hk=>h2.chg.block k hk fun i hi=>by cases hi⟩
 |panicked _=>exact he.elim
 |outgrown=>exact he.elim
theorem Cx.calls{P:Program}{C:Cx}{G:Nat}(hP:ProgOk P C.tbl G)(hx:CallOk P C.x){f:Nat}{mf:MFunc}(hf:cFunc P f=some mf)(ht:C.tbl f=some mf){args:List V}{xs:List Value}{v:V}{y:Value}{S:St}{μ:Mu}{W:World}
  (hn:∀st,C.x (.func f [] []) args st=none) (h:Fn C f args S.h S.n (fun u _ _=>u=v)) (hh:HRel P μ W S) (hS:S.w=[]) (hargs:VRs μ args xs) (hv:∀μ z,VR μ v z→z=y):
  Calls P f ⟨xs⟩ W fun e W'=>e=.returned y∧RowKit.Below W.heap.size W W':=by
 obtain⟨u,st',hc,hw,hk,hu⟩:=(h []).ex
 subst hu
 have hS':(⟨S.h,S.n,[]⟩:St)=S:=by obtain⟨a,b,c⟩:=S;simp only at hS;subst hS;rfl
 rw[hS']at hc
 rw[Cx.call_eq]at hc
 unfold orCall at hc
 rw[hn]at hc
 simp only at hc
 obtain⟨n,hn'⟩:=callStep_need (q:=fun n=>mcode (C.at n) n) (fun n m hnm=>mcode_mono (Cx.at_mono hnm) n m hnm) (fun _ _ _ _ _ e=>Cx.code_need e) hc
 unfold callStep at hn'
 simp only[ht,List.nil_append,List.append_nil]at hn'
 exact run_calls_at (F:=n) (d:=n) hP hx hf ⟨_,hn',hw⟩ hh hS hargs hv
end Go.Mx
namespace Go.Mx
open Go Go.Proofs
set_option maxRecDepth 1000000
noncomputable def A.tbl:Nat→Option MFunc:=cFunc Tryz.prog
def A.p0:PEnt:=⟨94,[(.str [105,110])],(.bool true)⟩
def A.L0:List PEnt:=A.p0::[]
def A.p1:PEnt:=⟨58,[(.int .i64 2),(.int .i64 1),(.int .i64 1000)],(.int .i64 0)⟩
def A.L1:List PEnt:=A.p1::A.L0
def A.p2:PEnt:=⟨223,[(.str [49,47,50]),(.str [45])],(.bool false)⟩
def A.L2:List PEnt:=A.p2::A.L1
def A.p3:PEnt:=⟨183,[(.str [49,47,50]),(.str [45])],(.tup [(.str [49,47,50]),(.bool false)])⟩
def A.L3:List PEnt:=A.p3::A.L2
def A.p4:PEnt:=⟨146,[(.str [49,47,50]),(.str [45])],(.tup [(.str [49,47,50]),(.bool false)])⟩
def A.L4:List PEnt:=A.p4::A.L3
def A.p5:PEnt:=⟨224,[(.str [49,47,50]),(.str [47])],(.int .i64 1)⟩
def A.L5:List PEnt:=A.p5::A.L4
def A.p6:PEnt:=⟨184,[(.str [49,47,50]),(.str [47])],(.tup [(.str [49]),(.str [50]),(.bool true)])⟩
def A.L6:List PEnt:=A.p6::A.L5
def A.p7:PEnt:=⟨147,[(.str [49,47,50]),(.str [47])],(.tup [(.str [49]),(.str [50]),(.bool true)])⟩
def A.L7:List PEnt:=A.p7::A.L6
def A.p8:PEnt:=⟨227,[(.str [48,49,50,51,52,53,54,55,56,57])],(.tup [(.agg [(.bool false),(.bool false),(.bool false),(.bool false),(.bool false),(.bool false),(.bool false),(.bool false),(.bool false),(.bool false),(.bool false),(.bool false),(.bool false),(.bool false),(.bool false),(.bool false),(.bool false),(.bool false),(.bool false),(.bool false),(.bool false),(.bool false),(.bool false),(.bool false),(.bool false),(.bool false),(.bool false),(.bool false),(.bool false),(.bool false),(.bool false),(.bool false),(.bool false),(.bool false),(.bool false),(.bool false),(.bool false),(.bool false),(.bool false),(.bool false),(.bool false),(.bool false),(.bool false),(.bool false),(.bool false),(.bool false),(.bool false),(.bool false),(.bool true),(.bool true),(.bool true),(.bool true),(.bool true),(.bool true),(.bool true),(.bool true),(.bool true),(.bool true),(.bool false),(.bool false),(.bool false),(.bool false),(.bool false),(.bool false),(.bool false),(.bool false),(.bool false),(.bool false),(.bool false),(.bool false),(.bool false),(.bool false),(.bool false),(.bool false),(.bool false),(.bool false),(.bool false),(.bool false),(.bool false),(.bool false),(.bool false),(.bool false),(.bool false),(.bool false),(.bool false),(.bool false),(.bool false),(.bool false),(.bool false),(.bool false),(.bool false),(.bool false),(.bool false),(.bool false),(.bool false),(.bool false),(.bool false),(.bool false),(.bool false),(.bool false),(.bool false),(.bool false),(.bool false),(.bool false),(.bool false),(.bool false),(.bool false),(.bool false),(.bool false),(.bool false),(.bool false),(.bool false),(.bool false),(.bool false),(.bool false),(.bool false),(.bool false),(.bool false),(.bool false),(.bool false),(.bool false),(.bool false),(.bool false),(.bool false),(.bool false),(.bool false),(.bool false),(.bool false),(.bool false),(.bool false),(.bool false),(.bool false),(.bool false),(.bool false),(.bool false),(.bool false),(.bool false),(.bool false),(.bool false),(.bool false),(.bool false),(.bool false),(.bool false),(.bool false),(.bool false),(.bool false),(.bool false),(.bool false),(.bool false),(.bool false),(.bool false),(.bool false),(.bool false),(.bool false),(.bool false),(.bool false),(.bool false),(.bool false),(.bool false),(.bool false),(.bool false),(.bool false),(.bool false),(.bool false),(.bool false),(.bool false),(.bool false),(.bool false),(.bool false),(.bool false),(.bool false),(.bool false),(.bool false),(.bool false),(.bool false),(.bool false),(.bool false),(.bool false),(.bool false),(.bool false),(.bool false),(.bool false),(.bool false),(.bool false),(.bool false),(.bool false),(.bool false),(.bool false),(.bool false),(.bool false),(.bool false),(.bool false),(.bool false),(.bool false),(.bool false),(.bool false),(.bool false),(.bool false),(.bool false),(.bool false),(.bool false),(.bool false),(.bool false),(.bool false),(.bool false),(.bool false),(.bool false),(.bool false),(.bool false),(.bool false),(.bool false),(.bool false),(.bool false),(.bool false),(.bool false),(.bool false),(.bool false),(.bool false),(.bool false),(.bool false),(.bool false),(.bool false),(.bool false),(.bool false),(.bool false),(.bool false),(.bool false),(.bool false),(.bool false),(.bool false),(.bool false),(.bool false),(.bool false),(.bool false),(.bool false),(.bool false),(.bool false),(.bool false),(.bool false),(.bool false),(.bool false),(.bool false),(.bool false),(.bool false),(.bool false),(.bool false),(.bool false),(.bool false),(.bool false),(.bool false),(.bool false),(.bool false),(.bool false),(.bool false),(.bool false),(.bool false)]),(.bool true)])⟩
def A.L8:List PEnt:=A.p8::A.L7
def A.p9:PEnt:=⟨185,[(.str [49]),(.str [48,49,50,51,52,53,54,55,56,57])],(.str [])⟩
def A.L9:List PEnt:=A.p9::A.L8
def A.p10:PEnt:=⟨148,[(.str [49])],(.bool true)⟩
def A.L10:List PEnt:=A.p10::A.L9
def A.p11:PEnt:=⟨185,[(.str [50]),(.str [48,49,50,51,52,53,54,55,56,57])],(.str [])⟩
def A.L11:List PEnt:=A.p11::A.L10
def A.p12:PEnt:=⟨148,[(.str [50])],(.bool true)⟩
def A.L12:List PEnt:=A.p12::A.L11
def A.p13:PEnt:=⟨223,[(.str [49]),(.str [45])],(.bool false)⟩
def A.L13:List PEnt:=A.p13::A.L12
def A.p14:PEnt:=⟨189,[(.str [49]),(.str [45])],(.bool false)⟩
def A.L14:List PEnt:=A.p14::A.L13
def A.p15:PEnt:=⟨232,[(.str [49]),(.str [45])],(.str [49])⟩
def A.L15:List PEnt:=A.p15::A.L14
def A.p16:PEnt:=⟨190,[(.str [49]),(.str [45])],(.str [49])⟩
def A.L16:List PEnt:=A.p16::A.L15
def A.p17:PEnt:=⟨233,[(.str [49])],(.tup [(.int .i64 1),.niliface])⟩
def A.L17:List PEnt:=A.p17::A.L16
def A.p18:PEnt:=⟨191,[(.str [49])],(.tup [(.int .i64 1),.niliface])⟩
def A.L18:List PEnt:=A.p18::A.L17
def A.p19:PEnt:=⟨216,[(.int .u64 1),(.int .u64 10)],(.tup [(.int .u64 0),(.int .u64 10)])⟩
def A.L19:List PEnt:=A.p19::A.L18
def A.p20:PEnt:=⟨181,[(.agg [(.int .i64 1),.nilslice]),(.agg [(.int .i64 10),.nilslice])],(.agg [(.int .i64 10),.nilslice])⟩
def A.L20:List PEnt:=A.p20::A.L19
def A.p21:PEnt:=⟨192,[(.agg [(.int .i64 10),.nilslice]),(.int .i64 1)],(.agg [(.int .i64 10),.nilslice])⟩
def A.L21:List PEnt:=A.p21::A.L20
def A.p22:PEnt:=⟨216,[(.int .u64 0),(.int .u64 10)],(.tup [(.int .u64 0),(.int .u64 0)])⟩
def A.L22:List PEnt:=A.p22::A.L21
def A.p23:PEnt:=⟨181,[(.agg [(.int .i64 0),.nilslice]),(.agg [(.int .i64 10),.nilslice])],(.agg [(.int .i64 0),.nilslice])⟩
def A.L23:List PEnt:=A.p23::A.L22
def A.p24:PEnt:=⟨182,[(.agg [(.int .i64 0),.nilslice]),(.agg [(.int .i64 1),.nilslice])],(.agg [(.int .i64 1),.nilslice])⟩
def A.L24:List PEnt:=A.p24::A.L23
def A.p25:PEnt:=⟨152,[(.str [49])],(.agg [(.int .i64 1),.nilslice])⟩
def A.L25:List PEnt:=A.p25::A.L24
def A.p26:PEnt:=⟨223,[(.str [50]),(.str [45])],(.bool false)⟩
def A.L26:List PEnt:=A.p26::A.L25
def A.p27:PEnt:=⟨189,[(.str [50]),(.str [45])],(.bool false)⟩
def A.L27:List PEnt:=A.p27::A.L26
def A.p28:PEnt:=⟨232,[(.str [50]),(.str [45])],(.str [50])⟩
def A.L28:List PEnt:=A.p28::A.L27
def A.p29:PEnt:=⟨190,[(.str [50]),(.str [45])],(.str [50])⟩
def A.L29:List PEnt:=A.p29::A.L28
def A.p30:PEnt:=⟨233,[(.str [50])],(.tup [(.int .i64 2),.niliface])⟩
def A.L30:List PEnt:=A.p30::A.L29
def A.p31:PEnt:=⟨191,[(.str [50])],(.tup [(.int .i64 2),.niliface])⟩
def A.L31:List PEnt:=A.p31::A.L30
def A.p32:PEnt:=⟨182,[(.agg [(.int .i64 0),.nilslice]),(.agg [(.int .i64 2),.nilslice])],(.agg [(.int .i64 2),.nilslice])⟩
def A.L32:List PEnt:=A.p32::A.L31
def A.p33:PEnt:=⟨152,[(.str [50])],(.agg [(.int .i64 2),.nilslice])⟩
def A.L33:List PEnt:=A.p33::A.L32
def A.p34:PEnt:=⟨188,[(.agg [(.int .i64 1),.nilslice]),(.agg [(.int .i64 2),.nilslice])],(.tup [(.agg [(.int .i64 0),.nilslice]),(.agg [(.int .i64 1),.nilslice])])⟩
def A.L34:List PEnt:=A.p34::A.L33
def A.p35:PEnt:=⟨188,[(.agg [(.int .i64 2),.nilslice]),(.agg [(.int .i64 1),.nilslice])],(.tup [(.agg [(.int .i64 2),.nilslice]),(.agg [(.int .i64 0),.nilslice])])⟩
def A.L35:List PEnt:=A.p35::A.L34
def A.p36:PEnt:=⟨151,[(.agg [(.int .i64 1),.nilslice]),(.agg [(.int .i64 2),.nilslice])],(.agg [(.int .i64 1),.nilslice])⟩
def A.L36:List PEnt:=A.p36::A.L35
def A.p37:PEnt:=⟨153,[(.agg [(.int .i64 1),.nilslice]),(.agg [(.int .i64 1),.nilslice])],(.int .i64 0)⟩
def A.L37:List PEnt:=A.p37::A.L36
def A.p38:PEnt:=⟨91,[(.str [49,47,50])],(.int .i64 0)⟩
def A.L38:List PEnt:=A.p38::A.L37
def A.p39:PEnt:=⟨94,[(.str [102,105,116])],(.bool true)⟩
def A.L39:List PEnt:=A.p39::A.L38
def A.p40:PEnt:=⟨58,[(.int .i64 3),(.int .i64 1),(.int .i64 1000)],(.int .i64 0)⟩
def A.L40:List PEnt:=A.p40::A.L39
def A.p41:PEnt:=⟨183,[(.str [49]),(.str [45])],(.tup [(.str [49]),(.bool false)])⟩
def A.L41:List PEnt:=A.p41::A.L40
def A.p42:PEnt:=⟨146,[(.str [49]),(.str [45])],(.tup [(.str [49]),(.bool false)])⟩
def A.L42:List PEnt:=A.p42::A.L41
def A.p43:PEnt:=⟨224,[(.str [49]),(.str [47])],(.int .i64 (-1))⟩
def A.L43:List PEnt:=A.p43::A.L42
def A.p44:PEnt:=⟨184,[(.str [49]),(.str [47])],(.tup [(.str [49]),(.str []),(.bool false)])⟩
def A.L44:List PEnt:=A.p44::A.L43
def A.p45:PEnt:=⟨147,[(.str [49]),(.str [47])],(.tup [(.str [49]),(.str []),(.bool false)])⟩
def A.L45:List PEnt:=A.p45::A.L44
def A.p46:PEnt:=⟨91,[(.str [49])],(.int .i64 0)⟩
def A.L46:List PEnt:=A.p46::A.L45
def A.p47:PEnt:=⟨94,[(.str [111,117,116])],(.bool true)⟩
def A.L47:List PEnt:=A.p47::A.L46
def A.p48:PEnt:=⟨58,[(.int .i64 1),(.int .i64 1),(.int .i64 1000)],(.int .i64 0)⟩
def A.L48:List PEnt:=A.p48::A.L47
def A.p49:PEnt:=⟨58,[(.int .i64 1),(.int .i64 1),(.int .i64 999999999)],(.int .i64 0)⟩
def A.L49:List PEnt:=A.p49::A.L48
def A.p50:PEnt:=⟨58,[(.int .i64 0),(.int .i64 0),(.int .i64 100000000)],(.int .i64 0)⟩
def A.L50:List PEnt:=A.p50::A.L49
def A.p51:PEnt:=⟨58,[(.int .i64 10),(.int .i64 0),(.int .i64 100000000)],(.int .i64 0)⟩
def A.L51:List PEnt:=A.p51::A.L50
def A.p52:PEnt:=⟨223,[(.str [52]),(.str [45])],(.bool false)⟩
def A.L52:List PEnt:=A.p52::A.L51
def A.p53:PEnt:=⟨183,[(.str [52]),(.str [45])],(.tup [(.str [52]),(.bool false)])⟩
def A.L53:List PEnt:=A.p53::A.L52
def A.p54:PEnt:=⟨146,[(.str [52]),(.str [45])],(.tup [(.str [52]),(.bool false)])⟩
def A.L54:List PEnt:=A.p54::A.L53
def A.p55:PEnt:=⟨224,[(.str [52]),(.str [47])],(.int .i64 (-1))⟩
def A.L55:List PEnt:=A.p55::A.L54
def A.p56:PEnt:=⟨184,[(.str [52]),(.str [47])],(.tup [(.str [52]),(.str []),(.bool false)])⟩
def A.L56:List PEnt:=A.p56::A.L55
def A.p57:PEnt:=⟨147,[(.str [52]),(.str [47])],(.tup [(.str [52]),(.str []),(.bool false)])⟩
def A.L57:List PEnt:=A.p57::A.L56
def A.p58:PEnt:=⟨185,[(.str [52]),(.str [48,49,50,51,52,53,54,55,56,57])],(.str [])⟩
def A.L58:List PEnt:=A.p58::A.L57
def A.p59:PEnt:=⟨148,[(.str [52])],(.bool true)⟩
def A.L59:List PEnt:=A.p59::A.L58
def A.p60:PEnt:=⟨91,[(.str [52])],(.int .i64 0)⟩
def A.L60:List PEnt:=A.p60::A.L59
def A.p61:PEnt:=⟨58,[(.int .i64 2),(.int .i64 1),(.int .i64 999999999)],(.int .i64 0)⟩
def A.L61:List PEnt:=A.p61::A.L60
def A.p62:PEnt:=⟨183,[(.str [50]),(.str [45])],(.tup [(.str [50]),(.bool false)])⟩
def A.L62:List PEnt:=A.p62::A.L61
def A.p63:PEnt:=⟨146,[(.str [50]),(.str [45])],(.tup [(.str [50]),(.bool false)])⟩
def A.L63:List PEnt:=A.p63::A.L62
def A.p64:PEnt:=⟨224,[(.str [50]),(.str [47])],(.int .i64 (-1))⟩
def A.L64:List PEnt:=A.p64::A.L63
def A.p65:PEnt:=⟨184,[(.str [50]),(.str [47])],(.tup [(.str [50]),(.str []),(.bool false)])⟩
def A.L65:List PEnt:=A.p65::A.L64
def A.p66:PEnt:=⟨147,[(.str [50]),(.str [47])],(.tup [(.str [50]),(.str []),(.bool false)])⟩
def A.L66:List PEnt:=A.p66::A.L65
def A.p67:PEnt:=⟨91,[(.str [50])],(.int .i64 0)⟩
def A.L67:List PEnt:=A.p67::A.L66
def A.p68:PEnt:=⟨109,[(.int .i64 0)],(.agg [(.int .i64 0),.nilslice,(.int .i64 1),.nilslice])⟩
def A.L68:List PEnt:=A.p68::A.L67
def A.p69:PEnt:=⟨189,[(.str [52]),(.str [45])],(.bool false)⟩
def A.L69:List PEnt:=A.p69::A.L68
def A.p70:PEnt:=⟨232,[(.str [52]),(.str [45])],(.str [52])⟩
def A.L70:List PEnt:=A.p70::A.L69
def A.p71:PEnt:=⟨190,[(.str [52]),(.str [45])],(.str [52])⟩
def A.L71:List PEnt:=A.p71::A.L70
def A.p72:PEnt:=⟨233,[(.str [52])],(.tup [(.int .i64 4),.niliface])⟩
def A.L72:List PEnt:=A.p72::A.L71
def A.p73:PEnt:=⟨191,[(.str [52])],(.tup [(.int .i64 4),.niliface])⟩
def A.L73:List PEnt:=A.p73::A.L72
def A.p74:PEnt:=⟨182,[(.agg [(.int .i64 0),.nilslice]),(.agg [(.int .i64 4),.nilslice])],(.agg [(.int .i64 4),.nilslice])⟩
def A.L74:List PEnt:=A.p74::A.L73
def A.p75:PEnt:=⟨152,[(.str [52])],(.agg [(.int .i64 4),.nilslice])⟩
def A.L75:List PEnt:=A.p75::A.L74
def A.p76:PEnt:=⟨110,[(.str [52])],(.agg [(.int .i64 4),.nilslice,(.int .i64 1),.nilslice])⟩
def A.L76:List PEnt:=A.p76::A.L75
def A.p77:PEnt:=⟨207,[(.agg [(.int .i64 4),.nilslice])],(.int .i64 3)⟩
def A.L77:List PEnt:=A.p77::A.L76
def A.p78:PEnt:=⟨174,[(.agg [(.int .i64 4),.nilslice])],(.bool false)⟩
def A.L78:List PEnt:=A.p78::A.L77
def A.p79:PEnt:=⟨241,[(.int .u64 1)],(.int .i64 1)⟩
def A.L79:List PEnt:=A.p79::A.L78
def A.p80:PEnt:=⟨207,[(.agg [(.int .i64 1),.nilslice])],(.int .i64 1)⟩
def A.L80:List PEnt:=A.p80::A.L79
def A.p81:PEnt:=⟨174,[(.agg [(.int .i64 1),.nilslice])],(.bool false)⟩
def A.L81:List PEnt:=A.p81::A.L80
def A.p82:PEnt:=⟨111,[(.agg [(.int .i64 4),.nilslice,(.int .i64 1),.nilslice])],(.bool false)⟩
def A.L82:List PEnt:=A.p82::A.L81
def A.p83:PEnt:=⟨110,[(.str [49,47,50])],(.agg [(.int .i64 1),.nilslice,(.int .i64 2),.nilslice])⟩
def A.L83:List PEnt:=A.p83::A.L82
def A.p84:PEnt:=⟨216,[(.int .u64 1),(.int .u64 4)],(.tup [(.int .u64 0),(.int .u64 4)])⟩
def A.L84:List PEnt:=A.p84::A.L83
def A.p85:PEnt:=⟨181,[(.agg [(.int .i64 1),.nilslice]),(.agg [(.int .i64 4),.nilslice])],(.agg [(.int .i64 4),.nilslice])⟩
def A.L85:List PEnt:=A.p85::A.L84
def A.p86:PEnt:=⟨216,[(.int .u64 2),(.int .u64 1)],(.tup [(.int .u64 0),(.int .u64 2)])⟩
def A.L86:List PEnt:=A.p86::A.L85
def A.p87:PEnt:=⟨181,[(.agg [(.int .i64 2),.nilslice]),(.agg [(.int .i64 1),.nilslice])],(.agg [(.int .i64 2),.nilslice])⟩
def A.L87:List PEnt:=A.p87::A.L86
def A.p88:PEnt:=⟨188,[(.agg [(.int .i64 4),.nilslice]),(.agg [(.int .i64 2),.nilslice])],(.tup [(.agg [(.int .i64 2),.nilslice]),(.agg [(.int .i64 0),.nilslice])])⟩
def A.L88:List PEnt:=A.p88::A.L87
def A.p89:PEnt:=⟨151,[(.agg [(.int .i64 4),.nilslice]),(.agg [(.int .i64 2),.nilslice])],(.agg [(.int .i64 2),.nilslice])⟩
def A.L89:List PEnt:=A.p89::A.L88
def A.p90:PEnt:=⟨215,[(.agg [(.int .i64 4),.nilslice]),(.agg [(.int .i64 2),.nilslice])],(.agg [(.int .i64 2),.nilslice])⟩
def A.L90:List PEnt:=A.p90::A.L89
def A.p91:PEnt:=⟨188,[(.agg [(.int .i64 2),.nilslice]),(.agg [(.int .i64 2),.nilslice])],(.tup [(.agg [(.int .i64 1),.nilslice]),(.agg [(.int .i64 0),.nilslice])])⟩
def A.L91:List PEnt:=A.p91::A.L90
def A.p92:PEnt:=⟨215,[(.agg [(.int .i64 2),.nilslice]),(.agg [(.int .i64 2),.nilslice])],(.agg [(.int .i64 1),.nilslice])⟩
def A.L92:List PEnt:=A.p92::A.L91
def A.p93:PEnt:=⟨180,[(.agg [(.int .i64 4),.nilslice]),(.agg [(.int .i64 2),.nilslice])],(.agg [(.int .i64 2),.nilslice,(.int .i64 1),.nilslice])⟩
def A.L93:List PEnt:=A.p93::A.L92
def A.p94:PEnt:=⟨139,[(.agg [(.int .i64 1),.nilslice,(.int .i64 2),.nilslice]),(.agg [(.int .i64 4),.nilslice,(.int .i64 1),.nilslice])],(.agg [(.int .i64 2),.nilslice,(.int .i64 1),.nilslice])⟩
def A.L94:List PEnt:=A.p94::A.L93
def A.p95:PEnt:=⟨241,[(.int .u64 2)],(.int .i64 2)⟩
def A.L95:List PEnt:=A.p95::A.L94
def A.p96:PEnt:=⟨207,[(.agg [(.int .i64 2),.nilslice])],(.int .i64 2)⟩
def A.L96:List PEnt:=A.p96::A.L95
def A.p97:PEnt:=⟨174,[(.agg [(.int .i64 2),.nilslice])],(.bool false)⟩
def A.L97:List PEnt:=A.p97::A.L96
def A.p98:PEnt:=⟨111,[(.agg [(.int .i64 2),.nilslice,(.int .i64 1),.nilslice])],(.bool false)⟩
def A.L98:List PEnt:=A.p98::A.L97
def A.p99:PEnt:=⟨110,[(.str [49])],(.agg [(.int .i64 1),.nilslice,(.int .i64 1),.nilslice])⟩
def A.L99:List PEnt:=A.p99::A.L98
def A.p100:PEnt:=⟨216,[(.int .u64 1),(.int .u64 0)],(.tup [(.int .u64 0),(.int .u64 0)])⟩
def A.L100:List PEnt:=A.p100::A.L99
def A.p101:PEnt:=⟨181,[(.agg [(.int .i64 1),.nilslice]),(.agg [(.int .i64 0),.nilslice])],(.agg [(.int .i64 0),.nilslice])⟩
def A.L101:List PEnt:=A.p101::A.L100
def A.p102:PEnt:=⟨216,[(.int .u64 1),(.int .u64 1)],(.tup [(.int .u64 0),(.int .u64 1)])⟩
def A.L102:List PEnt:=A.p102::A.L101
def A.p103:PEnt:=⟨181,[(.agg [(.int .i64 1),.nilslice]),(.agg [(.int .i64 1),.nilslice])],(.agg [(.int .i64 1),.nilslice])⟩
def A.L103:List PEnt:=A.p103::A.L102
def A.p104:PEnt:=⟨139,[(.agg [(.int .i64 1),.nilslice,(.int .i64 1),.nilslice]),(.agg [(.int .i64 0),.nilslice,(.int .i64 1),.nilslice])],(.agg [(.int .i64 0),.nilslice,(.int .i64 1),.nilslice])⟩
def A.L104:List PEnt:=A.p104::A.L103
def A.p105:PEnt:=⟨175,[(.agg [(.int .i64 2),.nilslice,(.int .i64 1),.nilslice])],(.bool true)⟩
def A.L105:List PEnt:=A.p105::A.L104
def A.p106:PEnt:=⟨145,[(.agg [(.int .i64 0),.nilslice,(.int .i64 1),.nilslice]),(.agg [(.int .i64 2),.nilslice,(.int .i64 1),.nilslice])],(.agg [(.int .i64 2),.nilslice,(.int .i64 1),.nilslice])⟩
def A.L106:List PEnt:=A.p106::A.L105
def A.p107:PEnt:=⟨110,[(.str [50])],(.agg [(.int .i64 2),.nilslice,(.int .i64 1),.nilslice])⟩
def A.L107:List PEnt:=A.p107::A.L106
def A.p108:PEnt:=⟨216,[(.int .u64 1),(.int .u64 2)],(.tup [(.int .u64 0),(.int .u64 2)])⟩
def A.L108:List PEnt:=A.p108::A.L107
def A.p109:PEnt:=⟨181,[(.agg [(.int .i64 1),.nilslice]),(.agg [(.int .i64 2),.nilslice])],(.agg [(.int .i64 2),.nilslice])⟩
def A.L109:List PEnt:=A.p109::A.L108
def A.p110:PEnt:=⟨151,[(.agg [(.int .i64 2),.nilslice]),(.agg [(.int .i64 2),.nilslice])],(.agg [(.int .i64 2),.nilslice])⟩
def A.L110:List PEnt:=A.p110::A.L109
def A.p111:PEnt:=⟨180,[(.agg [(.int .i64 2),.nilslice]),(.agg [(.int .i64 2),.nilslice])],(.agg [(.int .i64 1),.nilslice,(.int .i64 1),.nilslice])⟩
def A.L111:List PEnt:=A.p111::A.L110
def A.p112:PEnt:=⟨139,[(.agg [(.int .i64 1),.nilslice,(.int .i64 2),.nilslice]),(.agg [(.int .i64 2),.nilslice,(.int .i64 1),.nilslice])],(.agg [(.int .i64 1),.nilslice,(.int .i64 1),.nilslice])⟩
def A.L112:List PEnt:=A.p112::A.L111
def A.p113:PEnt:=⟨111,[(.agg [(.int .i64 1),.nilslice,(.int .i64 1),.nilslice])],(.bool false)⟩
def A.L113:List PEnt:=A.p113::A.L112
def A.p114:PEnt:=⟨139,[(.agg [(.int .i64 1),.nilslice,(.int .i64 1),.nilslice]),(.agg [(.int .i64 2),.nilslice,(.int .i64 1),.nilslice])],(.agg [(.int .i64 2),.nilslice,(.int .i64 1),.nilslice])⟩
def A.L114:List PEnt:=A.p114::A.L113
def A.p115:PEnt:=⟨175,[(.agg [(.int .i64 1),.nilslice,(.int .i64 1),.nilslice])],(.bool true)⟩
def A.L115:List PEnt:=A.p115::A.L114
def A.p116:PEnt:=⟨145,[(.agg [(.int .i64 2),.nilslice,(.int .i64 1),.nilslice]),(.agg [(.int .i64 1),.nilslice,(.int .i64 1),.nilslice])],(.agg [(.int .i64 3),.nilslice,(.int .i64 1),.nilslice])⟩
def A.L116:List PEnt:=A.p116::A.L115
def A.p117:PEnt:=⟨207,[(.agg [(.int .i64 3),.nilslice])],(.int .i64 2)⟩
def A.L117:List PEnt:=A.p117::A.L116
def A.p118:PEnt:=⟨174,[(.agg [(.int .i64 3),.nilslice])],(.bool false)⟩
def A.L118:List PEnt:=A.p118::A.L117
def A.p119:PEnt:=⟨111,[(.agg [(.int .i64 3),.nilslice,(.int .i64 1),.nilslice])],(.bool false)⟩
def A.L119:List PEnt:=A.p119::A.L118
def A.p120:PEnt:=⟨176,[(.agg [(.int .i64 4),.nilslice])],(.str [52])⟩
def A.L120:List PEnt:=A.p120::A.L119
def A.p121:PEnt:=⟨112,[(.agg [(.int .i64 4),.nilslice,(.int .i64 1),.nilslice])],(.str [52])⟩
def A.L121:List PEnt:=A.p121::A.L120
def A.p122:PEnt:=⟨268,[(.int .i64 2),(.int .i64 10)],(.str [50])⟩
def A.L122:List PEnt:=A.p122::A.L121
def A.p123:PEnt:=⟨242,[(.int .i64 2)],(.str [50])⟩
def A.L123:List PEnt:=A.p123::A.L122
def A.p124:PEnt:=⟨208,[(.int .i64 2)],(.str [50])⟩
def A.L124:List PEnt:=A.p124::A.L123
def A.p125:PEnt:=⟨176,[(.agg [(.int .i64 2),.nilslice])],(.str [50])⟩
def A.L125:List PEnt:=A.p125::A.L124
def A.p126:PEnt:=⟨112,[(.agg [(.int .i64 2),.nilslice,(.int .i64 1),.nilslice])],(.str [50])⟩
def A.L126:List PEnt:=A.p126::A.L125
def A.p127:PEnt:=⟨176,[(.agg [(.int .i64 1),.nilslice])],(.str [49])⟩
def A.L127:List PEnt:=A.p127::A.L126
def A.p128:PEnt:=⟨112,[(.agg [(.int .i64 1),.nilslice,(.int .i64 1),.nilslice])],(.str [49])⟩
def A.L128:List PEnt:=A.p128::A.L127
def A.p129:PEnt:=⟨176,[(.agg [(.int .i64 3),.nilslice])],(.str [51])⟩
def A.L129:List PEnt:=A.p129::A.L128
def A.p130:PEnt:=⟨112,[(.agg [(.int .i64 3),.nilslice,(.int .i64 1),.nilslice])],(.str [51])⟩
def A.L130:List PEnt:=A.p130::A.L129
def A.e0:Ent:=⟨38,[],[],[(.slice 12 0 3 (some 3) 5),(.slice 13 0 2 (some 2) 4)],[(12,.cells [(.str [105,110]),(.str [102,114,97,109,101]),(.str []),.nilslice,(.int .i64 2),(.str [102,105,116]),(.str [115,99,97,108,101]),(.str [49,47,50]),(.slice 10 0 1 (some 1) 1),(.int .i64 3),(.str [111,117,116]),(.str [115,117,109]),(.str [49]),(.slice 11 0 1 (some 1) 1),(.int .i64 1)] 126 true),(10,.cells [(.str [105,110])] 9 true),(11,.cells [(.str [102,105,116])] 9 true),(13,.cells [(.int .i64 1),(.int .i64 0),(.int .i64 10),(.str [52]),(.int .i64 2),(.int .i64 1),(.int .i64 10),(.str [50])] 107 true)],61,(.tup [(.slice 61 0 2 none 1),(.int .i64 0)]),[(187,.cells [(.slice 62 0 3 (some 3) 1),(.slice 63 0 3 (some 3) 1)] 66 true),(176,.cells [(.str [52]),(.str [50]),(.str [50])] 47 true),(182,.cells [(.str [50]),(.str [49]),(.str [51])] 47 true)],[]⟩
def A.E0:List Ent:=A.e0::[]
def A.e1:Ent:=⟨100,[],[],[(.ptr 123 0)],[(123,.cells [(.slice 12 0 3 (some 3) 5),(.slice 144 0 3 none 1),(.slice 114 0 3 none 1),(.slice 13 0 2 (some 2) 4),(.slice 154 0 2 none 1),(.slice 120 0 2 (some 2) 1),(.slice 122 0 1 (some 1) 1),.nilslice,.nilslice] 141 true),(12,.cells [(.str [105,110]),(.str [102,114,97,109,101]),(.str []),.nilslice,(.int .i64 2),(.str [102,105,116]),(.str [115,99,97,108,101]),(.str [49,47,50]),(.slice 10 0 1 (some 1) 1),(.int .i64 3),(.str [111,117,116]),(.str [115,117,109]),(.str [49]),(.slice 11 0 1 (some 1) 1),(.int .i64 1)] 126 true),(10,.cells [(.str [105,110])] 9 true),(11,.cells [(.str [102,105,116])] 9 true),(144,.cells [.nilslice,(.slice 133 0 1 none 1),(.slice 142 0 1 none 1)] 25 true),(133,.cells [(.int .i64 0)] 3 true),(142,.cells [(.int .i64 1)] 3 true),(114,.cells [(.int .i64 6),(.int .i64 4),(.int .i64 1)] 3 true),(13,.cells [(.int .i64 1),(.int .i64 0),(.int .i64 10),(.str [52]),(.int .i64 2),(.int .i64 1),(.int .i64 10),(.str [50])] 107 true),(154,.cells [(.slice 147 0 3 (some 3) 2),(.slice 152 0 3 (some 3) 2)] 209 true),(147,.cells [(.bool false),(.bool false),(.bool false),(.bool false),(.bool false),(.bool false)] 211 true),(152,.cells [(.bool false),(.bool false),(.bool false),(.bool false),(.bool false),(.bool false)] 211 true),(120,.cells [(.bool false),(.bool false)] 4 true),(122,.cells [(.int .i64 (-1))] 3 true)],155,(.tup []),[(169,.cells [(.int .i64 0),(.int .i64 0),(.int .i64 0),(.int .i64 0),(.int .i64 0)] 53 true),(248,.cells [(.int .i64 1),(.int .i64 0),(.int .i64 0),(.int .i64 0),(.int .i64 2),(.int .i64 1),(.int .i64 1),(.int .i64 0),(.int .i64 2),(.int .i64 5),(.int .i64 1),(.int .i64 2),(.int .i64 0),(.int .i64 5),(.int .i64 6)] 53 true)],[(120,.cells [(.bool false),(.bool true)] 4 true),(147,.cells [(.bool true),(.bool true),(.bool true),(.bool true),(.bool true),(.bool true)] 211 true),(122,.cells [(.int .i64 (-1))] 3 true),(123,.cells [(.slice 12 0 3 (some 3) 5),(.slice 144 0 3 none 1),(.slice 114 0 3 none 1),(.slice 13 0 2 (some 2) 4),(.slice 154 0 2 none 1),(.slice 120 0 2 (some 2) 1),(.slice 122 0 1 (some 1) 1),(.slice 155 0 0 none 5),(.slice 156 0 3 none 5)] 141 true)]⟩
def A.E1:List Ent:=A.e1::A.E0
def A.p131:PEnt:=⟨202,[(.int .u64 1),(.int .u64 2)],(.tup [(.int .u64 0),(.int .u64 2)])⟩
def A.L131:List PEnt:=A.p131::A.L130
def A.e2:Ent:=⟨100,[],[],[(.ptr 226 0)],[(226,.cells [(.slice 12 0 3 (some 3) 5),(.slice 247 0 3 none 1),(.slice 217 0 3 none 1),(.slice 13 0 2 (some 2) 4),(.slice 257 0 2 none 1),(.slice 223 0 2 (some 2) 1),(.slice 225 0 2 (some 2) 1),.nilslice,.nilslice] 141 true),(12,.cells [(.str [105,110]),(.str [102,114,97,109,101]),(.str []),.nilslice,(.int .i64 2),(.str [102,105,116]),(.str [115,99,97,108,101]),(.str [49,47,50]),(.slice 10 0 1 (some 1) 1),(.int .i64 3),(.str [111,117,116]),(.str [115,117,109]),(.str [49]),(.slice 11 0 1 (some 1) 1),(.int .i64 1)] 126 true),(10,.cells [(.str [105,110])] 9 true),(11,.cells [(.str [102,105,116])] 9 true),(247,.cells [.nilslice,(.slice 236 0 1 none 1),(.slice 245 0 1 none 1)] 25 true),(236,.cells [(.int .i64 0)] 3 true),(245,.cells [(.int .i64 1)] 3 true),(217,.cells [(.int .i64 6),(.int .i64 4),(.int .i64 1)] 3 true),(13,.cells [(.int .i64 1),(.int .i64 0),(.int .i64 10),(.str [52]),(.int .i64 2),(.int .i64 1),(.int .i64 10),(.str [50])] 107 true),(257,.cells [(.slice 250 0 3 (some 3) 2),(.slice 255 0 3 (some 3) 2)] 209 true),(250,.cells [(.bool false),(.bool false),(.bool false),(.bool false),(.bool false),(.bool false)] 211 true),(255,.cells [(.bool false),(.bool false),(.bool false),(.bool false),(.bool false),(.bool false)] 211 true),(223,.cells [(.bool false),(.bool false)] 4 true),(225,.cells [(.int .i64 (-1)),(.int .i64 (-1))] 3 true)],258,(.tup []),[(301,.cells [(.int .i64 0),(.int .i64 0),(.int .i64 0),(.int .i64 0),(.int .i64 0),(.int .i64 0),(.int .i64 0),(.int .i64 0),(.int .i64 0),(.int .i64 0)] 53 true),(423,.cells [(.int .i64 1),(.int .i64 0),(.int .i64 0),(.int .i64 0),(.int .i64 2),(.int .i64 2),(.int .i64 0),(.int .i64 1),(.int .i64 1),(.int .i64 3),(.int .i64 1),(.int .i64 1),(.int .i64 0),(.int .i64 2),(.int .i64 5),(.int .i64 2),(.int .i64 1),(.int .i64 1),(.int .i64 3),(.int .i64 6),(.int .i64 1),(.int .i64 2),(.int .i64 0),(.int .i64 5),(.int .i64 6),(.int .i64 2),(.int .i64 2),(.int .i64 0),(.int .i64 6),(.int .i64 7)] 53 true)],[(255,.cells [(.bool true),(.bool true),(.bool true),(.bool true),(.bool true),(.bool true)] 211 true),(250,.cells [(.bool true),(.bool true),(.bool true),(.bool true),(.bool true),(.bool true)] 211 true),(225,.cells [(.int .i64 (-1)),(.int .i64 (-1))] 3 true),(226,.cells [(.slice 12 0 3 (some 3) 5),(.slice 247 0 3 none 1),(.slice 217 0 3 none 1),(.slice 13 0 2 (some 2) 4),(.slice 257 0 2 none 1),(.slice 223 0 2 (some 2) 1),(.slice 225 0 2 (some 2) 1),(.slice 258 0 0 none 5),(.slice 259 0 6 none 5)] 141 true)]⟩
def A.E2:List Ent:=A.e2::A.E1
def A.e3:Ent:=⟨100,[],[],[(.ptr 330 0)],[(330,.cells [(.slice 12 0 3 (some 3) 5),(.slice 351 0 3 none 1),(.slice 321 0 3 none 1),(.slice 13 0 2 (some 2) 4),(.slice 361 0 2 none 1),(.slice 327 0 2 (some 2) 1),(.slice 329 0 2 (some 2) 1),.nilslice,.nilslice] 141 true),(12,.cells [(.str [105,110]),(.str [102,114,97,109,101]),(.str []),.nilslice,(.int .i64 2),(.str [102,105,116]),(.str [115,99,97,108,101]),(.str [49,47,50]),(.slice 10 0 1 (some 1) 1),(.int .i64 3),(.str [111,117,116]),(.str [115,117,109]),(.str [49]),(.slice 11 0 1 (some 1) 1),(.int .i64 1)] 126 true),(10,.cells [(.str [105,110])] 9 true),(11,.cells [(.str [102,105,116])] 9 true),(351,.cells [.nilslice,(.slice 340 0 1 none 1),(.slice 349 0 1 none 1)] 25 true),(340,.cells [(.int .i64 0)] 3 true),(349,.cells [(.int .i64 1)] 3 true),(321,.cells [(.int .i64 6),(.int .i64 4),(.int .i64 1)] 3 true),(13,.cells [(.int .i64 1),(.int .i64 0),(.int .i64 10),(.str [52]),(.int .i64 2),(.int .i64 1),(.int .i64 10),(.str [50])] 107 true),(361,.cells [(.slice 354 0 3 (some 3) 2),(.slice 359 0 3 (some 3) 2)] 209 true),(354,.cells [(.bool false),(.bool false),(.bool false),(.bool false),(.bool false),(.bool false)] 211 true),(359,.cells [(.bool false),(.bool false),(.bool false),(.bool false),(.bool false),(.bool false)] 211 true),(327,.cells [(.bool false),(.bool false)] 4 true),(329,.cells [(.int .i64 (-1)),(.int .i64 (-1))] 3 true)],362,(.tup []),[(405,.cells [(.int .i64 0),(.int .i64 0),(.int .i64 0),(.int .i64 0),(.int .i64 0),(.int .i64 0),(.int .i64 0),(.int .i64 0),(.int .i64 0),(.int .i64 0)] 53 true),(527,.cells [(.int .i64 1),(.int .i64 0),(.int .i64 0),(.int .i64 0),(.int .i64 2),(.int .i64 2),(.int .i64 0),(.int .i64 1),(.int .i64 1),(.int .i64 3),(.int .i64 1),(.int .i64 1),(.int .i64 0),(.int .i64 2),(.int .i64 5),(.int .i64 2),(.int .i64 1),(.int .i64 1),(.int .i64 3),(.int .i64 6),(.int .i64 1),(.int .i64 2),(.int .i64 0),(.int .i64 5),(.int .i64 6),(.int .i64 2),(.int .i64 2),(.int .i64 0),(.int .i64 6),(.int .i64 7)] 53 true)],[(359,.cells [(.bool true),(.bool true),(.bool true),(.bool true),(.bool true),(.bool true)] 211 true),(354,.cells [(.bool true),(.bool true),(.bool true),(.bool true),(.bool true),(.bool true)] 211 true),(329,.cells [(.int .i64 (-1)),(.int .i64 (-1))] 3 true),(330,.cells [(.slice 12 0 3 (some 3) 5),(.slice 351 0 3 none 1),(.slice 321 0 3 none 1),(.slice 13 0 2 (some 2) 4),(.slice 361 0 2 none 1),(.slice 327 0 2 (some 2) 1),(.slice 329 0 2 (some 2) 1),(.slice 362 0 0 none 5),(.slice 363 0 6 none 5)] 141 true)]⟩
def A.E3:List Ent:=A.e3::A.E2
def A.e4:Ent:=⟨39,[],[],[(.slice 12 0 3 (some 3) 5),(.slice 13 0 2 (some 2) 4),(.int .i64 2)],[(12,.cells [(.str [105,110]),(.str [102,114,97,109,101]),(.str []),.nilslice,(.int .i64 2),(.str [102,105,116]),(.str [115,99,97,108,101]),(.str [49,47,50]),(.slice 10 0 1 (some 1) 1),(.int .i64 3),(.str [111,117,116]),(.str [115,117,109]),(.str [49]),(.slice 11 0 1 (some 1) 1),(.int .i64 1)] 126 true),(10,.cells [(.str [105,110])] 9 true),(11,.cells [(.str [102,105,116])] 9 true),(13,.cells [(.int .i64 1),(.int .i64 0),(.int .i64 10),(.str [52]),(.int .i64 2),(.int .i64 1),(.int .i64 10),(.str [50])] 107 true)],272,(.tup [(.slice 272 0 2 none 3),(.int .i64 0)]),[(477,.cells [(.int .i64 1),(.int .i64 6),(.slice 273 0 3 (some 3) 1),(.int .i64 2),(.int .i64 7),(.slice 274 0 3 (some 3) 1)] 78 true),(459,.cells [(.str [52]),(.str [50]),(.str [50])] 47 true),(472,.cells [(.str [50]),(.str [49]),(.str [51])] 47 true)],[]⟩
def A.E4:List Ent:=A.e4::A.E3
def A.e5:Ent:=⟨41,[],[],[(.slice 12 0 3 (some 3) 5),(.slice 13 0 2 (some 2) 4),(.slice 272 0 2 none 3)],[(12,.cells [(.str [105,110]),(.str [102,114,97,109,101]),(.str []),.nilslice,(.int .i64 2),(.str [102,105,116]),(.str [115,99,97,108,101]),(.str [49,47,50]),(.slice 10 0 1 (some 1) 1),(.int .i64 3),(.str [111,117,116]),(.str [115,117,109]),(.str [49]),(.slice 11 0 1 (some 1) 1),(.int .i64 1)] 126 true),(10,.cells [(.str [105,110])] 9 true),(11,.cells [(.str [102,105,116])] 9 true),(13,.cells [(.int .i64 1),(.int .i64 0),(.int .i64 10),(.str [52]),(.int .i64 2),(.int .i64 1),(.int .i64 10),(.str [50])] 107 true),(272,.cells [(.int .i64 1),(.int .i64 6),(.slice 273 0 3 (some 3) 1),(.int .i64 2),(.int .i64 7),(.slice 274 0 3 (some 3) 1)] 78 true),(273,.cells [(.str [52]),(.str [50]),(.str [50])] 47 true),(274,.cells [(.str [50]),(.str [49]),(.str [51])] 47 true)],279,(.tup [(.int .i64 0),(.int .i64 0)]),[],[]⟩
def A.E5:List Ent:=A.e5::A.E4
def A.p132:PEnt:=⟨58,[(.int .i64 0),(.int .i64 0),(.int .i64 2)],(.int .i64 0)⟩
def A.L132:List PEnt:=A.p132::A.L131
def A.p133:PEnt:=⟨81,[(.agg [(.str [105,100,108,101]),(.int .i64 0),(.bool false),(.bool false)])],(.int .i64 0)⟩
def A.L133:List PEnt:=A.p133::A.L132
def A.p134:PEnt:=⟨81,[(.agg [(.str [99,108,111,115,101,100]),(.int .i64 0),(.bool false),(.bool false)])],(.int .i64 0)⟩
def A.L134:List PEnt:=A.p134::A.L133
def A.p135:PEnt:=⟨8,[],(.bool true)⟩
def A.L135:List PEnt:=A.p135::A.L134
end Go.Mx
