/-
  The program of this seat: what the machine M asks of it.
-/
import Derived.Test.YtppobccilnifoaaGreatDoorMxTab
import Derived.Test.YtppobccilnifoaaGreatDoorMxIn2
import Derived.Test.YtppobccilnifoaaGreatDoorChecked
set_option linter.all false
namespace Go.Mx
open Go Go.Proofs
set_option maxRecDepth 1000000
theorem A.mixed:Tryz.prog.follows .mixedOrders=true:=by kernel_rfl
theorem A.names:(Tryz.prog.funcs.toList.all fun fn=>!(fn.name== "runtime.NumGoroutine"))=true:=by kernel_rfl
theorem A.exts:((List.range Tryz.prog.funcs.size).all fun i=>match Tryz.prog.funcs[i]? with
  |some fn=>fn.body.isSome||(extOf fn.name).isNone||memN i [252,253,274,275]
  |none=>true)=true:=by kernel_rfl
theorem A.globals:Tryz.prog.globals.size=10:=by kernel_rfl
theorem A.ext0(fn:Func)(e:Ext)(hf:Tryz.prog.funcs[252]?=some fn)(he:extOf fn.name=some e):(fn.name== "runtime.NumGoroutine")=false∧Extern.findNext fn=none∧Extern.find fn=some (entryOf e):=by
 obtain rfl:fn=Tryz.f252:=(Option.some.inj (Tryz.func252.symm.trans hf)).symm
 obtain rfl:e=.add64:=(Option.some.inj ((show extOf Tryz.f252.name=some .add64 by kernel_rfl).symm.trans he)).symm
 exact⟨by kernel_rfl,by kernel_rfl,by kernel_rfl⟩
theorem A.ext1(fn:Func)(e:Ext)(hf:Tryz.prog.funcs[253]?=some fn)(he:extOf fn.name=some e):(fn.name== "runtime.NumGoroutine")=false∧Extern.findNext fn=none∧Extern.find fn=some (entryOf e):=by
 obtain rfl:fn=Tryz.f253:=(Option.some.inj (Tryz.func253.symm.trans hf)).symm
 obtain rfl:e=.sub64:=(Option.some.inj ((show extOf Tryz.f253.name=some .sub64 by kernel_rfl).symm.trans he)).symm
 exact⟨by kernel_rfl,by kernel_rfl,by kernel_rfl⟩
theorem A.ext2(fn:Func)(e:Ext)(hf:Tryz.prog.funcs[274]?=some fn)(he:extOf fn.name=some e):(fn.name== "runtime.NumGoroutine")=false∧Extern.findNext fn=none∧Extern.find fn=some (entryOf e):=by
 obtain rfl:fn=Tryz.f274:=(Option.some.inj (Tryz.func274.symm.trans hf)).symm
 obtain rfl:e=.same:=(Option.some.inj ((show extOf Tryz.f274.name=some .same by kernel_rfl).symm.trans he)).symm
 exact⟨by kernel_rfl,by kernel_rfl,by kernel_rfl⟩
theorem A.ext3(fn:Func)(e:Ext)(hf:Tryz.prog.funcs[275]?=some fn)(he:extOf fn.name=some e):(fn.name== "runtime.NumGoroutine")=false∧Extern.findNext fn=none∧Extern.find fn=some (entryOf e):=by
 obtain rfl:fn=Tryz.f275:=(Option.some.inj (Tryz.func275.symm.trans hf)).symm
 obtain rfl:e=.indexByteString:=(Option.some.inj ((show extOf Tryz.f275.name=some .indexByteString by kernel_rfl).symm.trans he)).symm
 exact⟨by kernel_rfl,by kernel_rfl,by kernel_rfl⟩
theorem A.extsOk:ExtsOk Tryz.prog:=by
 intro g fn e hf hb he
 have h:=List.all_eq_true.1 A.exts g (List.mem_range.2 (by
  rcases Nat.lt_or_ge g Tryz.prog.funcs.size with h|h
  ·exact h
  ·rw[Array.getElem?_eq_none h]at hf;cases hf))
 rw[hf]at h
 simp only[hb,he,Option.isNone_some,Bool.or_false,Bool.false_or]at h
 have hm:=memN_iff.1 h
 simp only[List.mem_cons,List.mem_nil_iff,or_false]at hm
 rcases hm with rfl|rfl|rfl|rfl
 ·exact A.ext0 fn e hf he
 ·exact A.ext1 fn e hf he
 ·exact A.ext2 fn e hf he
 ·exact A.ext3 fn e hf he
theorem A.progOk:ProgOk Tryz.prog A.tbl 10 where
 m:=A.mixed
 e:=A.extsOk
 t:=fun f mf hf=>⟨hf,fun fn hfn=>by
  have h:=List.all_eq_true.1 A.names fn (Array.mem_toList_iff.2 (Array.mem_of_getElem? hfn))
  simpa using h⟩
 g:=A.globals
end Go.Mx
