/-
  The program of this seat: what the machine M asks of it.
-/
import Derived.Test.YtlbophlgohokkaaGreatDoorMxTab
import Derived.Test.YtlbophlgohokkaaGreatDoorAwD
import Derived.Test.YtlbophlgohokkaaGreatDoorChecked
set_option linter.all false
namespace Go.Mx
open Go Go.Proofs
set_option maxRecDepth 1000000
theorem A.mixed:Tryz.prog.follows .mixedOrders=true:=by kernel_rfl
theorem A.names:(Tryz.prog.funcs.toList.all fun fn=>!(fn.name== "runtime.NumGoroutine"))=true:=by kernel_rfl
theorem A.exts:((List.range Tryz.prog.funcs.size).all fun i=>match Tryz.prog.funcs[i]? with
  |some fn=>fn.body.isSome||(Zkm fn.name).isNone||Yhv i [262,280,299,318]
  |none=>true)=true:=by kernel_rfl
theorem A.globals:Tryz.prog.globals.size=10:=by kernel_rfl
theorem A.ext0(fn:Func)(e:Ext)(hf:Tryz.prog.funcs[262]?=some fn)(he:Zkm fn.name=some e):(fn.name== "runtime.NumGoroutine")=false∧Extern.findNext fn=none∧Extern.find fn=some (Zib e):=by
 obtain rfl:fn=Tryz.f262:=(Yp8 (Tryz.func262.symm.trans hf)).symm
 obtain rfl:e=.add64:=(Yp8 ((show Zkm Tryz.f262.name=some .add64 by kernel_rfl).symm.trans he)).symm
 exact⟨by kernel_rfl,by kernel_rfl,by kernel_rfl⟩
theorem A.ext1(fn:Func)(e:Ext)(hf:Tryz.prog.funcs[280]?=some fn)(he:Zkm fn.name=some e):(fn.name== "runtime.NumGoroutine")=false∧Extern.findNext fn=none∧Extern.find fn=some (Zib e):=by
 obtain rfl:fn=Tryz.f280:=(Yp8 (Tryz.func280.symm.trans hf)).symm
 obtain rfl:e=.sub64:=(Yp8 ((show Zkm Tryz.f280.name=some .sub64 by kernel_rfl).symm.trans he)).symm
 exact⟨by kernel_rfl,by kernel_rfl,by kernel_rfl⟩
theorem A.ext2(fn:Func)(e:Ext)(hf:Tryz.prog.funcs[299]?=some fn)(he:Zkm fn.name=some e):(fn.name== "runtime.NumGoroutine")=false∧Extern.findNext fn=none∧Extern.find fn=some (Zib e):=by
 obtain rfl:fn=Tryz.f299:=(Yp8 (Tryz.func299.symm.trans hf)).symm
 obtain rfl:e=.same:=(Yp8 ((show Zkm Tryz.f299.name=some .same by kernel_rfl).symm.trans he)).symm
 exact⟨by kernel_rfl,by kernel_rfl,by kernel_rfl⟩
theorem A.ext3(fn:Func)(e:Ext)(hf:Tryz.prog.funcs[318]?=some fn)(he:Zkm fn.name=some e):(fn.name== "runtime.NumGoroutine")=false∧Extern.findNext fn=none∧Extern.find fn=some (Zib e):=by
 obtain rfl:fn=Tryz.f318:=(Yp8 (Tryz.func318.symm.trans hf)).symm
 obtain rfl:e=.indexByteString:=(Yp8 ((show Zkm Tryz.f318.name=some .indexByteString by kernel_rfl).symm.trans he)).symm
 exact⟨by kernel_rfl,by kernel_rfl,by kernel_rfl⟩
theorem A.extsOk:Zeb Tryz.prog:=by
 intro g fn e hf hb he
 have h:=Ypv.1 A.exts g (Yr6.2 (by
  rcases Nat.lt_or_ge g Tryz.prog.funcs.size with h|h
  ·exact h
  ·rw[Array.getElem?_eq_none h]at hf;cases hf))
 rw[hf]at h
 simp only[hb,he,Option.isNone_some,Bool.or_false,Bool.false_or]at h
 have hm:=Zi9.1 h
 simp only[Ypy,List.mem_nil_iff,or_false]at hm
 rcases hm with rfl|rfl|rfl|rfl
 ·exact A.ext0 fn e hf he
 ·exact A.ext1 fn e hf he
 ·exact A.ext2 fn e hf he
 ·exact A.ext3 fn e hf he
theorem A.progOk:Zkh Tryz.prog A.tbl 10 where
 m:=A.mixed
 e:=A.extsOk
 t:=fun f mf hf=>⟨hf,fun fn hfn=>by
  have h:=Ypv.1 A.names fn (Array.mem_toList_iff.2 (Array.mem_of_getElem? hfn))
  simpa using h⟩
 g:=A.globals
end Go.Mx
