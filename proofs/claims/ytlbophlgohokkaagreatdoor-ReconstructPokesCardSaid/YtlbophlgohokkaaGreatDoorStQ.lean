/-
  The program of this seat: what the machine M asks of it.
-/
import Derived.Test.YtlbophlgohokkaaGreatDoorMxTab
import Derived.Test.YtlbophlgohokkaaGreatDoorAwD
import Derived.Test.YtlbophlgohokkaaGreatDoorChecked
set_option linter.all false
namespace Go.Mx
open Go Go.Proofs
set_option maxRecDepth 1000000
theorem A.mixed:Tryz.prog.follows .mixedOrders=true:=by kernel_rfl
theorem A.names:(Tryz.prog.funcs.toList.all fun fn=>!(fn.name== "runtime.NumGoroutine"))=true:=by kernel_rfl
theorem A.exts:((List.range Tryz.prog.funcs.size).all fun i=>match Tryz.prog.funcs[i]? with
  |some fn=>fn.body.isSome||(vL fn.name).isNone||D4 i [262,280,299,318]
  |none=>true)=true:=by kernel_rfl
theorem A.globals:Tryz.prog.globals.size=10:=by kernel_rfl
theorem A.V0(fn:Func)(e:Ext)(hf:Tryz.prog.funcs[262]?=some fn)(he:vL fn.name=some e):(fn.name== "runtime.NumGoroutine")=false/\Extern.findNext fn=none/\Extern.find fn=some (DP e):=by
 obtain rfl:fn=Tryz.f262:=(p_ (Tryz.func262.symm.trans hf)).symm
 obtain rfl:e=.eJ:=(p_ ((show vL Tryz.f262.name=some .eJ by kernel_rfl).symm.trans he)).symm
 exact⟨by kernel_rfl,by kernel_rfl,by kernel_rfl⟩
theorem A.V1(fn:Func)(e:Ext)(hf:Tryz.prog.funcs[280]?=some fn)(he:vL fn.name=some e):(fn.name== "runtime.NumGoroutine")=false/\Extern.findNext fn=none/\Extern.find fn=some (DP e):=by
 obtain rfl:fn=Tryz.f280:=(p_ (Tryz.func280.symm.trans hf)).symm
 obtain rfl:e=.gQ:=(p_ ((show vL Tryz.f280.name=some .gQ by kernel_rfl).symm.trans he)).symm
 exact⟨by kernel_rfl,by kernel_rfl,by kernel_rfl⟩
theorem A.V2(fn:Func)(e:Ext)(hf:Tryz.prog.funcs[299]?=some fn)(he:vL fn.name=some e):(fn.name== "runtime.NumGoroutine")=false/\Extern.findNext fn=none/\Extern.find fn=some (DP e):=by
 obtain rfl:fn=Tryz.f299:=(p_ (Tryz.func299.symm.trans hf)).symm
 obtain rfl:e=.same:=(p_ ((show vL Tryz.f299.name=some .same by kernel_rfl).symm.trans he)).symm
 exact⟨by kernel_rfl,by kernel_rfl,by kernel_rfl⟩
theorem A.V3(fn:Func)(e:Ext)(hf:Tryz.prog.funcs[318]?=some fn)(he:vL fn.name=some e):(fn.name== "runtime.NumGoroutine")=false/\Extern.findNext fn=none/\Extern.find fn=some (DP e):=by
 obtain rfl:fn=Tryz.f318:=(p_ (Tryz.func318.symm.trans hf)).symm
 obtain rfl:e=.bE:=(p_ ((show vL Tryz.f318.name=some .bE by kernel_rfl).symm.trans he)).symm
 exact⟨by kernel_rfl,by kernel_rfl,by kernel_rfl⟩
theorem A.Fw:rm Tryz.prog:=by
 intro g fn e hf hb he
 have h:=m8.1 A.exts g (zB.2 (by
  rcases Nat.lt_or_ge g Tryz.prog.funcs.size with h|h
  ·exact h
  ·rw[Array.getElem?_eq_none h]at hf;cases hf))
 rw[hf]at h
 simp only[hb,he,Option.isNone_some,Bool.or_false,Bool.false_or]at h
 have hm:=Je.1 h
 simp only[kb,List.mem_nil_iff,or_false]at hm
 rcases hm with rfl|rfl|rfl|rfl
 ·exact A.V0 fn e hf he
 ·exact A.V1 fn e hf he
 ·exact A.V2 fn e hf he
 ·exact A.V3 fn e hf he
theorem A.wH:A5 Tryz.prog A.dc 10 where
 m:=A.mixed
 e:=A.Fw
 t:=fun f mf hf=>⟨hf,fun fn ze=>by
  have h:=m8.1 A.names fn (Array.mem_toList_iff.2 (Array.mem_of_getElem? ze))
  simpa using h⟩
 g:=A.globals
end Go.Mx
