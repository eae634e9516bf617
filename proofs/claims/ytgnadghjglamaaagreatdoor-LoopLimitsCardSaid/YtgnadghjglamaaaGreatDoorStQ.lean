/-The program of this seat-/
import Derived.Test.YtgnadghjglamaaaGreatDoorAwD
import Derived.Test.YtgnadghjglamaaaGreatDoorChecked
set_option linter.all false
namespace Go.Mx
open Go Go.Proofs
set_option maxRecDepth 1000000
def A.mixed:Tryz.prog.follows .mixedOrders=true:=by kernel_rfl
def A.names:(Tryz.prog.funcs.toList.all fun fn=>!(fn.name== "runtime.NumGoroutine"))=true:=by kernel_rfl
def A.exts:((List.range Tryz.prog.funcs.size).all fun i=>match Tryz.prog.funcs[i]? with
  |some fn=>fn.body.isSome||(tR fn.name).isNone||JG i [237,249,300,301,269,270]
  |none=>true)=true:=by kernel_rfl
def A.globals:Tryz.prog.globals.size=11:=by kernel_rfl
def A.zeA(fn:Func)(e:Ext)(hf:Tryz.prog.funcs[237]?=some fn)(he:tR fn.name=some e):(fn.name== "runtime.NumGoroutine")=false/\Extern.findNext fn=none/\Extern.find fn=some (Cq e):=by
 obtain rfl:fn=Tryz.f237:=(rY (Tryz.func237.symm.trans hf)).symm
 obtain rfl:e=.nS:=(rY ((show tR Tryz.f237.name=some .nS by kernel_rfl).symm.trans he)).symm
 exact⟨by kernel_rfl,by kernel_rfl,by kernel_rfl⟩
def A.zeB(fn:Func)(e:Ext)(hf:Tryz.prog.funcs[249]?=some fn)(he:tR fn.name=some e):(fn.name== "runtime.NumGoroutine")=false/\Extern.findNext fn=none/\Extern.find fn=some (Cq e):=by
 obtain rfl:fn=Tryz.f249:=(rY (Tryz.func249.symm.trans hf)).symm
 obtain rfl:e=.nT:=(rY ((show tR Tryz.f249.name=some .nT by kernel_rfl).symm.trans he)).symm
 exact⟨by kernel_rfl,by kernel_rfl,by kernel_rfl⟩
def A.zeC(fn:Func)(e:Ext)(hf:Tryz.prog.funcs[300]?=some fn)(he:tR fn.name=some e):(fn.name== "runtime.NumGoroutine")=false/\Extern.findNext fn=none/\Extern.find fn=some (Cq e):=by
 obtain rfl:fn=Tryz.f300:=(rY (Tryz.func300.symm.trans hf)).symm
 obtain rfl:e=.same:=(rY ((show tR Tryz.f300.name=some .same by kernel_rfl).symm.trans he)).symm
 exact⟨by kernel_rfl,by kernel_rfl,by kernel_rfl⟩
def A.zeD(fn:Func)(e:Ext)(hf:Tryz.prog.funcs[301]?=some fn)(he:tR fn.name=some e):(fn.name== "runtime.NumGoroutine")=false/\Extern.findNext fn=none/\Extern.find fn=some (Cq e):=by
 obtain rfl:fn=Tryz.f301:=(rY (Tryz.func301.symm.trans hf)).symm
 obtain rfl:e=.cy:=(rY ((show tR Tryz.f301.name=some .cy by kernel_rfl).symm.trans he)).symm
 exact⟨by kernel_rfl,by kernel_rfl,by kernel_rfl⟩
def A.zeE(fn:Func)(e:Ext)(hf:Tryz.prog.funcs[269]?=some fn)(he:tR fn.name=some e):(fn.name== "runtime.NumGoroutine")=false/\Extern.findNext fn=none/\Extern.find fn=some (Cq e):=by
 obtain rfl:fn=Tryz.f269:=(rY (Tryz.func269.symm.trans hf)).symm
 obtain rfl:e=.pH:=(rY ((show tR Tryz.f269.name=some .pH by kernel_rfl).symm.trans he)).symm
 exact⟨by kernel_rfl,by kernel_rfl,by kernel_rfl⟩
def A.zeF(fn:Func)(e:Ext)(hf:Tryz.prog.funcs[270]?=some fn)(he:tR fn.name=some e):(fn.name== "runtime.NumGoroutine")=false/\Extern.findNext fn=none/\Extern.find fn=some (Cq e):=by
 obtain rfl:fn=Tryz.f270:=(rY (Tryz.func270.symm.trans hf)).symm
 obtain rfl:e=.pJ:=(rY ((show tR Tryz.f270.name=some .pJ by kernel_rfl).symm.trans he)).symm
 exact⟨by kernel_rfl,by kernel_rfl,by kernel_rfl⟩
def A.KQ:tN Tryz.prog:=by
 intro g fn e hf hb he
 have h:=sN.1 A.exts g (Sa.2 (by
  rcases Nat.lt_or_ge g Tryz.prog.funcs.size with h|h
  ·exact h
  ·rw[Array.getElem?_eq_none h]at hf;cases hf))
 rw[hf]at h
 simp only[hb,he,Option.isNone_some,Bool.or_false,Bool.false_or]at h
 have hm:=Pr.1 h
 simp only[ku,List.mem_nil_iff,or_false]at hm
 rcases hm with rfl|rfl|rfl|rfl|rfl|rfl
 ·exact A.zeA fn e hf he
 ·exact A.zeB fn e hf he
 ·exact A.zeC fn e hf he
 ·exact A.zeD fn e hf he
 ·exact A.zeE fn e hf he
 ·exact A.zeF fn e hf he
def A.yQ:Dd Tryz.prog A.dN 11 where
 m:=A.mixed
 e:=A.KQ
 t:=fun f mf hf=>⟨hf,fun fn Be=>by
  have h:=sN.1 A.names fn (Array.mem_toList_iff.2 (Array.mem_of_getElem? Be))
  simpa using h⟩
 g:=A.globals
end Go.Mx
