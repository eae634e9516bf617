/-The program of this seat-/
import Derived.Test.YtlbnjhhebffhdaaGreatDoorAwD
import Derived.Test.YtlbnjhhebffhdaaGreatDoorChecked
set_option linter.all false
namespace Go.Mx
open Go Go.Proofs
set_option maxRecDepth 1000000
def A.mixed:Tryz.prog.follows .mixedOrders=true:=by kernel_rfl
def A.names:(Tryz.prog.funcs.toList.all fun fn=>!(fn.name== "runtime.NumGoroutine"))=true:=by kernel_rfl
def A.exts:((List.range Tryz.prog.funcs.size).all fun i=>match Tryz.prog.funcs[i]? with
  |some fn=>fn.body.isSome||(tk fn.name).isNone||JH i [236,238,300,301,269,270]
  |none=>true)=true:=by kernel_rfl
def A.globals:Tryz.prog.globals.size=11:=by kernel_rfl
def A.zfa(fn:Func)(e:Ext)(hf:Tryz.prog.funcs[236]?=some fn)(he:tk fn.name=some e):(fn.name== "runtime.NumGoroutine")=false/\Extern.findNext fn=none/\Extern.find fn=some (Zgx e):=by
 obtain rfl:fn=Tryz.f236:=(rL (Tryz.func236.symm.trans hf)).symm
 obtain rfl:e=.nd:=(rL ((show tk Tryz.f236.name=some .nd by kernel_rfl).symm.trans he)).symm
 exact⟨by kernel_rfl,by kernel_rfl,by kernel_rfl⟩
def A.zfb(fn:Func)(e:Ext)(hf:Tryz.prog.funcs[238]?=some fn)(he:tk fn.name=some e):(fn.name== "runtime.NumGoroutine")=false/\Extern.findNext fn=none/\Extern.find fn=some (Zgx e):=by
 obtain rfl:fn=Tryz.f238:=(rL (Tryz.func238.symm.trans hf)).symm
 obtain rfl:e=.nf:=(rL ((show tk Tryz.f238.name=some .nf by kernel_rfl).symm.trans he)).symm
 exact⟨by kernel_rfl,by kernel_rfl,by kernel_rfl⟩
def A.zfc(fn:Func)(e:Ext)(hf:Tryz.prog.funcs[300]?=some fn)(he:tk fn.name=some e):(fn.name== "runtime.NumGoroutine")=false/\Extern.findNext fn=none/\Extern.find fn=some (Zgx e):=by
 obtain rfl:fn=Tryz.f300:=(rL (Tryz.func300.symm.trans hf)).symm
 obtain rfl:e=.same:=(rL ((show tk Tryz.f300.name=some .same by kernel_rfl).symm.trans he)).symm
 exact⟨by kernel_rfl,by kernel_rfl,by kernel_rfl⟩
def A.zfd(fn:Func)(e:Ext)(hf:Tryz.prog.funcs[301]?=some fn)(he:tk fn.name=some e):(fn.name== "runtime.NumGoroutine")=false/\Extern.findNext fn=none/\Extern.find fn=some (Zgx e):=by
 obtain rfl:fn=Tryz.f301:=(rL (Tryz.func301.symm.trans hf)).symm
 obtain rfl:e=.zif:=(rL ((show tk Tryz.f301.name=some .zif by kernel_rfl).symm.trans he)).symm
 exact⟨by kernel_rfl,by kernel_rfl,by kernel_rfl⟩
def A.zfe(fn:Func)(e:Ext)(hf:Tryz.prog.funcs[269]?=some fn)(he:tk fn.name=some e):(fn.name== "runtime.NumGoroutine")=false/\Extern.findNext fn=none/\Extern.find fn=some (Zgx e):=by
 obtain rfl:fn=Tryz.f269:=(rL (Tryz.func269.symm.trans hf)).symm
 obtain rfl:e=.o_:=(rL ((show tk Tryz.f269.name=some .o_ by kernel_rfl).symm.trans he)).symm
 exact⟨by kernel_rfl,by kernel_rfl,by kernel_rfl⟩
def A.zff(fn:Func)(e:Ext)(hf:Tryz.prog.funcs[270]?=some fn)(he:tk fn.name=some e):(fn.name== "runtime.NumGoroutine")=false/\Extern.findNext fn=none/\Extern.find fn=some (Zgx e):=by
 obtain rfl:fn=Tryz.f270:=(rL (Tryz.func270.symm.trans hf)).symm
 obtain rfl:e=.pc:=(rL ((show tk Tryz.f270.name=some .pc by kernel_rfl).symm.trans he)).symm
 exact⟨by kernel_rfl,by kernel_rfl,by kernel_rfl⟩
def A.KL:tE Tryz.prog:=by
 intro g fn e hf hb he
 have h:=uv.1 A.exts g (Dh.2 (by
  rcases Nat.lt_or_ge g Tryz.prog.funcs.size with h|h
  ·exact h
  ·rw[Array.getElem?_eq_none h]at hf;cases hf))
 rw[hf]at h
 simp only[hb,he,Option.isNone_some,Bool.or_false,Bool.false_or]at h
 have hm:=Pv.1 h
 simp only[kV,List.mem_nil_iff,or_false]at hm
 rcases hm with rfl|rfl|rfl|rfl|rfl|rfl
 ·exact A.zfa fn e hf he
 ·exact A.zfb fn e hf he
 ·exact A.zfc fn e hf he
 ·exact A.zfd fn e hf he
 ·exact A.zfe fn e hf he
 ·exact A.zff fn e hf he
def A.yy:C7 Tryz.prog A.dL 11 where
 m:=A.mixed
 e:=A.KL
 t:=fun f mf hf=>⟨hf,fun fn A8=>by
  have h:=uv.1 A.names fn (Array.mem_toList_iff.2 (Array.mem_of_getElem? A8))
  simpa using h⟩
 g:=A.globals
end Go.Mx
