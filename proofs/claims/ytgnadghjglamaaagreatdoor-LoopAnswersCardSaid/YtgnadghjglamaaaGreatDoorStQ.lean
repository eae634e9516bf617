/-The program of this seat-/
import Derived.Test.YtgnadghjglamaaaGreatDoorAwD
import Derived.Test.YtgnadghjglamaaaGreatDoorChecked
set_option linter.all false
namespace Go.Mx
open Go Go.Proofs
set_option maxRecDepth 1000000
def A.mixed:Tryz.prog.follows .mixedOrders=true:=by kernel_rfl
def A.names:(Tryz.prog.funcs.toList.all fun fn=>!(fn.name== "runtime.NumGoroutine"))=true:=by kernel_rfl
def A.exts:((List.range Tryz.prog.funcs.size).all fun i=>match Tryz.prog.funcs[i]? with
  |some fn=>fn.body.isSome||(Zh6 fn.name).isNone||Yj6 i [237,249,300,301,269,270]
  |none=>true)=true:=by kernel_rfl
def A.globals:Tryz.prog.globals.size=11:=by kernel_rfl
def A.ext0(fn:Func)(e:Ext)(hf:Tryz.prog.funcs[237]?=some fn)(he:Zh6 fn.name=some e):(fn.name== "runtime.NumGoroutine")=false∧Extern.findNext fn=none∧Extern.find fn=some (Zgh e):=by
 obtain rfl:fn=Tryz.f237:=(Ys0 (Tryz.func237.symm.trans hf)).symm
 obtain rfl:e=.add64:=(Ys0 ((show Zh6 Tryz.f237.name=some .add64 by kernel_rfl).symm.trans he)).symm
 exact⟨by kernel_rfl,by kernel_rfl,by kernel_rfl⟩
def A.ext1(fn:Func)(e:Ext)(hf:Tryz.prog.funcs[249]?=some fn)(he:Zh6 fn.name=some e):(fn.name== "runtime.NumGoroutine")=false∧Extern.findNext fn=none∧Extern.find fn=some (Zgh e):=by
 obtain rfl:fn=Tryz.f249:=(Ys0 (Tryz.func249.symm.trans hf)).symm
 obtain rfl:e=.sub64:=(Ys0 ((show Zh6 Tryz.f249.name=some .sub64 by kernel_rfl).symm.trans he)).symm
 exact⟨by kernel_rfl,by kernel_rfl,by kernel_rfl⟩
def A.ext2(fn:Func)(e:Ext)(hf:Tryz.prog.funcs[300]?=some fn)(he:Zh6 fn.name=some e):(fn.name== "runtime.NumGoroutine")=false∧Extern.findNext fn=none∧Extern.find fn=some (Zgh e):=by
 obtain rfl:fn=Tryz.f300:=(Ys0 (Tryz.func300.symm.trans hf)).symm
 obtain rfl:e=.same:=(Ys0 ((show Zh6 Tryz.f300.name=some .same by kernel_rfl).symm.trans he)).symm
 exact⟨by kernel_rfl,by kernel_rfl,by kernel_rfl⟩
def A.ext3(fn:Func)(e:Ext)(hf:Tryz.prog.funcs[301]?=some fn)(he:Zh6 fn.name=some e):(fn.name== "runtime.NumGoroutine")=false∧Extern.findNext fn=none∧Extern.find fn=some (Zgh e):=by
 obtain rfl:fn=Tryz.f301:=(Ys0 (Tryz.func301.symm.trans hf)).symm
 obtain rfl:e=.indexByteString:=(Ys0 ((show Zh6 Tryz.f301.name=some .indexByteString by kernel_rfl).symm.trans he)).symm
 exact⟨by kernel_rfl,by kernel_rfl,by kernel_rfl⟩
def A.ext4(fn:Func)(e:Ext)(hf:Tryz.prog.funcs[269]?=some fn)(he:Zh6 fn.name=some e):(fn.name== "runtime.NumGoroutine")=false∧Extern.findNext fn=none∧Extern.find fn=some (Zgh e):=by
 obtain rfl:fn=Tryz.f269:=(Ys0 (Tryz.func269.symm.trans hf)).symm
 obtain rfl:e=.fbits:=(Ys0 ((show Zh6 Tryz.f269.name=some .fbits by kernel_rfl).symm.trans he)).symm
 exact⟨by kernel_rfl,by kernel_rfl,by kernel_rfl⟩
def A.ext5(fn:Func)(e:Ext)(hf:Tryz.prog.funcs[270]?=some fn)(he:Zh6 fn.name=some e):(fn.name== "runtime.NumGoroutine")=false∧Extern.findNext fn=none∧Extern.find fn=some (Zgh e):=by
 obtain rfl:fn=Tryz.f270:=(Ys0 (Tryz.func270.symm.trans hf)).symm
 obtain rfl:e=.ffrom:=(Ys0 ((show Zh6 Tryz.f270.name=some .ffrom by kernel_rfl).symm.trans he)).symm
 exact⟨by kernel_rfl,by kernel_rfl,by kernel_rfl⟩
def A.extsOk:Zeo Tryz.prog:=by
 intro g fn e hf hb he
 have h:=Ys5.1 A.exts g (List.mem_range.2 (by
  rcases Nat.lt_or_ge g Tryz.prog.funcs.size with h|h
  ·exact h
  ·rw[Array.getElem?_eq_none h]at hf;cases hf))
 rw[hf]at h
 simp only[hb,he,Option.isNone_some,Bool.or_false,Bool.false_or]at h
 have hm:=Zj1.1 h
 simp only[Yss,List.mem_nil_iff,or_false]at hm
 rcases hm with rfl|rfl|rfl|rfl|rfl|rfl
 ·exact A.ext0 fn e hf he
 ·exact A.ext1 fn e hf he
 ·exact A.ext2 fn e hf he
 ·exact A.ext3 fn e hf he
 ·exact A.ext4 fn e hf he
 ·exact A.ext5 fn e hf he
def A.progOk:Zlg Tryz.prog A.tbl 11 where
 m:=A.mixed
 e:=A.extsOk
 t:=fun f mf hf=>⟨hf,fun fn hfn=>by
  have h:=Ys5.1 A.names fn (Array.mem_toList_iff.2 (Array.mem_of_getElem? hfn))
  simpa using h⟩
 g:=A.globals
end Go.Mx
