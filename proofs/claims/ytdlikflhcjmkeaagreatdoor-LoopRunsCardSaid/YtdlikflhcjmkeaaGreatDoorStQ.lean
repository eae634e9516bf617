/-The program of this seat-/
import Derived.Test.YtdlikflhcjmkeaaGreatDoorAwD
import Derived.Test.YtdlikflhcjmkeaaGreatDoorChecked
set_option linter.all false
namespace Go.Mx
open Go Go.Proofs
set_option maxRecDepth 1000000
def A.mixed:Tryz.prog.follows .mixedOrders=true:=by kernel_rfl
def A.names:(Tryz.prog.funcs.toList.all fun fn=>!(fn.name== "runtime.NumGoroutine"))=true:=by kernel_rfl
def A.exts:((List.range Tryz.prog.funcs.size).all fun i=>match Tryz.prog.funcs[i]? with
  |some fn=>fn.body.isSome||(Zhv fn.name).isNone||Yi1 i [240,242,305,306,274,275]
  |none=>true)=true:=by kernel_rfl
def A.globals:Tryz.prog.globals.size=11:=by kernel_rfl
def A.ext0(fn:Func)(e:Ext)(hf:Tryz.prog.funcs[240]?=some fn)(he:Zhv fn.name=some e):(fn.name== "runtime.NumGoroutine")=false∧Extern.findNext fn=none∧Extern.find fn=some (Zgb e):=by
 obtain rfl:fn=Tryz.f240:=(Yrc (Tryz.func240.symm.trans hf)).symm
 obtain rfl:e=.add64:=(Yrc ((show Zhv Tryz.f240.name=some .add64 by kernel_rfl).symm.trans he)).symm
 exact⟨by kernel_rfl,by kernel_rfl,by kernel_rfl⟩
def A.ext1(fn:Func)(e:Ext)(hf:Tryz.prog.funcs[242]?=some fn)(he:Zhv fn.name=some e):(fn.name== "runtime.NumGoroutine")=false∧Extern.findNext fn=none∧Extern.find fn=some (Zgb e):=by
 obtain rfl:fn=Tryz.f242:=(Yrc (Tryz.func242.symm.trans hf)).symm
 obtain rfl:e=.sub64:=(Yrc ((show Zhv Tryz.f242.name=some .sub64 by kernel_rfl).symm.trans he)).symm
 exact⟨by kernel_rfl,by kernel_rfl,by kernel_rfl⟩
def A.ext2(fn:Func)(e:Ext)(hf:Tryz.prog.funcs[305]?=some fn)(he:Zhv fn.name=some e):(fn.name== "runtime.NumGoroutine")=false∧Extern.findNext fn=none∧Extern.find fn=some (Zgb e):=by
 obtain rfl:fn=Tryz.f305:=(Yrc (Tryz.func305.symm.trans hf)).symm
 obtain rfl:e=.same:=(Yrc ((show Zhv Tryz.f305.name=some .same by kernel_rfl).symm.trans he)).symm
 exact⟨by kernel_rfl,by kernel_rfl,by kernel_rfl⟩
def A.ext3(fn:Func)(e:Ext)(hf:Tryz.prog.funcs[306]?=some fn)(he:Zhv fn.name=some e):(fn.name== "runtime.NumGoroutine")=false∧Extern.findNext fn=none∧Extern.find fn=some (Zgb e):=by
 obtain rfl:fn=Tryz.f306:=(Yrc (Tryz.func306.symm.trans hf)).symm
 obtain rfl:e=.indexByteString:=(Yrc ((show Zhv Tryz.f306.name=some .indexByteString by kernel_rfl).symm.trans he)).symm
 exact⟨by kernel_rfl,by kernel_rfl,by kernel_rfl⟩
def A.ext4(fn:Func)(e:Ext)(hf:Tryz.prog.funcs[274]?=some fn)(he:Zhv fn.name=some e):(fn.name== "runtime.NumGoroutine")=false∧Extern.findNext fn=none∧Extern.find fn=some (Zgb e):=by
 obtain rfl:fn=Tryz.f274:=(Yrc (Tryz.func274.symm.trans hf)).symm
 obtain rfl:e=.fbits:=(Yrc ((show Zhv Tryz.f274.name=some .fbits by kernel_rfl).symm.trans he)).symm
 exact⟨by kernel_rfl,by kernel_rfl,by kernel_rfl⟩
def A.ext5(fn:Func)(e:Ext)(hf:Tryz.prog.funcs[275]?=some fn)(he:Zhv fn.name=some e):(fn.name== "runtime.NumGoroutine")=false∧Extern.findNext fn=none∧Extern.find fn=some (Zgb e):=by
 obtain rfl:fn=Tryz.f275:=(Yrc (Tryz.func275.symm.trans hf)).symm
 obtain rfl:e=.ffrom:=(Yrc ((show Zhv Tryz.f275.name=some .ffrom by kernel_rfl).symm.trans he)).symm
 exact⟨by kernel_rfl,by kernel_rfl,by kernel_rfl⟩
def A.extsOk:Zej Tryz.prog:=by
 intro g fn e hf hb he
 have h:=Yrs.1 A.exts g (List.mem_range.2 (by
  rcases Nat.lt_or_ge g Tryz.prog.funcs.size with h|h
  ·exact h
  ·rw[Array.getElem?_eq_none h]at hf;cases hf))
 rw[hf]at h
 simp only[hb,he,Option.isNone_some,Bool.or_false,Bool.false_or]at h
 have hm:=Zjq.1 h
 simp only[Yrd,List.mem_nil_iff,or_false]at hm
 rcases hm with rfl|rfl|rfl|rfl|rfl|rfl
 ·exact A.ext0 fn e hf he
 ·exact A.ext1 fn e hf he
 ·exact A.ext2 fn e hf he
 ·exact A.ext3 fn e hf he
 ·exact A.ext4 fn e hf he
 ·exact A.ext5 fn e hf he
def A.progOk:Zk3 Tryz.prog A.tbl 11 where
 m:=A.mixed
 e:=A.extsOk
 t:=fun f mf hf=>⟨hf,fun fn hfn=>by
  have h:=Yrs.1 A.names fn (Array.mem_toList_iff.2 (Array.mem_of_getElem? hfn))
  simpa using h⟩
 g:=A.globals
end Go.Mx
