/-
  The program of this seat: what the machine M asks of it.
-/
import Derived.Test.YtkdpkgfpnimekaaGreatDoorMxUse
import Derived.Test.YtkdpkgfpnimekaaGreatDoorAwD
import Derived.Test.YtkdpkgfpnimekaaGreatDoorChecked
set_option linter.all false
namespace Go.Mx
open Go Go.Proofs
set_option maxRecDepth 1000000
theorem A.mixed : Tryz.prog.follows .mixedOrders = true := by kernel_rfl
theorem A.names : (Tryz.prog.funcs.toList.all fun fn => !(fn.name == "runtime.NumGoroutine")) = true := by kernel_rfl
theorem A.exts : ((List.range Tryz.prog.funcs.size).all fun i => match Tryz.prog.funcs[i]? with
    | some fn => fn.body.isSome || (extOf fn.name).isNone || memN i [222, 223, 230, 232]
    | none => true) = true := by kernel_rfl
theorem A.globals : Tryz.prog.globals.size = 10 := by kernel_rfl
theorem A.ext0 (fn : Func) (e : Ext) (hf : Tryz.prog.funcs[222]? = some fn) (he : extOf fn.name = some e) : (fn.name == "runtime.NumGoroutine") = false ∧ Extern.findNext fn = none ∧ Extern.find fn = some (entryOf e) := by
  obtain rfl : fn = Tryz.f222 := (Option.some.inj (Tryz.func222.symm.trans hf)).symm
  obtain rfl : e = .add64 := (Option.some.inj ((show extOf Tryz.f222.name = some .add64 by kernel_rfl).symm.trans he)).symm
  exact ⟨by kernel_rfl, by kernel_rfl, by kernel_rfl⟩
theorem A.ext1 (fn : Func) (e : Ext) (hf : Tryz.prog.funcs[223]? = some fn) (he : extOf fn.name = some e) : (fn.name == "runtime.NumGoroutine") = false ∧ Extern.findNext fn = none ∧ Extern.find fn = some (entryOf e) := by
  obtain rfl : fn = Tryz.f223 := (Option.some.inj (Tryz.func223.symm.trans hf)).symm
  obtain rfl : e = .sub64 := (Option.some.inj ((show extOf Tryz.f223.name = some .sub64 by kernel_rfl).symm.trans he)).symm
  exact ⟨by kernel_rfl, by kernel_rfl, by kernel_rfl⟩
theorem A.ext2 (fn : Func) (e : Ext) (hf : Tryz.prog.funcs[230]? = some fn) (he : extOf fn.name = some e) : (fn.name == "runtime.NumGoroutine") = false ∧ Extern.findNext fn = none ∧ Extern.find fn = some (entryOf e) := by
  obtain rfl : fn = Tryz.f230 := (Option.some.inj (Tryz.func230.symm.trans hf)).symm
  obtain rfl : e = .same := (Option.some.inj ((show extOf Tryz.f230.name = some .same by kernel_rfl).symm.trans he)).symm
  exact ⟨by kernel_rfl, by kernel_rfl, by kernel_rfl⟩
theorem A.ext3 (fn : Func) (e : Ext) (hf : Tryz.prog.funcs[232]? = some fn) (he : extOf fn.name = some e) : (fn.name == "runtime.NumGoroutine") = false ∧ Extern.findNext fn = none ∧ Extern.find fn = some (entryOf e) := by
  obtain rfl : fn = Tryz.f232 := (Option.some.inj (Tryz.func232.symm.trans hf)).symm
  obtain rfl : e = .indexByteString := (Option.some.inj ((show extOf Tryz.f232.name = some .indexByteString by kernel_rfl).symm.trans he)).symm
  exact ⟨by kernel_rfl, by kernel_rfl, by kernel_rfl⟩

theorem A.extsOk : ExtsOk Tryz.prog := by
  intro g fn e hf hb he
  have h := List.all_eq_true.1 A.exts g (List.mem_range.2 (by
    rcases Nat.lt_or_ge g Tryz.prog.funcs.size with h | h
    · exact h
    · rw [Array.getElem?_eq_none h] at hf; cases hf))
  rw [hf] at h
  simp only [hb, he, Option.isNone_some, Bool.or_false, Bool.false_or] at h
  have hm := memN_iff.1 h
  simp only [List.mem_cons, List.mem_nil_iff, or_false] at hm
  rcases hm with rfl | rfl | rfl | rfl
  · exact A.ext0 fn e hf he
  · exact A.ext1 fn e hf he
  · exact A.ext2 fn e hf he
  · exact A.ext3 fn e hf he

theorem A.progOk : ProgOk Tryz.prog A.tbl 10 where
  m := A.mixed
  e := A.extsOk
  t := fun f mf hf => ⟨hf, fun fn hfn => by
    have h := List.all_eq_true.1 A.names fn (Array.mem_toList_iff.2 (Array.mem_of_getElem? hfn))
    simpa using h⟩
  g := A.globals
end Go.Mx
