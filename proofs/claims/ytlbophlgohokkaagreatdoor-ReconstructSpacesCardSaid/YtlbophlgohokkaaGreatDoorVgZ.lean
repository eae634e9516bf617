/-
  The statement ReconstructSpaces: for all inputs the law returns true, and its arguments read behind the call as before. No condition beside the card's own.
-/
import Derived.Test.YtlbophlgohokkaaGreatDoorVgW
set_option linter.all false
namespace Go.Proofs.YtlbophlgohokkaaGreatDoor
open Go Go.ChangeShapes Go.WideShapes Go.ChangeAt Go.RowKit
open Go.Deep
set_option maxRecDepth 1000000
theorem said:Rows.ReconstructSpacesSaid:=
 OpenClaim.holds_of_cond 7 Tryz.f7 rfl rfl rfl rfl rfl rfl rfl ⟨rfl,rfl,rfl,rfl,rfl⟩ rfl rfl rfl rfl rfl zi Tryz.func7 wj Df De
  (fun os started H enc _ F=>by rw[OpenClaim.pre_eq_preRow];exact lifted os started H enc F)
theorem plain(f:FuncId)(fn:Func)(hf:Tryz.pinned.checked.prog.funcNamed "lenslet/lensletlaw05.ReconstructSpaces" =some f)(wo:Tryz.pinned.checked.prog.funcs[f]?=some fn):
  true=Tryz.pinned.checked.prog.looks []/\∀(j:Nat) t,fn.params[j]?=some t->Tryz.pinned.checked.prog.wantsStandIn t=false:=by
 obtain rfl:f=7:=Option.some.inj ((show Tryz.prog.funcNamed "lenslet/lensletlaw05.ReconstructSpaces" =some 7 by kernel_rfl).symm.trans hf) |>.symm
 obtain rfl:fn=Tryz.f7:=(Option.some.inj (Tryz.func7.symm.trans wo)).symm
 refine⟨by as_aux_lemma=>kernel_rfl,fun j t ht=>?_⟩
 rw[Tryz.params7]at ht
 have tX:t=22:=by simpa using Array.mem_of_getElem? ht
 rcases tX with rfl
 ·exact(show Tryz.prog.wantsStandIn 22=false by kernel_rfl)
theorem reconstructSpaces_card:Rows.ReconstructSpacesCardSaid:=
 Claim7.holds_tied_plain_at .later [] _ _ _ _ said (fun _ h=>by cases h) (by as_aux_lemma=>kernel_rfl) (fun _ h=>by cases h) reconstructSpaces_row_tie rfl ⟨rfl,rfl⟩ (by as_aux_lemma=>kernel_rfl) rfl plain (by as_aux_lemma=>kernel_rfl)
end Go.Proofs.YtlbophlgohokkaaGreatDoor
