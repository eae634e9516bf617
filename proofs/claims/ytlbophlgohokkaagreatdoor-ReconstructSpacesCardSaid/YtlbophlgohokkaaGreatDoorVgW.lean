/-
  The closed facts of the row ReconstructSpaces, each looked at by the kernel on its own.
-/
import Derived.Test.YtlbophlgohokkaaGreatDoorVgY
set_option linter.all false
namespace Go.Proofs.YtlbophlgohokkaaGreatDoor
open Go Go.ChangeShapes Go.WideShapes Go.ChangeAt Go.RowKit
open Go.Deep
set_option maxRecDepth 1000000
theorem zi:Tryz.pinned.checked.prog.funcNamed Rows.reconstructSpacesRow.func=some 7:=by kernel_rfl
theorem De:Tryz.f7.isWrapper Tryz.pinned.checked.prog Rows.reconstructSpacesRow.wrapper Rows.reconstructSpacesRow.mainSum:=by
 unfold Func.isWrapper;first|(rw[if_pos (by decide+kernel)];kernel_rfl)|(rw[if_neg (by decide+kernel)];exact⟨rfl,rfl⟩)
theorem Df:Tryz.f7.isInstance Tryz.pinned.checked.prog Rows.reconstructSpacesRow.origin Rows.reconstructSpacesRow.targs:=of_decide_eq_true (by kernel_rfl)
set_option maxHeartbeats 8000000 in
theorem wj:joinedFacts Tryz.pinned.checked.prog 7 Tryz.f7 (OpenSpec.ofChange Rows.reconstructSpacesSpec).bare Rows.reconstructSpacesRow=true:=by
 simp only[joinedFacts,Bool.and_eq_true]
 refine⟨⟨⟨⟨⟨⟨⟨⟨⟨⟨⟨⟨⟨⟨⟨⟨⟨⟨⟨⟨⟨⟨⟨⟨⟨⟨⟨⟨⟨⟨⟨?_,?_⟩,?_⟩,?_⟩,?_⟩,?_⟩,?_⟩,?_⟩,?_⟩,?_⟩,?_⟩,?_⟩,?_⟩,?_⟩,?_⟩,?_⟩,?_⟩,?_⟩,?_⟩,?_⟩,?_⟩,?_⟩,?_⟩,?_⟩,?_⟩,?_⟩,?_⟩,?_⟩,?_⟩,?_⟩,?_⟩,?_⟩
 all_goals exact(by as_aux_lemma=>kernel_rfl)
end Go.Proofs.YtlbophlgohokkaaGreatDoor
