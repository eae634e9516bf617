/-The closed facts of the row ReconstructAgrees, each looked at by the kernel on its own.-/
import Derived.Test.YtnkdakmfipgidaaGreatDoorVwY
set_option linter.all false
namespace Go.Proofs.YtnkdakmfipgidaaGreatDoor
open Go Go.ChangeShapes Go.WideShapes Go.ChangeAt Go.RowKit
open Go.Deep
set_option maxRecDepth 1000000
theorem FM:Tryz.pinned.checked.prog.funcNamed Rows.reconstructAgreesRow.func=some 3:=by kernel_rfl
theorem KQ:Tryz.f3.isWrapper Tryz.pinned.checked.prog Rows.reconstructAgreesRow.wrapper Rows.reconstructAgreesRow.mainSum:=by unfold Func.isWrapper;first|(rw[if_pos (by decide+kernel)];kernel_rfl)|(rw[if_neg (by decide+kernel)];exact⟨rfl,rfl⟩)
theorem KR:Tryz.f3.isInstance Tryz.pinned.checked.prog Rows.reconstructAgreesRow.origin Rows.reconstructAgreesRow.targs:=of_decide_eq_true (by kernel_rfl)
set_option maxHeartbeats 8000000 in
theorem Cw:joinedFacts Tryz.pinned.checked.prog 3 Tryz.f3 (OpenSpec.ofChange Rows.reconstructAgreesSpec).bare Rows.reconstructAgreesRow=true:=by simp only[joinedFacts,Bool.and_eq_true];refine⟨⟨⟨⟨⟨⟨⟨⟨⟨⟨⟨⟨⟨⟨⟨⟨⟨⟨⟨⟨⟨⟨⟨⟨⟨⟨⟨⟨⟨⟨⟨?_,?_⟩,?_⟩,?_⟩,?_⟩,?_⟩,?_⟩,?_⟩,?_⟩,?_⟩,?_⟩,?_⟩,?_⟩,?_⟩,?_⟩,?_⟩,?_⟩,?_⟩,?_⟩,?_⟩,?_⟩,?_⟩,?_⟩,?_⟩,?_⟩,?_⟩,?_⟩,?_⟩,?_⟩,?_⟩,?_⟩,?_⟩;all_goals exact(by as_aux_lemma=>kernel_rfl)
end Go.Proofs.YtnkdakmfipgidaaGreatDoor
