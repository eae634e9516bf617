/-The closed facts of the row LoopLimits, each looked at by the kernel on its own.-/
import Derived.Test.YtgnadghjglamaaaGreatDoorWfY
set_option linter.all false
namespace Go.Proofs.YtgnadghjglamaaaGreatDoor
open Go Go.ChangeShapes Go.WideShapes Go.ChangeAt Go.RowKit
open Go.Deep
set_option maxRecDepth 1000000
theorem Da:Tryz.pinned.checked.prog.funcNamed Rows.loopLimitsRow.func=some 5:=by kernel_rfl
theorem KR:Tryz.f5.isWrapper Tryz.pinned.checked.prog Rows.loopLimitsRow.wrapper Rows.loopLimitsRow.mainSum:=by unfold Func.isWrapper;first|(rw[if_pos (by decide+kernel)];kernel_rfl)|(rw[if_neg (by decide+kernel)];exact⟨rfl,rfl⟩)
theorem KS:Tryz.f5.isInstance Tryz.pinned.checked.prog Rows.loopLimitsRow.origin Rows.loopLimitsRow.targs:=of_decide_eq_true (by kernel_rfl)
set_option maxHeartbeats 8000000 in
theorem Ay:joinedFacts Tryz.pinned.checked.prog 5 Tryz.f5 (OpenSpec.ofChange Rows.loopLimitsSpec).bare Rows.loopLimitsRow=true:=by simp only[joinedFacts,Bool.and_eq_true];refine⟨⟨⟨⟨⟨⟨⟨⟨⟨⟨⟨⟨⟨⟨⟨⟨⟨⟨⟨⟨⟨⟨⟨⟨⟨⟨⟨⟨⟨⟨⟨?_,?_⟩,?_⟩,?_⟩,?_⟩,?_⟩,?_⟩,?_⟩,?_⟩,?_⟩,?_⟩,?_⟩,?_⟩,?_⟩,?_⟩,?_⟩,?_⟩,?_⟩,?_⟩,?_⟩,?_⟩,?_⟩,?_⟩,?_⟩,?_⟩,?_⟩,?_⟩,?_⟩,?_⟩,?_⟩,?_⟩,?_⟩;all_goals exact(by as_aux_lemma=>kernel_rfl)
end Go.Proofs.YtgnadghjglamaaaGreatDoor
