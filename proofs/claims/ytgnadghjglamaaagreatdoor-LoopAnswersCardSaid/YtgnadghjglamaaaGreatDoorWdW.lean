/-The closed facts of the row LoopAnswers, each looked at by the kernel on its own.-/
import Derived.Test.YtgnadghjglamaaaGreatDoorWdY
set_option linter.all false
namespace Go.Proofs.YtgnadghjglamaaaGreatDoor
open Go Go.ChangeShapes Go.WideShapes Go.ChangeAt Go.RowKit
open Go.Deep
set_option maxRecDepth 1000000
theorem z_named:Tryz.pinned.checked.prog.funcNamed Rows.loopAnswersRow.func=some 3:=by kernel_rfl
theorem z_wrap:Tryz.f3.isWrapper Tryz.pinned.checked.prog Rows.loopAnswersRow.wrapper Rows.loopAnswersRow.mainSum:=by
 unfold Func.isWrapper;first|(rw[if_pos (by decide+kernel)];kernel_rfl)|(rw[if_neg (by decide+kernel)];exact⟨rfl,rfl⟩)
theorem z_inst:Tryz.f3.isInstance Tryz.pinned.checked.prog Rows.loopAnswersRow.origin Rows.loopAnswersRow.targs:=of_decide_eq_true (by kernel_rfl)
set_option maxHeartbeats 8000000 in
theorem z_closed:joinedFacts Tryz.pinned.checked.prog 3 Tryz.f3 (OpenSpec.ofChange Rows.loopAnswersSpec).bare Rows.loopAnswersRow=true:=by
 simp only[joinedFacts,Bool.and_eq_true]
 refine⟨⟨⟨⟨⟨⟨⟨⟨⟨⟨⟨⟨⟨⟨⟨⟨⟨⟨⟨⟨⟨⟨⟨⟨⟨⟨⟨⟨⟨⟨⟨?_,?_⟩,?_⟩,?_⟩,?_⟩,?_⟩,?_⟩,?_⟩,?_⟩,?_⟩,?_⟩,?_⟩,?_⟩,?_⟩,?_⟩,?_⟩,?_⟩,?_⟩,?_⟩,?_⟩,?_⟩,?_⟩,?_⟩,?_⟩,?_⟩,?_⟩,?_⟩,?_⟩,?_⟩,?_⟩,?_⟩,?_⟩
 all_goals exact(by as_aux_lemma=>kernel_rfl)
end Go.Proofs.YtgnadghjglamaaaGreatDoor
