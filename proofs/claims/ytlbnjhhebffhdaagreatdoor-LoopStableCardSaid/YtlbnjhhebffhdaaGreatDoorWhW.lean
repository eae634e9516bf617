/-The closed facts of the row LoopStable, each looked at by the kernel on its own.-/
import Derived.Test.YtlbnjhhebffhdaaGreatDoorWhY
set_option linter.all false
namespace Go.Proofs.YtlbnjhhebffhdaaGreatDoor
open Go Go.ChangeShapes Go.WideShapes Go.ChangeAt Go.RowKit
open Go.Deep
set_option maxRecDepth 1000000
theorem zi4:Tryz.pinned.checked.prog.funcNamed Rows.loopStableRow.func=some 3:=by kernel_rfl
theorem zhx:Tryz.f3.isWrapper Tryz.pinned.checked.prog Rows.loopStableRow.wrapper Rows.loopStableRow.mainSum:=by
 unfold Func.isWrapper;first|(rw[if_pos (by decide+kernel)];kernel_rfl)|(rw[if_neg (by decide+kernel)];exact⟨rfl,rfl⟩)
theorem KN:Tryz.f3.isInstance Tryz.pinned.checked.prog Rows.loopStableRow.origin Rows.loopStableRow.targs:=of_decide_eq_true (by kernel_rfl)
set_option maxHeartbeats 8000000 in
theorem Aq:joinedFacts Tryz.pinned.checked.prog 3 Tryz.f3 (OpenSpec.ofChange Rows.loopStableSpec).bare Rows.loopStableRow=true:=by
 simp only[joinedFacts,Bool.and_eq_true]
 refine⟨⟨⟨⟨⟨⟨⟨⟨⟨⟨⟨⟨⟨⟨⟨⟨⟨⟨⟨⟨⟨⟨⟨⟨⟨⟨⟨⟨⟨⟨⟨?_,?_⟩,?_⟩,?_⟩,?_⟩,?_⟩,?_⟩,?_⟩,?_⟩,?_⟩,?_⟩,?_⟩,?_⟩,?_⟩,?_⟩,?_⟩,?_⟩,?_⟩,?_⟩,?_⟩,?_⟩,?_⟩,?_⟩,?_⟩,?_⟩,?_⟩,?_⟩,?_⟩,?_⟩,?_⟩,?_⟩,?_⟩
 all_goals exact(by as_aux_lemma=>kernel_rfl)
end Go.Proofs.YtlbnjhhebffhdaaGreatDoor
