/-The closed facts of the row LoopRoots, each looked at by the kernel on its own.-/
import Derived.Test.YtlbnjhhebffhdaaGreatDoorWjY
set_option linter.all false
namespace Go.Proofs.YtlbnjhhebffhdaaGreatDoor
open Go Go.ChangeShapes Go.WideShapes Go.ChangeAt Go.RowKit
open Go.Deep
set_option maxRecDepth 1000000
theorem zi4:Tryz.pinned.checked.prog.funcNamed Rows.loopRootsRow.func=some 6:=by kernel_rfl
theorem zhx:Tryz.f6.isWrapper Tryz.pinned.checked.prog Rows.loopRootsRow.wrapper Rows.loopRootsRow.mainSum:=by
 unfold Func.isWrapper;first|(rw[if_pos (by decide+kernel)];kernel_rfl)|(rw[if_neg (by decide+kernel)];exact⟨rfl,rfl⟩)
theorem KN:Tryz.f6.isInstance Tryz.pinned.checked.prog Rows.loopRootsRow.origin Rows.loopRootsRow.targs:=of_decide_eq_true (by kernel_rfl)
set_option maxHeartbeats 8000000 in
theorem Aq:joinedFacts Tryz.pinned.checked.prog 6 Tryz.f6 (OpenSpec.ofChange Rows.loopRootsSpec).bare Rows.loopRootsRow=true:=by
 simp only[joinedFacts,Bool.and_eq_true]
 refine⟨⟨⟨⟨⟨⟨⟨⟨⟨⟨⟨⟨⟨⟨⟨⟨⟨⟨⟨⟨⟨⟨⟨⟨⟨⟨⟨⟨⟨⟨⟨?_,?_⟩,?_⟩,?_⟩,?_⟩,?_⟩,?_⟩,?_⟩,?_⟩,?_⟩,?_⟩,?_⟩,?_⟩,?_⟩,?_⟩,?_⟩,?_⟩,?_⟩,?_⟩,?_⟩,?_⟩,?_⟩,?_⟩,?_⟩,?_⟩,?_⟩,?_⟩,?_⟩,?_⟩,?_⟩,?_⟩,?_⟩
 all_goals exact(by as_aux_lemma=>kernel_rfl)
end Go.Proofs.YtlbnjhhebffhdaaGreatDoor
