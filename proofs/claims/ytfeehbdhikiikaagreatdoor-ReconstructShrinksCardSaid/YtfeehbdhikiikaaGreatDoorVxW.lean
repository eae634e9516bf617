/-Facts-/
import Derived.Test.YtfeehbdhikiikaaGreatDoorVxY
set_option linter.all false
namespace Go.Proofs.YtfeehbdhikiikaaGreatDoor
open Go Go.ChangeShapes Go.WideShapes Go.ChangeAt Go.RowKit
open Go.Deep
set_option maxRecDepth 1000000
theorem FO:Tryz.pinned.checked.prog.funcNamed Rows.reconstructShrinksRow.func=some 3:=by kernel_rfl
theorem K4:Tryz.f3.isWrapper Tryz.pinned.checked.prog Rows.reconstructShrinksRow.wrapper Rows.reconstructShrinksRow.mainSum:=by unfold Func.isWrapper;first|(rw[if_pos (by decide+kernel)];kernel_rfl)|(rw[if_neg (by decide+kernel)];exact⟨rfl,rfl⟩)
theorem K6:Tryz.f3.isInstance Tryz.pinned.checked.prog Rows.reconstructShrinksRow.origin Rows.reconstructShrinksRow.targs:=of_decide_eq_true (by kernel_rfl)
set_option maxHeartbeats 8000000 in
theorem CK:joinedFacts Tryz.pinned.checked.prog 3 Tryz.f3 (OpenSpec.ofChange Rows.reconstructShrinksSpec).bare Rows.reconstructShrinksRow=true:=by simp only[joinedFacts,Bool.and_eq_true];refine⟨⟨⟨⟨⟨⟨⟨⟨⟨⟨⟨⟨⟨⟨⟨⟨⟨⟨⟨⟨⟨⟨⟨⟨⟨⟨⟨⟨⟨⟨⟨?_,?_⟩,?_⟩,?_⟩,?_⟩,?_⟩,?_⟩,?_⟩,?_⟩,?_⟩,?_⟩,?_⟩,?_⟩,?_⟩,?_⟩,?_⟩,?_⟩,?_⟩,?_⟩,?_⟩,?_⟩,?_⟩,?_⟩,?_⟩,?_⟩,?_⟩,?_⟩,?_⟩,?_⟩,?_⟩,?_⟩,?_⟩;all_goals exact(by as_aux_lemma=>kernel_rfl)
end Go.Proofs.YtfeehbdhikiikaaGreatDoor
