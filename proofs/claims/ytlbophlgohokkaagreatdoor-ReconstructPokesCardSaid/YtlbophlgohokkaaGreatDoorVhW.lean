/-
  The closed facts of the row ReconstructPokes, each looked at by the kernel on its own.
-/
import Derived.Test.YtlbophlgohokkaaGreatDoorVhY
set_option linter.all false
namespace Go.Proofs.YtlbophlgohokkaaGreatDoor
open Go Go.ChangeShapes Go.WideShapes Go.ChangeAt Go.RowKit
open Go.Deep
set_option maxRecDepth 1000000
theorem A1:Tryz.pinned.checked.prog.funcNamed Rows.reconstructPokesRow.func=some 5:=by kernel_rfl
theorem Fz:Tryz.f5.isWrapper Tryz.pinned.checked.prog Rows.reconstructPokesRow.wrapper Rows.reconstructPokesRow.mainSum:=by
 unfold Func.isWrapper;first|(rw[if_pos (by decide+kernel)];kernel_rfl)|(rw[if_neg (by decide+kernel)];exact⟨rfl,rfl⟩)
theorem FA:Tryz.f5.isInstance Tryz.pinned.checked.prog Rows.reconstructPokesRow.origin Rows.reconstructPokesRow.targs:=of_decide_eq_true (by kernel_rfl)
set_option maxHeartbeats 8000000 in
theorem yo:joinedFacts Tryz.pinned.checked.prog 5 Tryz.f5 (OpenSpec.ofChange Rows.reconstructPokesSpec).bare Rows.reconstructPokesRow=true:=by
 simp only[joinedFacts,Bool.and_eq_true]
 refine⟨⟨⟨⟨⟨⟨⟨⟨⟨⟨⟨⟨⟨⟨⟨⟨⟨⟨⟨⟨⟨⟨⟨⟨⟨⟨⟨⟨⟨⟨⟨?_,?_⟩,?_⟩,?_⟩,?_⟩,?_⟩,?_⟩,?_⟩,?_⟩,?_⟩,?_⟩,?_⟩,?_⟩,?_⟩,?_⟩,?_⟩,?_⟩,?_⟩,?_⟩,?_⟩,?_⟩,?_⟩,?_⟩,?_⟩,?_⟩,?_⟩,?_⟩,?_⟩,?_⟩,?_⟩,?_⟩,?_⟩
 all_goals exact(by as_aux_lemma=>kernel_rfl)
end Go.Proofs.YtlbophlgohokkaaGreatDoor
