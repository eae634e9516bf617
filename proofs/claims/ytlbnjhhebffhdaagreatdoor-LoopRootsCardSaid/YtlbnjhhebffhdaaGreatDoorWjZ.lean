/-The statement LoopRoots: for all inputs the law returns true, and its arguments read behind the call as before. No condition beside the card's own.-/
import Derived.Test.YtlbnjhhebffhdaaGreatDoorWjW
set_option linter.all false
namespace Go.Proofs.YtlbnjhhebffhdaaGreatDoor
open Go Go.ChangeShapes Go.WideShapes Go.ChangeAt Go.RowKit
open Go.Deep
set_option maxRecDepth 1000000
theorem said:Rows.LoopRootsSaid:=
 OpenClaim.holds_of_cond 6 Tryz.f6 rfl rfl rfl rfl rfl rfl rfl ⟨rfl,rfl,rfl,rfl,rfl⟩ rfl rfl rfl rfl rfl zi4 Tryz.func6 Aq KN zhx
  (fun os started H enc _ F=>by rw[OpenClaim.pre_eq_preRow];exact lifted os started H enc F)
theorem plain(f:FuncId)(fn:Func)(hf:Tryz.pinned.checked.prog.funcNamed "lenslet/lensletlaw06.LoopRoots" =some f)(A8:Tryz.pinned.checked.prog.funcs[f]?=some fn):
  true=Tryz.pinned.checked.prog.looks []/\∀(j:Nat) t,fn.params[j]?=some t->Tryz.pinned.checked.prog.wantsStandIn t=false:=by
 obtain rfl:f=6:=Option.some.inj ((show Tryz.prog.funcNamed "lenslet/lensletlaw06.LoopRoots" =some 6 by kernel_rfl).symm.trans hf) |>.symm
 obtain rfl:fn=Tryz.f6:=(Option.some.inj (Tryz.func6.symm.trans A8)).symm
 refine⟨by as_aux_lemma=>kernel_rfl,fun j t ht=>?_⟩
 rw[Tryz.params6]at ht
 have yh:t=70\/t=71:=by first|simpa using Array.mem_of_getElem? ht|(have q:=Array.mem_of_getElem? ht;simp at q;rcases q with q|q|q<;>simp[q])
 rcases yh with rfl|rfl
 ·exact(show Tryz.prog.wantsStandIn 70=false by kernel_rfl)
 ·exact(show Tryz.prog.wantsStandIn 71=false by kernel_rfl)
theorem loopRoots_card:Rows.LoopRootsCardSaid:=
 Claim7.holds_tied_plain_at .later [] _ _ _ _ said (fun _ h=>by cases h) (by as_aux_lemma=>kernel_rfl) (fun _ h=>by cases h) loopRoots_row_tie rfl ⟨rfl,rfl⟩ (by as_aux_lemma=>kernel_rfl) rfl plain (by as_aux_lemma=>kernel_rfl)
end Go.Proofs.YtlbnjhhebffhdaaGreatDoor
