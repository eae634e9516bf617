/-The statement TopDamperEchoes: for all inputs the law returns true, and its arguments read behind the call as before. No condition beside the card's own.-/
import Derived.Test.YtjjmkflbfpeagaaGreatDoorWqW
set_option linter.all false
namespace Go.Proofs.YtjjmkflbfpeagaaGreatDoor
open Go Go.ChangeShapes Go.WideShapes Go.ChangeAt Go.RowKit
open Go.Deep
set_option maxRecDepth 1000000
theorem said:Rows.TopDamperEchoesSaid:=
 OpenClaim.holds_of_cond 3 Tryz.f3 rfl rfl rfl rfl rfl rfl rfl ⟨rfl,rfl,rfl,rfl,rfl⟩ rfl rfl rfl rfl rfl Bq Tryz.func3 yL FT FR
  (fun os started H enc _ F=>by rw[OpenClaim.pre_eq_preRow];exact lifted os started H enc F)
theorem plain(f:FuncId)(fn:Func)(hf:Tryz.pinned.checked.prog.funcNamed "lenslet/lenslettop.TopDamperEchoes" =some f)(zE:Tryz.pinned.checked.prog.funcs[f]?=some fn):
  true=Tryz.pinned.checked.prog.looks []/\∀(j:Nat) t,fn.params[j]?=some t->Tryz.pinned.checked.prog.wantsStandIn t=false:=by
 obtain rfl:f=3:=Option.some.inj ((show Tryz.prog.funcNamed "lenslet/lenslettop.TopDamperEchoes" =some 3 by kernel_rfl).symm.trans hf) |>.symm
 obtain rfl:fn=Tryz.f3:=(Option.some.inj (Tryz.func3.symm.trans zE)).symm
 refine⟨by as_aux_lemma=>kernel_rfl,fun j t ht=>?_⟩
 rw[Tryz.params3]at ht
 have rQ:t=24\/t=5:=by first|simpa using Array.mem_of_getElem? ht|(have q:=Array.mem_of_getElem? ht;simp at q;rcases q with q|q|q<;>simp[q])
 rcases rQ with rfl|rfl
 ·exact(show Tryz.prog.wantsStandIn 24=false by kernel_rfl)
 ·exact(show Tryz.prog.wantsStandIn 5=false by kernel_rfl)
theorem topDamperEchoes_card:Rows.TopDamperEchoesCardSaid:=
 Claim7.holds_tied_plain_at .later [] _ _ _ _ said (fun _ h=>by cases h) (by as_aux_lemma=>kernel_rfl) (fun _ h=>by cases h) topDamperEchoes_row_tie rfl ⟨rfl,rfl⟩ (by as_aux_lemma=>kernel_rfl) rfl plain (by as_aux_lemma=>kernel_rfl)
end Go.Proofs.YtjjmkflbfpeagaaGreatDoor
