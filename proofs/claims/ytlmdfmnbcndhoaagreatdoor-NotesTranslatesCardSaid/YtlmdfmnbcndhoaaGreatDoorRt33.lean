/-
  The row. No condition.
-/
import Derived.Test.YtlmdfmnbcndhoaaGreatDoorRt31
import Derived.Test.YtlmdfmnbcndhoaaGreatDoorRt32
namespace Go.Proofs.YtlmdfmnbcndhoaaGreatDoor
open Go.ChangeShapes Go.WideShapes Go.ChangeAt Go.WideElems Go.RowKit
set_option maxRecDepth 100000
theorem notesTranslates_holds:Rows.NotesTranslatesSaid :=
 OpenClaim.holds_of_wide 10 Tryz.f10 rfl rfl rfl rfl rfl rfl rfl ⟨rfl,rfl,rfl,rfl,rfl⟩ rfl rfl rfl rfl rfl notesTranslates_named Tryz.func10 notesTranslates_closed
  (of_decide_eq_true (by kernel_rfl)) (by unfold Func.isWrapper;first | (rw [if_pos (by decide +kernel)];kernel_rfl) | (rw [if_neg (by decide +kernel)];exact ⟨rfl,rfl⟩))
  (fun os started H enc _=>notesTranslates_lifted os started H enc)
end Go.Proofs.YtlmdfmnbcndhoaaGreatDoor
