/-
  The row. No condition.
-/
import Derived.Test.YtlmdfmnbcndhoaaGreatDoorRi46
import Derived.Test.YtlmdfmnbcndhoaaGreatDoorRi47
import Derived.SevenTiedAt
namespace Go.Proofs.YtlmdfmnbcndhoaaGreatDoor
open Go.ChangeShapes Go.WideShapes Go.ChangeAt Go.WideElems Go.RowKit
set_option maxRecDepth 100000
theorem notesItems_holds:Rows.NotesItemsSaid :=
 OpenClaim.holds_of_wide 6 Tryz.f6 rfl rfl rfl rfl rfl rfl rfl ⟨rfl,rfl,rfl,rfl,rfl⟩ rfl rfl rfl rfl rfl notesItems_named Tryz.func6 notesItems_closed
  (of_decide_eq_true (by kernel_rfl)) (by unfold Func.isWrapper;first | (rw [if_pos (by decide +kernel)];kernel_rfl) | (rw [if_neg (by decide +kernel)];exact ⟨rfl,rfl⟩))
  (fun os started H enc _=>notesItems_lifted os started H enc)
end Go.Proofs.YtlmdfmnbcndhoaaGreatDoor
