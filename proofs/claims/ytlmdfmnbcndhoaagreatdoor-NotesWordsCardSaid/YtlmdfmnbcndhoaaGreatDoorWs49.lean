/-
  NotesWords returns true for every input and leaves its arguments as they were: the row. No condition.
-/
import Derived.Test.YtlmdfmnbcndhoaaGreatDoorWs47
import Derived.Test.YtlmdfmnbcndhoaaGreatDoorWs48
import Derived.SevenTiedAt
namespace Go.Proofs.YtlmdfmnbcndhoaaGreatDoor
open Go.ChangeShapes Go.WideShapes Go.ChangeAt Go.WideElems Go.RowKit
set_option maxRecDepth 100000
theorem notesWords_holds:Rows.NotesWordsSaid :=
 OpenClaim.holds_of_wide 11 Tryz.f11 rfl rfl rfl rfl rfl rfl rfl ⟨rfl,rfl,rfl,rfl,rfl⟩ rfl rfl rfl rfl rfl notesWords_named Tryz.func11 notesWords_closed
  (of_decide_eq_true (by kernel_rfl)) (by unfold Func.isWrapper;first | (rw [if_pos (by decide +kernel)];kernel_rfl) | (rw [if_neg (by decide +kernel)];exact ⟨rfl,rfl⟩))
  (fun os started H enc _=>notesWords_lifted os started H enc)
end Go.Proofs.YtlmdfmnbcndhoaaGreatDoor
