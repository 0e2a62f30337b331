/-
  The row. No condition.
-/
import Derived.Test.YtlmdfmnbcndhoaaGreatDoorRq51
import Derived.Test.YtlmdfmnbcndhoaaGreatDoorRq52
import Derived.SevenTiedAt
namespace Go.Proofs.YtlmdfmnbcndhoaaGreatDoor
open Go.ChangeShapes Go.WideShapes Go.ChangeAt Go.WideElems Go.RowKit
set_option maxRecDepth 100000
theorem notesSequences_holds:Rows.NotesSequencesSaid :=
 OpenClaim.holds_of_wide 8 Tryz.f8 rfl rfl rfl rfl rfl rfl rfl ⟨rfl,rfl,rfl,rfl,rfl⟩ rfl rfl rfl rfl rfl notesSequences_named Tryz.func8 notesSequences_closed
  (of_decide_eq_true (by kernel_rfl)) (by unfold Func.isWrapper;first | (rw [if_pos (by decide +kernel)];kernel_rfl) | (rw [if_neg (by decide +kernel)];exact ⟨rfl,rfl⟩))
  (fun os started H enc _=>notesSequences_lifted os started H enc)
end Go.Proofs.YtlmdfmnbcndhoaaGreatDoor
