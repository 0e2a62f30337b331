/-
  The row. No condition.
-/
import Derived.Test.YtlmdfmnbcndhoaaGreatDoorRd49
import Derived.Test.YtlmdfmnbcndhoaaGreatDoorRd50
import Derived.SevenTiedAt
namespace Go.Proofs.YtlmdfmnbcndhoaaGreatDoor
open Go.ChangeShapes Go.WideShapes Go.ChangeAt Go.WideElems Go.RowKit
set_option maxRecDepth 100000
theorem notesReads_holds:Rows.NotesReadsSaid :=
 OpenClaim.holds_of_wide 3 Tryz.f3 rfl rfl rfl rfl rfl rfl rfl ⟨rfl,rfl,rfl,rfl,rfl⟩ rfl rfl rfl rfl rfl notesReads_named Tryz.func3 notesReads_closed
  (of_decide_eq_true (by kernel_rfl)) (by unfold Func.isWrapper;first | (rw [if_pos (by decide +kernel)];kernel_rfl) | (rw [if_neg (by decide +kernel)];exact ⟨rfl,rfl⟩))
  (fun os started H enc _=>notesReads_lifted os started H enc)
end Go.Proofs.YtlmdfmnbcndhoaaGreatDoor
