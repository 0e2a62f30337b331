/-
  NotesWritten returns true for every input and leaves its arguments as they were: the row. No condition.
-/
import Derived.Test.YtlmdfmnbcndhoaaGreatDoorWr48
import Derived.Test.YtlmdfmnbcndhoaaGreatDoorWr49
import Derived.SevenTiedAt
namespace Go.Proofs.YtlmdfmnbcndhoaaGreatDoor
open Go.ChangeShapes Go.WideShapes Go.ChangeAt Go.WideElems Go.RowKit
set_option maxRecDepth 100000
theorem notesWritten_holds:Rows.NotesWrittenSaid :=
 OpenClaim.holds_of_wide 14 Tryz.f14 rfl rfl rfl rfl rfl rfl rfl ⟨rfl,rfl,rfl,rfl,rfl⟩ rfl rfl rfl rfl rfl notesWritten_named Tryz.func14 notesWritten_closed
  (of_decide_eq_true (by kernel_rfl)) (by unfold Func.isWrapper;first | (rw [if_pos (by decide +kernel)];kernel_rfl) | (rw [if_neg (by decide +kernel)];exact ⟨rfl,rfl⟩))
  (fun os started H enc _=>notesWritten_lifted os started H enc)
end Go.Proofs.YtlmdfmnbcndhoaaGreatDoor
