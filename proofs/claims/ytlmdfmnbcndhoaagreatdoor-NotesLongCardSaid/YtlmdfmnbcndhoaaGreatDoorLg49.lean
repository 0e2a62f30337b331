/-
  NotesLong returns true for every input and leaves its arguments as they were: the row. No condition.
-/
import Derived.Test.YtlmdfmnbcndhoaaGreatDoorLg47
import Derived.Test.YtlmdfmnbcndhoaaGreatDoorLg48
import Derived.SevenTiedAt
namespace Go.Proofs.YtlmdfmnbcndhoaaGreatDoor
open Go.ChangeShapes Go.WideShapes Go.ChangeAt Go.WideElems Go.RowKit
set_option maxRecDepth 100000
theorem notesLong_holds:Rows.NotesLongSaid :=
 OpenClaim.holds_of_wide 13 Tryz.f13 rfl rfl rfl rfl rfl rfl rfl ⟨rfl,rfl,rfl,rfl,rfl⟩ rfl rfl rfl rfl rfl notesLong_named Tryz.func13 notesLong_closed
  (of_decide_eq_true (by kernel_rfl)) (by unfold Func.isWrapper;first | (rw [if_pos (by decide +kernel)];kernel_rfl) | (rw [if_neg (by decide +kernel)];exact ⟨rfl,rfl⟩))
  (fun os started H enc _=>notesLong_lifted os started H enc)
end Go.Proofs.YtlmdfmnbcndhoaaGreatDoor
